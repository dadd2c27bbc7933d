/- The laws' asked: a fact on challenges. -/
import Derived.Test.YtegbacpenolehaaGreatDoorBest
import Derived.Test.YtegbacpenolehaaGreatDoorAskRes0
namespace Go.Proofs.YtegbacpenolehaaGreatDoor
open Go.RowKit

def askedT : Bs := [66, 97, 115, 105, 99, 32, 114, 101, 97, 108, 109, 61, 34, 114, 34, 44, 32, 44, 32, 68, 105, 103, 101, 115, 116, 32, 110, 111, 110, 99, 101, 32, 61, 32, 110, 44, 114, 101, 97, 108, 109, 61, 115, 44, 78, 101, 103, 111, 116, 105, 97, 116, 101, 32, 97, 98, 99, 61, 61]
def askedC : List Cha := [⟨[66, 97, 115, 105, 99], [], [(nRealm, [114])]⟩, ⟨[68, 105, 103, 101, 115, 116], [], [(nNonce, [110]), (nRealm, [115])]⟩, ⟨[78, 101, 103, 111, 116, 105, 97, 116, 101], [97, 98, 99, 61, 61], []⟩]
theorem asked_chas : chasL askedT = .ok askedC := by kernel_rfl
theorem asked_bestS : (bestL askedC).scheme = 2 := by kernel_rfl
theorem asked_bestR : (bestL askedC).realm = ⟨#[115]⟩ := by kernel_rfl
theorem asked_bestN : (bestL askedC).nonce = ⟨#[110]⟩ := by kernel_rfl
theorem asked_fit : ∀ x ∈ askedC, x.Fit := by
  intro x hx
  simp only [askedC, List.mem_cons, List.not_mem_nil, or_false] at hx
  rcases hx with rfl | rfl | rfl <;> exact ⟨by decide, by decide, by decide, by decide⟩
set_option maxRecDepth 100000 in
set_option maxHeartbeats 4000000 in
theorem asked_any (w : World) : Calls Tryz.prog 12 #[] w fun e w' => e = .returned (.bool true) ∧ Fr noB w w' := by
  go_enter Tryz.func12, Tryz.ntmps12
  go_wp2_with fail
  refine (Parse_ok (s := ⟨askedT.toArray⟩) (l := askedC) (by decide) asked_chas).mono ?_
  rintro e w1 ⟨a, c, rfl, hc, hf1⟩
  go_wp2_with fail
  refine (Best_any _ askedC w1 hc (by decide) asked_fit).mono ?_
  rintro e w2 ⟨hf2, r, hr, rfl⟩
  have hone := ask_all r (Reads.dom1 hr)
  have e0 : r.scheme = 2 := hr.1.trans asked_bestS
  have e1 : r.realm = ⟨#[115]⟩ := hr.2.1.trans asked_bestR
  have e2 : r.nonce = ⟨#[110]⟩ := hr.2.2.1.trans asked_bestN
  obtain ⟨y, hy⟩ : ∃ y, y = r.cells.toArray := ⟨_, rfl⟩
  have hyk : y.size = 8 := by rw [hy]; rfl
  have hro : y.all (·.oneCell') = true := by rw [hy]; exact hone
  have hri : (Tryz.prog.info? 40).map (·.size) = some y.size := by rw [hyk]; kernel_rfl
  have hyz : zAskA.size = y.size := by rw [hyk]; rfl
  obtain ⟨w3, hw3⟩ : ∃ w3, w3 = w2.alloc (.cells y 40) := ⟨_, rfl⟩
  have hb3 : AskBlk w3 w2.heap.size r := by rw [hw3, hy]; exact new_block _ _
  have hf3 : Fr noB w1 w3 := by rw [hw3]; exact hf2.alloc _
  have HF3 := Lib.hid (hf1.trans hf3)
  have n0 : w3.cell? ⟨w2.heap.size, 0, none⟩ = some (.int .i64 2) := by rw [← e0]; exact hb3.cell rfl
  have n1 : w3.cell? ⟨w2.heap.size, 1, none⟩ = some (.string ⟨#[115]⟩) := by rw [← e1]; exact hb3.cell rfl
  have n2 : w3.cell? ⟨w2.heap.size, 2, none⟩ = some (.string ⟨#[110]⟩) := by rw [← e2]; exact hb3.cell rfl
  obtain ⟨bk, of, pv, rfl, g1, g2, _, _, c2, hp⟩ := (hc.frNone hf3).cells (k := 0) (x := ⟨[66, 97, 115, 105, 99], [], [(nRealm, [114])]⟩) rfl
  obtain ⟨bk', of', pv', hbk, _, _, _, d1, _, _⟩ := (hc.frNone hf3).cells (k := 2) (x := ⟨[78, 101, 103, 111, 116, 105, 97, 116, 101], [97, 98, 99, 61, 61], []⟩) rfl
  injection hbk with hbk
  injection hbk with hb1 hb2
  subst hb1 hb2
  obtain ⟨pa, pc, rfl⟩ := hp.form
  unfold maxLen at g2
  have g1' : (3 : Int) ≤ (c : Int) := by have : 3 ≤ c := g1; omega
  have HW3 := Lib.hid hw3
  have c2' : w3.cell? ⟨bk, of + 2, none⟩ = some (.slice pa 1 pc) := by simpa using c2
  have d1' : w3.cell? ⟨bk, of + 7, none⟩ = some (.string ⟨#[97, 98, 99, 61, 61]⟩) := d1
  have d1'' : w3.cell? ⟨bk, of + 6 + 1, none⟩ = some (.string ⟨#[97, 98, 99, 61, 61]⟩) := d1
  rw [show askedC.length = 3 from rfl]
  rw [show (bestL askedC).scheme = 2 from asked_bestS]
  rw [← hy]
  clear hy hw3 hr hf2 hf3 hb3 hc hone e0 e1 e2 hp d1
  go_wp2_with (first | ((with_reducible refine wpList_at ⟨none, .store 40 (.tmp 3) (.tmp 19), _, _, _, _⟩ ?_); go_must (refine wpList_store_new rfl 40 (.tmp 3) (.tmp 19) rfl zAskA y rfl rfl hri hyz hro ?_); rw [← HW3.out]) | fail)
  go_ret
  exact ⟨rfl, HF3.out⟩
end Go.Proofs.YtegbacpenolehaaGreatDoor
