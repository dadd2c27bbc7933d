/- The fact fetched. -/
import Derived.Test.YtegbacpenolehaaDoorAskd
import Derived.Test.YtegbacpenolehaaDoorAsked4
import Derived.Test.YtegbacpenolehaaDoorFetch1
namespace Go.Proofs.YtegbacpenolehaaDoor
open Go.RowKit

def xaB : ByteArray := ⟨#[120, 45, 97]⟩
def xbB : ByteArray := ⟨#[120, 45, 98]⟩
theorem raw4 : rawB p4 = [xbB, xaB, xbB] := by decide +kernel
theorem asked4 : askedB p4 = [xaB, xbB] := by
  unfold askedB askedL
  rw [raw4]
  show (Lib.compact (sortLs [[120, 45, 98], [120, 45, 97], [120, 45, 98]])).map (fun l => (⟨l.toArray⟩ : ByteArray)) = _
  rw [sorted4]
  rfl
set_option maxRecDepth 100000 in
set_option maxHeartbeats 4000000 in
theorem fetched_any : FetchedOk := by
  intro w
  have m1 := Lib.hid (show simpleB ⟨#[71, 69, 84]⟩ = true by decide +kernel)
  have m2 := Lib.hid (show simpleB ⟨#[80, 85, 84]⟩ = false by decide +kernel)
  have m3 := Lib.hid (show methodB ⟨#[112, 117, 116]⟩ = ⟨#[80, 85, 84]⟩ by decide +kernel)
  have m4 := Lib.hid (show methodB ⟨#[112, 97, 116, 99, 104]⟩ = ⟨#[112, 97, 116, 99, 104]⟩ by decide +kernel)
  obtain ⟨wb, hwb⟩ : ∃ wb, wb = w.alloc (.cells #[.string ⟨#[88, 45, 66]⟩, .string ⟨#[]⟩, .string ⟨#[65, 99, 99, 101, 112, 116]⟩, .string ⟨#[97, 47, 98]⟩, .string ⟨#[120, 45, 97]⟩, .string ⟨#[]⟩, .string ⟨#[88, 45, 98]⟩, .string ⟨#[]⟩] 103) := ⟨_, rfl⟩
  have hfb : Fr noB w wb := by rw [hwb]; exact (Fr.refl noB w).alloc _
  have hk1 : wb.heap[w.heap.size]? = some (.cells #[.string ⟨#[88, 45, 66]⟩, .string ⟨#[]⟩, .string ⟨#[65, 99, 99, 101, 112, 116]⟩, .string ⟨#[97, 47, 98]⟩, .string ⟨#[120, 45, 97]⟩, .string ⟨#[]⟩, .string ⟨#[88, 45, 98]⟩, .string ⟨#[]⟩] 103 (0, 0)) := by rw [hwb]; exact new_block _ _
  have HPR := Lib.hid (show ∀ U, Fr noB wb U → PrmsAt U (.slice (some ⟨w.heap.size, 0, none⟩) 4 4) p4 from fun U hU => by
    have j1 := hU.keep hk1 (fun h => h)
    refine ⟨fun x hx => ?_, Or.inr ⟨w.heap.size, 0, 4, rfl, by decide, by decide, lt_of_some j1, fun j x hj i u hi => ?_⟩⟩
    · obtain ⟨p, _, rfl⟩ := List.mem_map.1 hx
      exact ⟨rfl, fun u hu => by simp [Prm.cells] at hu; rcases hu with rfl | rfl <;> rfl⟩
    · have hjl := (List.getElem?_eq_some_iff.1 hj).1
      have hjl : j < 4 := hjl
      obtain ⟨p, hp, rfl⟩ := Option.map_eq_some_iff.1 (show (p4[j]?).map Prm.cells = some x by rw [← List.getElem?_map]; exact hj)
      have hil := (List.getElem?_eq_some_iff.1 hi).1
      have hil : i < 2 := hil
      have hc : j = 0 ∨ j = 1 ∨ j = 2 ∨ j = 3 := by omega
      have hd : i = 0 ∨ i = 1 := by omega
      rcases hc with rfl | rfl | rfl | rfl <;> cases hp <;> rcases hd with rfl | rfl <;> cases hi <;> simp [World.cell?, j1])
  have HWB := Lib.hid hwb
  have HFB := Lib.hid hfb
  have HZ4 := Lib.hid (show ∀ p ∈ p4, p.1.size < 100000 ∧ p.2.size < 100000 by decide)
  clear hwb hfb hk1
  go_enter Tryd.func68, Tryd.ntmps68
  go_wp2_with fail
  rw [← HWB.out]
  refine (Simple_any ⟨#[71, 69, 84]⟩ wb).mono ?_
  rw [m1.out]
  rintro e u ⟨rfl, rfl⟩
  go_wp2_with fail
  refine (Simple_any ⟨#[80, 85, 84]⟩ wb).mono ?_
  rw [m2.out]
  rintro e u ⟨rfl, rfl⟩
  go_wp2_with fail
  refine (Method_any ⟨#[112, 117, 116]⟩ wb (by decide)).mono ?_
  rw [m3.out]
  rintro e u1 ⟨rfl, hf1⟩
  go_wp2_with fail
  refine (Method_any ⟨#[112, 97, 116, 99, 104]⟩ u1 (by decide)).mono ?_
  rw [m4.out]
  rintro e u2 ⟨rfl, hf2⟩
  have HF2 := Lib.hid (hf1.trans hf2)
  clear hf1 hf2
  go_wp2_with fail
  refine (Asked_any p4 _ u2 (HPR.out u2 HF2.out) (by decide) HZ4.out).mono ?_
  rw [asked4]
  rintro e u3 ⟨v, rfl, hv, hf3⟩
  have HF3 := Lib.hid (HF2.out.trans hf3)
  clear hf3
  go_wp2_with fail
  have hst : StrsAt (u3.alloc (.cells #[.string xaB, .string xbB] 9)) (.slice (some ⟨u3.heap.size, 0, none⟩) 2 2) [xaB, xbB] := by
    refine Or.inr ⟨u3.heap.size, 0, 2, rfl, Nat.le_refl _, by decide, by simp, fun j x hj => ?_⟩
    have hjl := (List.getElem?_eq_some_iff.1 hj).1
    have hjl : j < 2 := hjl
    have hc : j = 0 ∨ j = 1 := by omega
    rcases hc with rfl | rfl <;> cases hj
    · exact World.cell?_alloc_mark u3 #[.string xaB, .string xbB] 9 (0, 0) 0
    · exact World.cell?_alloc_mark u3 #[.string xaB, .string xbB] 9 (0, 0) 1
  refine (EqualS_any v _ [xaB, xbB] [xaB, xbB] _ (hv.alloc _).at hst (by decide)).mono ?_
  rintro e u4 ⟨rfl, q, rfl⟩
  go_wp2
  go_ret
  exact ⟨rfl, HFB.out.trans ((HF3.out.alloc _).drewN q)⟩
end Go.Proofs.YtegbacpenolehaaDoor
