/- The fact booked of the laws on books. -/
import Derived.Test.YtkoobhgedoanhaaDoorPasses
import Derived.Test.YtkoobhgedoanhaaDoorHome
namespace Go.Proofs.YtkoobhgedoanhaaDoor
open Go.RowKit

/-- b.test, secure, 443 -/
def bO : Ori := ⟨true, ⟨#[98, 46, 116, 101, 115, 116]⟩, 443⟩
def putB : ByteArray := ⟨#[80, 85, 84]⟩
def bookedR : ReqOf Value := ⟨0, homeO, bO, ⟨#[47]⟩, ⟨#[]⟩, putB, .slice none 0 0, false, ⟨#[]⟩⟩
def bookedP : Pas := ⟨homeO, bO, ⟨#[47]⟩, ⟨#[]⟩, false, putB, ⟨#[]⟩, 5⟩
theorem booked_put : bookPut [] [bookedP] 0 = [bookedP] := rfl
theorem booked_methods : methodB putB = putB := by decide +kernel
theorem booked_asked : askedB [] = [] := by
  unfold askedB askedL rawB outB plB
  simp [sortLs, Lib.compact, Lib.compactUpTo]
theorem booked_4 : bookCovers [bookedP] (bookedR.toL []) 4 = true := by
  unfold bookCovers ReqL.needs ReqL.covers coversB bookFor
  show (!(!homeO.eqB bO && !((simpleB (methodB putB) || _) && _)) || ((simpleB (methodB putB) || _) && _)) = true
  rw [booked_methods]
  simp only [ReqOf.toL, booked_asked, List.all_nil, Bool.and_true]
  simp [ReqL.mine, Pas.alive, bookedR, bookedP, Pas.lets, Ori.eqB, List.filter, booked_methods]
theorem booked_5 : bookCovers [bookedP] (bookedR.toL []) 5 = false := by
  unfold bookCovers ReqL.needs ReqL.covers coversB bookFor
  show (!(!homeO.eqB bO && !((simpleB (methodB putB) || _) && _)) || ((simpleB (methodB putB) || _) && _)) = false
  rw [booked_methods]
  simp only [ReqOf.toL, booked_asked, List.all_nil, Bool.and_true]
  have h1 : homeO.eqB bO = false := by
    unfold Ori.eqB homeO bO
    simp [ByteArray.toList_eq]
  have h2 : simpleB putB = false := by unfold simpleB putB; simp [ByteArray.toList_eq]
  rw [h1, h2]
  simp [ReqL.mine, Pas.alive, bookedP, List.filter]
theorem PasAt.lit1 (w : World) (p : Pas) : PasAt (w.alloc (.cells p.cells.toArray 63)) (.slice (some ⟨w.heap.size, 0, none⟩) 1 1) [p] := by
  refine ⟨fun x hx => ?_, Or.inr ⟨w.heap.size, 0, 1, rfl, Nat.le_refl _, by simp [maxLen], by simp, fun j x hj => ?_⟩⟩
  · simp at hx; subst hx; exact ⟨rfl, p.cells_one⟩
  · match j, hj with
    | 0, hj =>
      simp at hj; subst hj
      intro i u hu
      rw [World.cell?_alloc_mark]
      simpa using hu
set_option maxHeartbeats 4000000 in
set_option maxRecDepth 100000 in
theorem booked_any (w : World) : Calls Tryd.prog 23 #[] w fun e w' => e = .returned (.bool true) ∧ Fr noB w w' := by
  have hb0 := BookIs.new w
  have hf0 : Fr noB w (w.alloc (.cells #[.slice none 0 0] 57)) := (Fr.refl _ _).alloc _
  have HB0 := Lib.hid hb0
  have HF0 := Lib.hid hf0
  clear hb0 hf0
  go_enter Tryd.func23, Tryd.ntmps23
  go_wp2_with fail
  refine (home_any _).mono ?_
  rintro e u1 ⟨rfl, hf1⟩
  have hb1 := HB0.out.frN hf1
  have HF1 := Lib.hid (HF0.out.trans hf1)
  have HB1 := Lib.hid hb1
  clear hf1 hb1 HB0 HF0
  have hst := fun W => run_storeCells_new (P := Tryd.prog) W 67 #[.int .i64 0, .bool false, .string ⟨#[]⟩, .int .i64 0, .bool false, .string ⟨#[]⟩, .int .i64 0, .string ⟨#[]⟩, .string ⟨#[]⟩, .string ⟨#[]⟩, .slice none 0 0, .bool false, .string ⟨#[]⟩] bookedR.cells rfl (by unfold ReqOf.cells; simp [Value.oneCell', bookedR])
  unfold ReqOf.cells bookedR homeO bO putB at hst
  unfold Ori.cells homeO
  go_wp2_with fail
  clear hst
  have hfa : Fr noB u1 ((u1.alloc (.cells bookedR.cells.toArray 67)).alloc (.cells bookedP.cells.toArray 63)) := ((Fr.refl _ _).alloc _).alloc _
  have hkr : ((u1.alloc (.cells bookedR.cells.toArray 67)).alloc (.cells bookedP.cells.toArray 63)).heap[u1.heap.size]? = some (.cells bookedR.cells.toArray 67 (0, 0)) := ((Fr.refl noB _).alloc _).keep (new_block _ _) (fun h => h)
  have hpl := PasAt.lit1 (u1.alloc (.cells bookedR.cells.toArray 67)) bookedP
  have hsz : (u1.alloc (.cells bookedR.cells.toArray 67)).heap.size = u1.heap.size + 1 := by simp
  rw [hsz] at hpl
  have hu1 : w.heap.size < u1.heap.size := HB1.out.lt
  obtain ⟨W2, hW2⟩ : ∃ W2, W2 = ((u1.alloc (.cells bookedR.cells.toArray 67)).alloc (.cells bookedP.cells.toArray 63)) := ⟨_, rfl⟩
  rw [← hW2] at hfa hkr hpl
  have hput := BookPut_any w.heap.size W2 w.heap.size (.slice none 0 0) [] (.slice (some ⟨u1.heap.size + 1, 0, none⟩) 1 1) [bookedP] 0 (HB1.out.frN hfa) hpl (fun _ k hk h => by
    have e : u1.heap.size + 1 = k := by simpa [Value.ownBlock] using hk
    rcases h with h | h
    · omega
    · simp [own, Value.ownBlock] at h) (by decide)
  rw [booked_put, hW2] at hput
  unfold ReqOf.cells Pas.cells bookedR bookedP homeO bO putB at hput
  refine hput.mono ?_
  rintro e u2 ⟨rfl, v2, hb2, hf2, _⟩
  rw [show (((u1.alloc (.cells #[.int .i64 0, .bool true, .string ⟨#[97, 46, 116, 101, 115, 116]⟩, .int .i64 443, .bool true, .string ⟨#[98, 46, 116, 101, 115, 116]⟩, .int .i64 443, .string ⟨#[47]⟩, .string ⟨#[]⟩, .string ⟨#[80, 85, 84]⟩, .slice none 0 0, .bool false, .string ⟨#[]⟩] 67)).alloc (.cells #[.bool true, .string ⟨#[97, 46, 116, 101, 115, 116]⟩, .int .i64 443, .bool true, .string ⟨#[98, 46, 116, 101, 115, 116]⟩, .int .i64 443, .string ⟨#[47]⟩, .string ⟨#[]⟩, .bool false, .string ⟨#[80, 85, 84]⟩, .string ⟨#[]⟩, .int .i64 5] 63))) = W2 from hW2.symm] at hf2
  have hb2' : BookIs w.heap.size u2 w.heap.size v2 [bookedP] := hb2
  have hnb : ∀ k, k ≠ w.heap.size → ¬ bookF w.heap.size (.slice none 0 0) k := fun k hk h => by
    rcases h with h | h
    · exact hk h
    · simp [own, Value.ownBlock] at h
  have hkr2 := hf2.keep hkr (hnb _ (by omega))
  have HF2 := Lib.hid (Fr.step (S := noB) (HF1.out.trans hfa) hf2 (fun k hk h => absurd h (hnb k (by omega))))
  have HC := Lib.hid (show ∀ U, Fr noB u2 U → U.cell? ⟨u1.heap.size, 0, none⟩ = some (.int .i64 0) ∧ U.cell? ⟨u1.heap.size, 1, none⟩ = some (.bool true) ∧ U.cell? ⟨u1.heap.size, 2, none⟩ = some (.string ⟨#[97, 46, 116, 101, 115, 116]⟩) ∧ U.cell? ⟨u1.heap.size, 3, none⟩ = some (.int .i64 443) ∧ U.cell? ⟨u1.heap.size, 4, none⟩ = some (.bool true) ∧ U.cell? ⟨u1.heap.size, 5, none⟩ = some (.string ⟨#[98, 46, 116, 101, 115, 116]⟩) ∧ U.cell? ⟨u1.heap.size, 6, none⟩ = some (.int .i64 443) ∧ U.cell? ⟨u1.heap.size, 7, none⟩ = some (.string ⟨#[47]⟩) ∧ U.cell? ⟨u1.heap.size, 8, none⟩ = some (.string ⟨#[]⟩) ∧ U.cell? ⟨u1.heap.size, 9, none⟩ = some (.string ⟨#[80, 85, 84]⟩) ∧ U.cell? ⟨u1.heap.size, 10, none⟩ = some (.slice none 0 0) ∧ U.cell? ⟨u1.heap.size, 11, none⟩ = some (.bool false) ∧ U.cell? ⟨u1.heap.size, 12, none⟩ = some (.string ⟨#[]⟩) from fun U hU => by
    have j := hU.keep hkr2 (fun h => h)
    unfold ReqOf.cells bookedR homeO bO putB at j
    simp [World.cell?, j])
  have HCV := Lib.hid (show ∀ U n, Fr noB u2 U → Calls Tryd.prog 30 #[.pointer (some ⟨w.heap.size, 0, none⟩), .agg bookedR.cells.toArray, .int .i64 n] U fun e w' => e = .returned (.bool (bookCovers [bookedP] (bookedR.toL []) n)) ∧ Fr noB U w' from fun U n hU => BCovers_any w.heap.size U w.heap.size v2 [bookedP] bookedR [] n (hb2'.frN hU) (by decide) ⟨by simp, Or.inl ⟨_, _, rfl, rfl, fun _ => rfl⟩⟩ ⟨by decide, by decide, fun p hp => by cases hp⟩)
  have H4 := Lib.hid (HCV.out u2 4 (Fr.refl _ _))
  have H5 := Lib.hid (fun U hU => HCV.out U 5 hU)
  have HLI := Lib.hid (fun U (hU : Fr noB u2 U) => BookList_any w.heap.size U w.heap.size v2 [bookedP] (hb2'.frN hU) (by decide))
  rw [booked_4] at H4
  simp only [booked_5] at H5
  unfold ReqOf.cells bookedR homeO bO putB at H4 H5
  obtain ⟨k0, k1, k2, k3, k4, k5, k6, k7, k8, k9, k10, k11, k12⟩ := HC.out u2 (Fr.refl _ _)
  clear hfa hkr hpl hsz hW2 hput hb2 hf2 hb2' hkr2 HCV hnb HB1 HF1
  go_wp2_with fail
  refine H4.out.mono ?_
  rintro e u3 ⟨rfl, hf3⟩
  clear k0 k1 k2 k3 k4 k5 k6 k7 k8 k9 k10 k11 k12
  obtain ⟨k0, k1, k2, k3, k4, k5, k6, k7, k8, k9, k10, k11, k12⟩ := HC.out u3 hf3
  have H53 := Lib.hid (H5.out u3 hf3)
  go_wp2_with fail
  refine H53.out.mono ?_
  rintro e u4 ⟨rfl, hf4⟩
  have HL4 := Lib.hid (HLI.out u4 (hf3.trans hf4))
  go_wp2_with fail
  refine HL4.out.mono ?_
  rintro e u5 ⟨v5, rfl, ho5, hf5⟩
  obtain ⟨a5, c5, h5⟩ := ho5.form
  have h5' : v5 = .slice a5 1 c5 := h5
  subst h5'
  have HF5 := Lib.hid (HF2.out.trans ((hf3.trans hf4).trans hf5))
  clear ho5 h5
  go_wp2
  go_ret
  exact ⟨rfl, HF5.out⟩
end Go.Proofs.YtkoobhgedoanhaaDoor
