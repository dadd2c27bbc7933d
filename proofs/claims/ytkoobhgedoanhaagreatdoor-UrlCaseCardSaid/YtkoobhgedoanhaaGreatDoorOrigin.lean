/- Package url: Origin. -/
import Derived.Test.YtkoobhgedoanhaaGreatDoorPlace
namespace Go.Proofs.YtkoobhgedoanhaaGreatDoor
open Go.RowKit

/-- what Origin answers -/
def originV (l : List UInt8) : Value :=
  match originL l with
  | some o => .tuple #[.agg o.toB.cells.toArray, .nilIface]
  | none => .tuple #[.agg #[.bool false, .string ⟨#[]⟩, .int .i64 0], .iface 93 (.int .i64 3)]
theorem schemeV_cases (l : List UInt8) : (schemeL l = none ∧ schemeV l = .tuple #[.bool false, .string ⟨#[]⟩, .bool false]) ∨ ∃ sec rest, schemeL l = some (sec, rest) ∧ schemeV l = .tuple #[.bool sec, .string ⟨rest.toArray⟩, .bool true] := by
  unfold schemeV
  cases schemeL l with
  | none => exact Or.inl ⟨rfl, rfl⟩
  | some p => exact Or.inr ⟨p.1, p.2, rfl, rfl⟩
theorem scheme_len {l rest : List UInt8} {sec : Bool} (h : schemeL l = some (sec, rest)) : rest.length ≤ l.length := by
  unfold schemeL at h
  split at h
  · cases h; simp
  · split at h
    · cases h; simp
    · cases h
set_option maxRecDepth 100000 in
set_option maxHeartbeats 8000000 in
theorem Origin_any (s : ByteArray) (w : World) (hs : s.size < 100000) :
    Calls Tryz.prog 86 #[.string s] w fun e w' => e = .returned (originV s.data.toList) ∧ Fr noB w w' := by
  obtain ⟨w1, hw1⟩ : ∃ w1, w1 = w.alloc (.cells #[.bool false, .string ⟨#[]⟩, .int .i64 0] 49) := ⟨_, rfl⟩
  have hf1 : Fr noB w w1 := by rw [hw1]; exact (Fr.refl noB w).alloc _
  have hb1 : w1.heap[w.heap.size]? = some (.cells #[.bool false, .string ⟨#[]⟩, .int .i64 0] 49 (0, 0)) := by rw [hw1]; exact new_block _ _
  have HRK := Lib.hid (show ∀ U, Fr noB w1 U → U.heap[w.heap.size]? = some (.cells #[.bool false, .string ⟨#[]⟩, .int .i64 0] 49 (0, 0)) from fun U hU => hU.keep hb1 (fun h => h))
  have HS := Lib.hid (show ∀ U, Fr noB w1 U → (U.cell? ⟨w.heap.size, 0, none⟩ = some (.bool false) ∧ U.cell? ⟨w.heap.size, 1, none⟩ = some (.string ⟨#[]⟩) ∧ U.cell? ⟨w.heap.size, 2, none⟩ = some (.int .i64 0)) ∧ (U.frozen? ⟨w.heap.size, 0, none⟩ = false ∧ U.frozen? ⟨w.heap.size, 1, none⟩ = false ∧ U.frozen? ⟨w.heap.size, 2, none⟩ = false) from fun U hU => by
    have j2 := hU.keep hb1 (fun h => h)
    simp [World.cell?, World.frozen?, j2])
  have HW1 := Lib.hid hw1
  have HSC := Lib.hid (scheme_any s w1 hs)
  have HSL := Lib.hid (schemeV_cases s.data.toList)
  have HLEN := Lib.hid (show ∀ rest sec, schemeL s.data.toList = some (sec, rest) → rest.length ≤ s.data.toList.length from fun _ _ h => scheme_len h)
  clear hw1 hb1
  go_enter Tryz.func86, Tryz.ntmps86
  go_wp2_with fail
  first | rw [← HW1.out] | skip
  refine HSC.out.mono ?_
  rintro e u1 ⟨rfl, hf2⟩
  obtain ⟨⟨d0, d1, d2⟩, ⟨f0, f1, f2⟩⟩ := HS.out u1 hf2
  rcases HSL.out with ⟨hn, hv⟩ | ⟨sec, rest, hn, hv⟩
  · have HP := Lib.hid (show originV s.data.toList = .tuple #[.agg #[.bool false, .string ⟨#[]⟩, .int .i64 0], .iface 93 (.int .i64 3)] by unfold originV originL; rw [hn])
    rw [hv]
    clear hn hv HSL
    go_wp2_with fail
    refine bodyPost_ret (results_cell_tmp (by rfl) _ _ w.heap.size 49 #[.bool false, .string ⟨#[]⟩, .int .i64 0] (0, 0) _ rfl (put3 (HRK.out u1 hf2)) Tryz.underlying49 rfl (by kernel_rfl)) rfl ?_
    exact ⟨by rw [HP.out]; rfl, (((hf1.trans hf2).setNew (p := ⟨w.heap.size, 0, none⟩) (Nat.le_refl _) _).setNew (p := ⟨w.heap.size, 1, none⟩) (Nat.le_refl _) _).setNew (p := ⟨w.heap.size, 2, none⟩) (Nat.le_refl _) _⟩
  · have hlr := HLEN.out rest sec hn
    have HOR := Lib.hid (show originV s.data.toList = (if (placeL sec rest).2 then .tuple #[.agg (placeL sec rest).1.toB.cells.toArray, .nilIface] else .tuple #[.agg #[.bool false, .string ⟨#[]⟩, .int .i64 0], .iface 93 (.int .i64 3)]) by
      unfold originV originL
      rw [hn]
      dsimp only
      split
      · rename_i o ho
        split at ho
        · rename_i h2; cases ho; rw [if_pos h2]
        · cases ho
      · rename_i ho
        split at ho
        · cases ho
        · rename_i h2; rw [if_neg h2])
    rw [hv]
    have HPL := Lib.hid (place_any sec ⟨rest.toArray⟩ u1 (by show rest.toArray.size < 100000; simp at hlr ⊢; omega))
    have HPV := Lib.hid (show placeV sec (⟨rest.toArray⟩ : ByteArray).data.toList = .tuple #[.agg #[.bool (placeL sec rest).1.secure, .string ⟨(placeL sec rest).1.host.toArray⟩, .int .i64 (placeL sec rest).1.port], .bool (placeL sec rest).2] from rfl)
    clear hn hv HSL HLEN hlr
    generalize hpl : placeL sec rest = pl at *
    clear hpl
    obtain ⟨⟨osec, ohost, oport⟩, ok⟩ := pl
    clear d0 d1 d2 f0 f1 f2
    go_wp2_with fail
    refine HPL.out.mono ?_
    rintro e u2 ⟨rfl, hf3⟩
    rw [HPV.out]
    obtain ⟨⟨d0, d1, d2⟩, ⟨f0, f1, f2⟩⟩ := HS.out (u2.alloc (.cells #[.bool osec, .string ⟨ohost.toArray⟩, .int .i64 oport] 49)) ((hf2.trans hf3).alloc _)
    have hr2 := HRK.out (u2.alloc (.cells #[.bool osec, .string ⟨ohost.toArray⟩, .int .i64 oport] 49)) ((hf2.trans hf3).alloc _)
    have hff := (hf1.trans (hf2.trans hf3)).alloc (.cells #[.bool osec, .string ⟨ohost.toArray⟩, .int .i64 oport] 49)
    cases ok
    · have HP := Lib.hid HOR.out
      go_wp2_with fail
      refine bodyPost_ret (results_cell_tmp (by rfl) _ _ w.heap.size 49 #[.bool false, .string ⟨#[]⟩, .int .i64 0] (0, 0) _ rfl (put3 hr2) Tryz.underlying49 rfl (by kernel_rfl)) rfl ?_
      exact ⟨by rw [HP.out]; rfl, ((hff.setNew (p := ⟨w.heap.size, 0, none⟩) (Nat.le_refl _) _).setNew (p := ⟨w.heap.size, 1, none⟩) (Nat.le_refl _) _).setNew (p := ⟨w.heap.size, 2, none⟩) (Nat.le_refl _) _⟩
    · have HP := Lib.hid HOR.out
      go_wp2_with fail
      refine bodyPost_ret (results_cell_tmp (by rfl) _ _ w.heap.size 49 #[.bool osec, .string ⟨ohost.toArray⟩, .int .i64 oport] (0, 0) _ rfl (put3 hr2) Tryz.underlying49 rfl (by kernel_rfl)) rfl ?_
      exact ⟨by rw [HP.out]; rfl, ((hff.setNew (p := ⟨w.heap.size, 0, none⟩) (Nat.le_refl _) _).setNew (p := ⟨w.heap.size, 1, none⟩) (Nat.le_refl _) _).setNew (p := ⟨w.heap.size, 2, none⟩) (Nat.le_refl _) _⟩
end Go.Proofs.YtkoobhgedoanhaaGreatDoor
