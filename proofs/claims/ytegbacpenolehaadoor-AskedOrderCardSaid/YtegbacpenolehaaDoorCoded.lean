/- Walks: the fact coded. -/
import Derived.Test.YtegbacpenolehaaDoorUnbase64
import Derived.Test.YtegbacpenolehaaDoorLower
namespace Go.Proofs.YtegbacpenolehaaDoor
open Go.RowKit

theorem UnhexPost.ok {s : ByteArray} {w w' : World} {e : Ending} {l : List UInt8} (h : UnhexPost s w e w') (hl : unhexL s.data.toList = some l) : e = .returned (.tuple #[.string ⟨l.toArray⟩, .nilIface]) ∧ Fr noB w w' := by
  obtain ⟨hf, h⟩ := h
  rw [hl] at h
  exact ⟨h, hf⟩
theorem UnhexPost.bad {s : ByteArray} {w w' : World} {e : Ending} (h : UnhexPost s w e w') (hl : unhexL s.data.toList = none) : e = .returned (.tuple #[.string ⟨#[]⟩, .iface 46 (.int .i64 3)]) ∧ Fr noB w w' := by
  obtain ⟨hf, h⟩ := h
  rw [hl] at h
  exact ⟨h, hf⟩
theorem Unb64Post.ok {s : ByteArray} {w w' : World} {e : Ending} {l : List UInt8} (h : Unb64Post s w e w') (hl : unb64 s.data.toList = some l) : e = .returned (.tuple #[.string ⟨l.toArray⟩, .nilIface]) ∧ Fr noB w w' := by
  obtain ⟨hf, h⟩ := h
  rw [hl] at h
  exact ⟨h, hf⟩
theorem Unb64Post.bad {s : ByteArray} {w w' : World} {e : Ending} (h : Unb64Post s w e w') (hl : unb64 s.data.toList = none) : e = .returned (.tuple #[.string ⟨#[]⟩, .iface 46 (.int .i64 3)]) ∧ Fr noB w w' := by
  obtain ⟨hf, h⟩ := h
  rw [hl] at h
  exact ⟨h, hf⟩

set_option maxRecDepth 100000 in
set_option maxHeartbeats 2000000 in
theorem coded_any (w : World) :
    Calls Tryd.prog 64 #[] w fun e w' => e = .returned (.bool true) ∧ Fr noB w w' := by
  have c1 := Lib.hid (show unhexL [52, 97, 52, 98] = some [74, 75] by decide +kernel)
  have c2 := Lib.hid (show unb64 [83, 71, 107, 61] = some [72, 105] by decide +kernel)
  have c3 := Lib.hid (show hexL [74] = [52, 97] by decide +kernel)
  have c4 := Lib.hid (show b64L [72, 105, 33] = [83, 71, 107, 104] by decide +kernel)
  have c5 := Lib.hid (show lowL [97, 66, 99] = [97, 98, 99] by decide +kernel)
  go_enter Tryd.func64, Tryd.ntmps64
  go_wp2_with fail
  refine (Unhex_any ⟨#[52, 97, 52, 98]⟩ w (by decide)).mono ?_
  intro e u1 hp
  obtain ⟨rfl, hf1⟩ := hp.ok c1.out
  clear hp
  go_wp2_with fail
  refine (Unbase64_any ⟨#[83, 71, 107, 61]⟩ u1 (by decide)).mono ?_
  intro e u2 hp
  obtain ⟨rfl, hf2⟩ := hp.ok c2.out
  clear hp
  go_wp2_with fail
  refine (Hex_any ⟨#[74]⟩ u2 (by decide)).mono ?_
  rintro e u3 ⟨rfl, hf3⟩
  rw [c3.out]
  go_wp2_with fail
  refine (Base64_any ⟨#[72, 105, 33]⟩ u3 (by decide)).mono ?_
  rintro e u4 ⟨rfl, hf4⟩
  rw [c4.out]
  go_wp2_with fail
  refine (Lower_any ⟨#[97, 66, 99]⟩ u4 (by decide)).mono ?_
  rintro e u5 ⟨rfl, hf5⟩
  rw [c5.out]
  go_wp2
  go_ret
  exact ⟨rfl, (((hf1.trans hf2).trans hf3).trans hf4).trans hf5⟩
end Go.Proofs.YtegbacpenolehaaDoor
