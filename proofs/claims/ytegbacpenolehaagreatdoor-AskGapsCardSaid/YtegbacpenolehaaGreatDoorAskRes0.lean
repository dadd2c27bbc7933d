/- What ask.Parse gives, case by case. -/
import Derived.Test.YtegbacpenolehaaGreatDoorAskRead
namespace Go.Proofs.YtegbacpenolehaaGreatDoor
open Go.RowKit

theorem ErrN.form {n : Nat} {er : Value} {w : World} (h : ErrN n er w) : ∃ t x, er = .iface t x := by
  rcases h with rfl | ⟨g, p, rfl, _⟩
  · exact ⟨_, _, rfl⟩
  · exact ⟨_, _, rfl⟩
theorem Parse_ok {s : ByteArray} {w : World} {l : List Cha} (hs : s.size ≤ 140737488351232) (h : chasL s.data.toList = .ok l) :
    Calls Tryz.prog 13 #[.string s] w fun e w' => ∃ a c, e = .returned (.tuple #[.slice a l.length c, .nilIface]) ∧ ChasAt w' (.slice a l.length c) l ∧ Fr noB w w' := by
  refine (Parse_ask s w hs).mono ?_
  rintro e w' ⟨hf, hm⟩
  rw [h] at hm
  obtain ⟨v, rfl, hv⟩ := hm
  obtain ⟨a, c, rfl⟩ := hv.form
  exact ⟨a, c, rfl, hv.at, hf⟩
theorem Parse_bad {s : ByteArray} {w : World} {n : Nat} (hs : s.size ≤ 140737488351232) (h : chasL s.data.toList = .error n) :
    Calls Tryz.prog 13 #[.string s] w fun e w' => ∃ t x, e = .returned (.tuple #[.slice none 0 0, .iface t x]) ∧ ErrN n (.iface t x) w' ∧ Fr noB w w' := by
  refine (Parse_ask s w hs).mono ?_
  rintro e w' ⟨hf, hm⟩
  rw [h] at hm
  obtain ⟨er, rfl, he⟩ := hm
  obtain ⟨t, x, rfl⟩ := he.form
  exact ⟨t, x, rfl, he, hf⟩
end Go.Proofs.YtegbacpenolehaaGreatDoor
