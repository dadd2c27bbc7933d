/- What ask.Parse and ask.Print give, case by case. -/
import Derived.Test.YtegbacpenolehaaDoorAskFit
namespace Go.Proofs.YtegbacpenolehaaDoor
open Go.RowKit

theorem ErrN.form {n : Nat} {er : Value} {w : World} (h : ErrN n er w) : ∃ t x, er = .iface t x := by
  rcases h with rfl | ⟨g, p, rfl, _⟩
  · exact ⟨_, _, rfl⟩
  · exact ⟨_, _, rfl⟩
theorem Parse_ok {s : ByteArray} {w : World} {l : List Cha} (hs : s.size ≤ 140737488351232) (h : chasL s.data.toList = .ok l) :
    Calls Tryd.prog 30 #[.string s] w fun e w' => ∃ a c, e = .returned (.tuple #[.slice a l.length c, .nilIface]) ∧ ChasAt w' (.slice a l.length c) l ∧ Fr noB w w' := by
  refine (Parse_ask s w hs).mono ?_
  rintro e w' ⟨hf, hm⟩
  rw [h] at hm
  obtain ⟨v, rfl, hv⟩ := hm
  obtain ⟨a, c, rfl⟩ := hv.form
  exact ⟨a, c, rfl, hv.at, hf⟩
theorem Parse_bad {s : ByteArray} {w : World} {n : Nat} (hs : s.size ≤ 140737488351232) (h : chasL s.data.toList = .error n) :
    Calls Tryd.prog 30 #[.string s] w fun e w' => ∃ t x, e = .returned (.tuple #[.slice none 0 0, .iface t x]) ∧ ErrN n (.iface t x) w' ∧ Fr noB w w' := by
  refine (Parse_ask s w hs).mono ?_
  rintro e w' ⟨hf, hm⟩
  rw [h] at hm
  obtain ⟨er, rfl, he⟩ := hm
  obtain ⟨t, x, rfl⟩ := he.form
  exact ⟨t, x, rfl, he, hf⟩
theorem Print_ok {v : Value} {xs : List Cha} {w : World} (h : ChasAt w v xs) (hl : xs.length ≤ 8) (hz : ∀ x ∈ xs, x.Fit) (ho : xs.all okC = true) :
    Calls Tryd.prog 31 #[v] w fun e w' => e = .returned (.tuple #[.string (bA (chasT xs)), .nilIface]) ∧ Fr noB w w' := by
  refine (Print_ask v xs w h hl hz).mono ?_
  rintro e w' ⟨hf, hm⟩
  rw [if_pos ho] at hm
  exact ⟨hm, hf⟩
theorem Print_bad {v : Value} {xs : List Cha} {w : World} (h : ChasAt w v xs) (hl : xs.length ≤ 8) (hz : ∀ x ∈ xs, x.Fit) (ho : xs.all okC = false) :
    Calls Tryd.prog 31 #[v] w fun e w' => ∃ t x, e = .returned (.tuple #[.string ⟨#[]⟩, .iface t x]) ∧ Fr noB w w' := by
  refine (Print_ask v xs w h hl hz).mono ?_
  rintro e w' ⟨hf, hm⟩
  rw [ho] at hm
  obtain ⟨er, rfl, he⟩ := hm
  obtain ⟨t, x, rfl⟩ := he.form
  exact ⟨t, x, rfl, hf⟩
end Go.Proofs.YtegbacpenolehaaDoor
