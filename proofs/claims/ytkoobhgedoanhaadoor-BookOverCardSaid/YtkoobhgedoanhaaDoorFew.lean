/- The laws' few. -/
import Derived.Test.YtkoobhgedoanhaaDoorPlainCase
import Derived.Test.YtkoobhgedoanhaaDoorRowPr
import Derived.Test.YtkoobhgedoanhaaDoorAskd
namespace Go.Proofs.YtkoobhgedoanhaaDoor
open Go.RowKit

def bigP (p : Prm) : Bool := decide ((300 : Int) < (p.1.size : Int) + (p.2.size : Int))
def fewB (ps : List Prm) : Bool := decide (ps.length ≤ 40) && !(ps.any bigP)
/-- what a row of two strings is -/
def prmOf : List Value → Prm
  | [.string a, .string b] => (a, b)
  | _ => (ByteArray.empty, ByteArray.empty)
theorem prmOf_cells (p : Prm) : prmOf (Prm.cells p) = p := rfl
set_option maxHeartbeats 1000000 in
theorem few_any (v : Value) (ps : List Prm) (w : World) (hv : PrmsAt w v ps) (hl : ps.length ≤ 140737488355328) (hz : ∀ p ∈ ps, p.1.size ≤ 140737488351232 ∧ p.2.size ≤ 140737488351232) :
    Calls Tryd.prog 65 #[v] w fun e w' => e = .returned (.bool (fewB ps)) ∧ Fr noB w w' := by
  obtain ⟨av, cv, hform⟩ := hv.form
  rw [List.length_map] at hform
  subst hform
  have hcf := Lib.hid (ContainsFunc_Pr _ #[] (fun x => bigP (prmOf x)) _ _ w Tryd.call85 (fun x hx u _ => by
    obtain ⟨p, hp, rfl⟩ := List.mem_map.1 hx
    exact few1_any p.1 p.2 u (hz p hp).1 (hz p hp).2) hv)
  have hany := Lib.hid (show (ps.map Prm.cells).any (fun x => bigP (prmOf x)) = ps.any bigP by rw [List.any_map]; rfl)
  by_cases h40 : ps.length ≤ 40
  · have hb := Lib.hid (show fewB ps = !(ps.any bigP) by unfold fewB; rw [decide_eq_true h40]; rfl)
    have i40 : (ps.length : Int) ≤ 40 := by omega
    have d40 : decide ((ps.length : Int) ≤ 40) = true := decide_eq_true i40
    go_enter Tryd.func65, Tryd.ntmps65
    go_wp2_with fail
    refine hcf.out.mono ?_
    rw [hany.out]
    rintro e u ⟨rfl, hf⟩
    go_wp2
    go_ret
    exact ⟨ret_bool hb.out.symm, hf⟩
  · have hb := Lib.hid (show fewB ps = false by unfold fewB; rw [decide_eq_false h40]; rfl)
    have i40 : ¬ (ps.length : Int) ≤ 40 := by omega
    have d40 : decide ((ps.length : Int) ≤ 40) = false := decide_eq_false i40
    go_enter Tryd.func65, Tryd.ntmps65
    go_wp2
    go_ret
    exact ⟨ret_bool hb.out.symm, Fr.refl _ _⟩
end Go.Proofs.YtkoobhgedoanhaaDoor
