/- The laws' passes. -/
import Derived.Test.YtkoobhgedoanhaaDoorBook7
import Derived.Test.YtkoobhgedoanhaaDoorSized
namespace Go.Proofs.YtkoobhgedoanhaaDoor
open Go.RowKit

def bigPas (p : Pas) : Bool := decide ((400 : Int) < (p.method.size : Int) + (p.head.size : Int) + (p.path.size : Int) + (p.query.size : Int) + (p.o.host.size : Int) + (p.frm.host.size : Int))
def passesB (ps : List Pas) : Bool := decide (ps.length ≤ 60) && !(ps.any bigPas)
set_option maxHeartbeats 1000000 in
set_option maxRecDepth 100000 in
theorem passes1_any (p : Pas) (w : World) (hz : p.Sized) :
    Calls Tryd.prog 59 #[.agg p.cells.toArray] w fun e w' => e = .returned (.bool (bigPas p)) ∧ Fr noB w w' := by
  obtain ⟨z1, z2, z3, z4, z5, z6⟩ := hz
  have HR := Lib.hid (show bigPas p = decide ((400 : Int) < (p.method.size : Int) + (p.head.size : Int) + (p.path.size : Int) + (p.query.size : Int) + (p.o.host.size : Int) + (p.frm.host.size : Int)) from rfl)
  have hfa : Fr noB w (w.alloc (.cells p.cells.toArray 63)) := (Fr.refl noB w).alloc _
  have HF := Lib.hid hfa
  clear hfa
  unfold Pas.cells
  go_enter Tryd.func59, Tryd.ntmps59
  go_wp2
  go_ret
  exact ⟨by rw [HR.out]; rfl, HF.out⟩
set_option maxHeartbeats 1000000 in
theorem passes_any (v : Value) (ps : List Pas) (w : World) (hv : PasAt w v ps) (hl : ps.length ≤ 140737488355328) (hz : ∀ p ∈ ps, p.Sized) :
    Calls Tryd.prog 24 #[v] w fun e w' => e = .returned (.bool (passesB ps)) ∧ Fr noB w w' := by
  obtain ⟨av, cv, hform⟩ := RowsAt.form hv
  rw [List.length_map] at hform
  subst hform
  have hcf := Lib.hid (ContainsFunc_Pa _ #[] (fun x => bigPas (pasC x)) _ _ w Tryd.call59 (fun x hx u _ => by
    obtain ⟨p, hp, rfl⟩ := List.mem_map.1 hx
    exact passes1_any p u (hz p hp)) hv)
  rw [any_pasC] at hcf
  by_cases h60 : ps.length ≤ 60
  · have hb := Lib.hid (show passesB ps = !(ps.any bigPas) by unfold passesB; rw [decide_eq_true h60]; rfl)
    have i60 : (ps.length : Int) ≤ 60 := by omega
    have d60 : decide ((ps.length : Int) ≤ 60) = true := decide_eq_true i60
    go_enter Tryd.func24, Tryd.ntmps24
    go_wp2_with fail
    refine hcf.out.mono ?_
    rintro e u ⟨rfl, hf⟩
    go_wp2
    go_ret
    exact ⟨ret_bool hb.out.symm, hf⟩
  · have hb := Lib.hid (show passesB ps = false by unfold passesB; rw [decide_eq_false h60]; rfl)
    have i60 : ¬ (ps.length : Int) ≤ 60 := by omega
    have d60 : decide ((ps.length : Int) ≤ 60) = false := decide_eq_false i60
    go_enter Tryd.func24, Tryd.ntmps24
    go_wp2
    go_ret
    exact ⟨ret_bool hb.out.symm, Fr.refl _ _⟩
end Go.Proofs.YtkoobhgedoanhaaDoor
