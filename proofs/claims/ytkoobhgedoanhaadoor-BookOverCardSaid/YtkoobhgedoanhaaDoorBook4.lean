/- Package pass: List, Forget, Sweep. -/
import Derived.Test.YtkoobhgedoanhaaDoorBook3
import Derived.Test.YtkoobhgedoanhaaDoorClonePa
namespace Go.Proofs.YtkoobhgedoanhaaDoor
open Go.RowKit

set_option maxHeartbeats 1000000 in
set_option maxRecDepth 100000 in
theorem BookList_any (base : Nat) (w : World) (b : Nat) (v : Value) (ps : List Pas) (h : BookIs base w b v ps) (hlen : ps.length < 1000000) :
    Calls Tryd.prog 26 #[.pointer (some ⟨b, 0, none⟩)] w fun e w' => ∃ v', e = .returned v' ∧ OwnRows w.heap.size 63 12 w' v' (ps.map Pas.cells) ∧ Fr noB w w' := by
  obtain ⟨av, cv, hv⟩ := h.form
  subst hv
  have c0 := h.c0
  have hc := Lib.hid (Clone_A _ _ w h.rows.at (by rw [List.length_map]; omega))
  clear h
  go_enter Tryd.func26, Tryd.ntmps26
  go_wp2_with fail
  refine hc.out.mono ?_
  rintro e u ⟨v', rfl, ho, hf⟩
  obtain ⟨a', c', hv'⟩ := ho.form
  subst hv'
  rw [List.length_map] at ho
  have HO := Lib.hid ho
  clear ho
  go_wp2
  go_ret
  exact ⟨_, rfl, HO.out, hf⟩

/-- for just what a request asks for -/
def Pas.ofReq (r : ReqL) (p : Pas) : Bool := p.frm.eqB r.frm && (p.o.eqB r.o && (p.path.toList == r.path.toList && p.query.toList == r.query.toList))
/-- comes from an origin, or goes to it -/
def Pas.ofOri (o : Ori) (p : Pas) : Bool := p.frm.eqB o || p.o.eqB o
theorem run_eql_urlP (o : Ori) (pa qu : ByteArray) (o' : Ori) (pa' qu' : ByteArray) (w : World) : (binOp .eql 61 (.agg #[.bool o.secure, .string o.host, .int .i64 o.port, .string pa, .string qu]) (.agg #[.bool o'.secure, .string o'.host, .int .i64 o'.port, .string pa', .string qu'])).run Tryd.prog w = .ok (.bool (o.eqB o' && (pa.toList == pa'.toList && qu.toList == qu'.toList))) w := by
  go_simp
  simp only [show ∀ (P : Prop) [Decidable P] (W : World) (b : Bool), (if P then (Result.ok (Value.bool b) W : Result Value) else .ok (.bool false) W) = .ok (.bool (decide P && b)) W from fun P _ W b => by by_cases h : P <;> simp [h]]
  congr 2
  rw [Bool.eq_iff_iff]
  simp only [Ori.eqB, Bool.and_eq_true, decide_eq_true_eq, beq_iff_eq, and_assoc, and_true]
set_option maxHeartbeats 1000000 in
set_option maxRecDepth 100000 in
theorem Forget1_any (p : Pas) (r : ReqOf Value) (hs : List Prm) (br : Nat) (w : World) (hr : w.heap[br]? = some (.cells r.cells.toArray 67 (0, 0))) :
    Calls Tryd.prog 74 #[.agg p.cells.toArray, .pointer (some ⟨br, 0, none⟩)] w fun e w' => e = .returned (.bool (p.ofReq (r.toL hs))) ∧ Fr noB w w' := by
  have heq := run_eql_ori p.frm r.frm
  have heu := run_eql_urlP p.o p.path p.query r.o r.path r.query
  have hfa : Fr noB w (w.alloc (.cells p.cells.toArray 63)) := (Fr.refl noB w).alloc _
  have g0 := hfa.keep hr (fun h => h)
  have g1 : (w.alloc (.cells p.cells.toArray 63)).heap[w.heap.size]? = some (.cells p.cells.toArray 63 (0, 0)) := new_block _ _
  have hc : ∀ i u, r.cells[i]? = some u → (w.alloc (.cells p.cells.toArray 63)).cell? ⟨br, i, none⟩ = some u := fun i u hu => by simp only [World.cell?, g0]; simpa using hu
  have c1 := hc 1 _ rfl
  have c2 := hc 2 _ rfl
  have c3 := hc 3 _ rfl
  have c4 := hc 4 _ rfl
  have c5 := hc 5 _ rfl
  have c6 := hc 6 _ rfl
  have c7 := hc 7 _ rfl
  have c8 := hc 8 _ rfl
  have HF := Lib.hid hfa
  clear hr g0 g1 hc hfa
  unfold Pas.cells at *
  cases e1 : p.frm.eqB r.frm
  · have HR := Lib.hid (show p.ofReq (r.toL hs) = false by unfold Pas.ofReq ReqOf.toL; simp only; rw [e1]; rfl)
    rw [e1] at heq
    clear e1
    go_enter Tryd.func74, Tryd.ntmps74
    go_wp2
    go_ret
    exact ⟨by rw [HR.out]; rfl, HF.out⟩
  · have HR := Lib.hid (show p.ofReq (r.toL hs) = (p.o.eqB r.o && (p.path.toList == r.path.toList && p.query.toList == r.query.toList)) by unfold Pas.ofReq ReqOf.toL; simp only; rw [e1]; rfl)
    rw [e1] at heq
    generalize (p.o.eqB r.o && (p.path.toList == r.path.toList && p.query.toList == r.query.toList)) = res at *
    clear e1
    go_enter Tryd.func74, Tryd.ntmps74
    go_wp2
    go_ret
    exact ⟨by rw [HR.out]; rfl, HF.out⟩
set_option maxHeartbeats 1000000 in
set_option maxRecDepth 100000 in
theorem BSweep1_any (p : Pas) (o : Ori) (bo : Nat) (w : World) (ho : w.heap[bo]? = some (.cells #[.bool o.secure, .string o.host, .int .i64 o.port] 24 (0, 0))) :
    Calls Tryd.prog 75 #[.agg p.cells.toArray, .pointer (some ⟨bo, 0, none⟩)] w fun e w' => e = .returned (.bool (p.ofOri o)) ∧ Fr noB w w' := by
  have heq := run_eql_ori p.frm o
  have heo := run_eql_ori p.o o
  have hfa : Fr noB w (w.alloc (.cells p.cells.toArray 63)) := (Fr.refl noB w).alloc _
  have g0 := hfa.keep ho (fun h => h)
  have c0 : (w.alloc (.cells p.cells.toArray 63)).cell? ⟨bo, 0, none⟩ = some (.bool o.secure) := by simp [World.cell?, g0]
  have c1 : (w.alloc (.cells p.cells.toArray 63)).cell? ⟨bo, 1, none⟩ = some (.string o.host) := by simp [World.cell?, g0]
  have c2 : (w.alloc (.cells p.cells.toArray 63)).cell? ⟨bo, 2, none⟩ = some (.int .i64 o.port) := by simp [World.cell?, g0]
  have HF := Lib.hid hfa
  clear ho g0 hfa
  unfold Pas.cells at *
  cases e1 : p.frm.eqB o
  · have HR := Lib.hid (show p.ofOri o = p.o.eqB o by unfold Pas.ofOri; rw [e1]; rfl)
    rw [e1] at heq
    generalize p.o.eqB o = res at *
    clear e1
    go_enter Tryd.func75, Tryd.ntmps75
    go_wp2
    go_ret
    exact ⟨by rw [HR.out]; rfl, HF.out⟩
  · have HR := Lib.hid (show p.ofOri o = true by unfold Pas.ofOri; rw [e1]; rfl)
    rw [e1] at heq
    clear e1
    go_enter Tryd.func75, Tryd.ntmps75
    go_wp2
    go_ret
    exact ⟨by rw [HR.out]; rfl, HF.out⟩
end Go.Proofs.YtkoobhgedoanhaaDoor
