/- Short names. -/
import Derived.Lib.Hide
import Derived.Test.YtjndhcngnghpiaaGreatDoorProg
import Derived.OrdersHeld
import Derived.Deep.RegionHeld
import Derived.WalkSpells
import Derived.KernelRfl
import Derived.IntWalk
import Derived.OwnWalk
import Derived.Laws.Tables
import Derived.Laws.Rows
import Derived.Laws.Strings
import Derived.Deep.MidRow
import Derived.Laws.World
import Derived.Laws.ResultCell
namespace Go.Proofs.YtjndhcngnghpiaaGreatDoor
open Go.RowKit
def NS (p:Prop):Prop:=p
theorem NS.o {p:Prop} (h:NS p):p:=h
theorem O {p:Prop} (h:p):NS p:=h
abbrev ai:=ByteArray
abbrev aH:=List UInt8
abbrev aX:=List Value
abbrev cU:=List (List Value)
abbrev bS:=Array Value
abbrev eZ:=Option Addr
abbrev dz:=Nat → Prop
abbrev aC:=Calls Go.Proofs.Tryz.prog
theorem sA {α:Type _} (l:List α) (i:Nat) (a:α):l.toArray.setIfInBounds i a = (l.set i a).toArray:=List.setIfInBounds_toArray l i a
theorem sB {α:Type _} {x:α} {l:List α} {a:α}:(x :: l).set 0 a = a :: l:=rfl
theorem sC {α:Type _} {x:α} {l:List α} {i:Nat} {a:α}:(x :: l).set (i + 1) a = x :: l.set i a:=rfl
theorem ab {p:Prop} (h:p:=by omega):p:=h
theorem af {p:Prop} (h:p:=by kernel_rfl):p:=h
theorem ag {p:Prop} (h:p:=by decide):p:=h
theorem dp {p:Prop} (h:p:=by decide +kernel):p:=h
theorem bw {p:Prop} (h:p:=by rfl):p:=h
theorem bf {p:Prop} (h:p:=by go_num):p:=h
theorem aQ {p:Prop} (h:p:=by simp):p:=h
theorem bF {p:Prop} (h:p:=by simp; omega):p:=h
theorem bX {p:Prop} (h:p:=by simp [Value.oneCell']):p:=h
theorem fl {p:Prop} (h:p:=by unfold maxLen; omega):p:=h
theorem jL {p:Prop} (h:p:=by assumption):p:=h
section
variable {P:Program} {ops:Array Oper} {Q:Exit → Act → World → Prop}
theorem dv {rest:List Oper} {a:Act} {w:World} (d:Nat) {o1 o2 o3 o4 o5} (h:wpList P ops Q (⟨some d, o1, o2, o3, o4, o5⟩ :: rest) a w):wpList P ops Q (⟨some d, o1, o2, o3, o4, o5⟩ :: rest) a w:=h
theorem cP {rest:List Oper} {a:Act} {w:World} (t:TypeId) {x y o2 o3 o4 o5} (h:wpList P ops Q (⟨none, .store t x y, o2, o3, o4, o5⟩ :: rest) a w):wpList P ops Q (⟨none, .store t x y, o2, o3, o4, o5⟩ :: rest) a w:=h
variable {md:Region.Mode} {S:World → Prop} {fuel:Nat} {listed:Array Bool} {a:Act} {w:World}
theorem uz (i d:Nat) {o1 o2 o3 o4 o5} {v:Value} (hi:ops[i]? = some ⟨some d, o1, o2, o3, o4, o5⟩) (hy:YieldsIf P ops S ⟨some d, o1, o2, o3, o4, o5⟩ v a) (h:wpAnyH P md ops Q S fuel (listed.setIfInBounds i true) (a.put (some d) v) w)
    (hs:Region.noSelect ops = true:=by kernel_rfl) (hf:Region.free md ops listed i = true:=by kernel_rfl) (hr:(Region.ready md ops listed).contains i = true:=by kernel_rfl)
    (hQ:∀ c a w, Q (.panic c) (a.put (some d) v) w → Q (.panic c) a w:=by exact fun _ _ _ h => h) (hS:S w:=by assumption):wpAnyH P md ops Q S (fuel + 1) listed a w :=
  wpAnyH_take hi hs hf hr hQ hy hS h
theorem akG (i d:Nat) {o1 o2 o3 o4 o5} {v:Value} (hi:ops[i]? = some ⟨some d, o1, o2, o3, o4, o5⟩) (h:wpAnyH P md ops Q S fuel (listed.setIfInBounds i true) (a.put (some d) v) w)
    (hz:Region.wanted ⟨some d, o1, o2, o3, o4, o5⟩ (yielded ops a.tmps) = true:=by rfl) (hy:∀ w, S w → (execOp a.eval ⟨some d, o1, o2, o3, o4, o5⟩).run P w = .ok (.value v) w:=by intro w hSw; (try dsimp only at hSw); go_simp <;> with_reducible rfl)
    (hs:Region.noSelect ops = true:=by kernel_rfl) (hf:Region.free md ops listed i = true:=by kernel_rfl) (hr:(Region.ready md ops listed).contains i = true:=by kernel_rfl)
    (hQ:∀ c a w, Q (.panic c) (a.put (some d) v) w → Q (.panic c) a w:=by exact fun _ _ _ h => h) (hS:S w:=by assumption):wpAnyH P md ops Q S (fuel + 1) listed a w :=
  wpAnyH_take hi hs hf hr hQ (Or.inl ⟨hz, hy⟩) hS h
theorem aO (i d:Nat) {o1 o2 o3 o4 o5} {v:Value} {l':Array Bool} {a':Act} (hi:ops[i]? = some ⟨some d, o1, o2, o3, o4, o5⟩) (h:wpAnyH P md ops Q S fuel l' a' w)
    (hz:Region.wanted ⟨some d, o1, o2, o3, o4, o5⟩ (yielded ops a.tmps) = true:=by rfl) (hy:∀ w, S w → (execOp a.eval ⟨some d, o1, o2, o3, o4, o5⟩).run P w = .ok (.value v) w:=by intro w hSw; (try dsimp only at hSw); go_simp <;> with_reducible rfl)
    (hl:listed.setIfInBounds i true = l':=by first | (simp only [sA, sB, sC]; rfl) | simp only [sA, sB, sC] | rfl) (ha:a.put (some d) v = a':=by first | (simp only [Act.put, sA, sB, sC]; rfl) | simp only [Act.put, sA, sB, sC] | rfl)
    (hs:Region.noSelect ops = true:=by kernel_rfl) (hf:Region.free md ops listed i = true:=by kernel_rfl) (hr:(Region.ready md ops listed).contains i = true:=by kernel_rfl)
    (hQ:∀ c a w, Q (.panic c) (a.put (some d) v) w → Q (.panic c) a w:=by exact fun _ _ _ h => h) (hS:S w:=by assumption):wpAnyH P md ops Q S (fuel + 1) listed a w :=
  wpAnyH_take hi hs hf hr hQ (Or.inl ⟨hz, hy⟩) hS (by subst hl ha; exact h)
theorem AD (i d:Nat) {o1 o2 o3 o4 o5} (hi:ops[i]? = some ⟨some d, o1, o2, o3, o4, o5⟩) (h:wpAnyH P md ops Q S fuel (listed.setIfInBounds i true) (a.put (some d) undef) w)
    (hz:Region.wanted ⟨some d, o1, o2, o3, o4, o5⟩ (yielded ops a.tmps) = false:=by rfl)
    (hs:Region.noSelect ops = true:=by kernel_rfl) (hf:Region.free md ops listed i = true:=by kernel_rfl) (hr:(Region.ready md ops listed).contains i = true:=by kernel_rfl)
    (hQ:∀ c a w, Q (.panic c) (a.put (some d) undef) w → Q (.panic c) a w:=by exact fun _ _ _ h => h) (hS:S w:=by assumption):wpAnyH P md ops Q S (fuel + 1) listed a w :=
  wpAnyH_take hi hs hf hr hQ (Or.inr ⟨hz, rfl⟩) hS h
theorem eK (i:Nat) {o:Oper} (ho:ops[i]? = some o)
    (h:∀ K':Act → World → Prop, Shut (∀ a w, S w → (S w → wpAnyH P md ops Q S fuel (listed.setIfInBounds i true) a w) → K' a w) → if Region.wanted o (yielded ops a.tmps) = true then Oper.wp P o a w K' Q else K' (a.put o.dst undef) w)
    (hr:Region.ready md ops listed = [i]:=by kernel_rfl):wpAnyH P md ops Q S (fuel + 1) listed a w:=wpAnyH_ready hr (by simp) (AllReadyH.cons ho h AllReadyH.nil)
theorem DI (i j:Nat) {o p:Oper} (ho:ops[i]? = some o) (hp:ops[j]? = some p)
    (h:∀ K':Act → World → Prop, Shut (∀ a w, S w → (S w → wpAnyH P md ops Q S fuel (listed.setIfInBounds i true) a w) → K' a w) → if Region.wanted o (yielded ops a.tmps) = true then Oper.wp P o a w K' Q else K' (a.put o.dst undef) w)
    (g:∀ K':Act → World → Prop, Shut (∀ a w, S w → (S w → wpAnyH P md ops Q S fuel (listed.setIfInBounds j true) a w) → K' a w) → if Region.wanted p (yielded ops a.tmps) = true then Oper.wp P p a w K' Q else K' (a.put p.dst undef) w)
    (hr:Region.ready md ops listed = [i, j]:=by kernel_rfl):wpAnyH P md ops Q S (fuel + 1) listed a w:=wpAnyH_ready hr (by simp) (AllReadyH.cons ho h (AllReadyH.cons hp g AllReadyH.nil))
end
abbrev ay:=@Nat.le_refl
abbrev aE:=@Nat.le_trans
abbrev cK:=@Nat.lt_of_lt_of_le
abbrev fC:=@Nat.lt_or_ge
abbrev cM:=@List.drop_eq_getElem_cons
abbrev cL:=@List.drop_eq_nil_of_le
abbrev bZ:=@List.eq_nil_of_length_eq_zero
abbrev ct:=@List.take_add_one
abbrev ar:=@if_neg
abbrev iT:=@List.ext_getElem?
abbrev aD:=@List.take_of_length_le
abbrev aS:=@Nat.zero_le
abbrev aA:=@if_pos
abbrev aq:=@congrArg
abbrev eV:=@Bool.eq_iff_iff
abbrev aK:=@beq_eq_false_iff_ne
abbrev iD:=@UInt8.toNat_inj
abbrev dQ:=@beq_iff_eq
abbrev cG:=@Bool.false_eq_true
abbrev eR:=@if_false
abbrev dY:=@if_true
abbrev iU:=@List.all_eq_false
abbrev cA:=@List.mem_of_getElem?
abbrev aN:=@ByteArray.toList_eq
abbrev jZ:=@Bool.or_true
abbrev aM:=@List.length_append
abbrev bj:=@Nat.zero_add
abbrev ep:=@List.drop_drop
abbrev cq:=@Nat.not_lt_zero
abbrev iK:=@List.dropWhile_suffix
abbrev eC:=@List.drop_zero
abbrev dI:=@List.append_nil
abbrev bT:=@Nat.le_succ
abbrev cy:=@Bool.and_eq_true
abbrev cR:=@List.mem_cons_self
abbrev bO:=@List.mem_cons_of_mem
abbrev bu:=@List.mem_cons
abbrev jI:=@List.all_append
abbrev fZ:=@List.all_eq_true
abbrev ew:=@List.mem_of_mem_take
abbrev jK:=@Option.some.inj
abbrev bK:=@decide_eq_true
abbrev bB:=@decide_eq_false
abbrev f_:=@ByteArray.size_extract
abbrev aZ:=@Nat.le_of_ble_eq_true
abbrev dF:=@List.length_eq_zero_iff
abbrev fb:=@List.length_replicate
abbrev ke:=@List.take_take
abbrev dJ:=@Nat.min_eq_left
abbrev bD:=@List.map_append
abbrev gY:=@Nat.zero_mul
abbrev gZ:=@Nat.succ_mul
abbrev bN:=@Nat.mul_le_mul_right
abbrev bP:=@List.mem_append
abbrev dC:=@Nat.add_mul
abbrev eA:=@List.map_toArray
abbrev cz:=@List.map_cons
abbrev cY:=@List.map_nil
abbrev cj:=@List.mem_map
abbrev cE:=@List.filter_append
abbrev aj:=@List.length_map
abbrev bR:=@List.length_filter_le
abbrev g_:=@List.map_map
abbrev aL:=@List.length_take
abbrev bL:=@List.getElem_mem
abbrev bH:=@List.length_drop
abbrev eT:=@List.any_eq_false
abbrev aF:=@wpList_store_row
abbrev fV:=@List.take_set_of_le
abbrev fW:=@List.drop_set_of_lt
abbrev dW:=@List.length_set
abbrev ec:=@List.flatten_append
abbrev ba:=@List.size_toArray
abbrev cH:=@List.append_assoc
abbrev jw:=@Bool.false_or
abbrev kf:=@Bool.false_and
abbrev cg:=@List.not_mem_nil
abbrev dS:=@or_false
abbrev ji:=@List.suffix_cons
abbrev gj:=@List.isEmpty_iff
abbrev eh:=@Option.some.injEq
abbrev eI:=@Bool.or_eq_false_iff
abbrev gD:=@ByteArray.data_append
abbrev ix:=@Nat.lt_of_le_of_lt
abbrev bM:=@World.size_alloc
abbrev dx:=@decide_eq_true_eq
abbrev iQ:=@ByteArray.size_append
abbrev aR:=@bodyPost_ret
abbrev cV:=@List.mem_singleton
abbrev a_:=@wpList_load_mid
abbrev aJ:=@wpList_load_row
abbrev bU:=@all_oneCell_toArray
abbrev bh:=@results_cell_row
abbrev aY:=@setRow_heap
abbrev hZ:=@wpList_store_mid
abbrev ey:=@List.mem_of_mem_drop
abbrev fE:=@List.take_append_drop
abbrev fD:=@List.mem_flatten
abbrev iy:=@and_true
abbrev eW:=@List.mem_filter
abbrev gQ:=@Int.le_refl
abbrev kH:=@Ne.symm
abbrev gA:=@Bool.false_ne_true
abbrev iB:=@Prod.mk.injEq
abbrev bV:=@World.rangeAt_setCells_apart
abbrev fR:=@yieldsIf_load_mid
abbrev iR:=@List.filterMap_append
abbrev fA:=@List.cons.injEq
