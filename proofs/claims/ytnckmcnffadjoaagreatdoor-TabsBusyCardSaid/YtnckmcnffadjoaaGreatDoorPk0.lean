/- Short names. -/
import Derived.Lib.Hide
import Derived.OrdersHeld
import Derived.Deep.RegionHeld
import Derived.WalkSpells
import Derived.KernelRfl
import Derived.IntWalk
import Derived.OwnWalk
import Derived.Laws.Tables
import Derived.Laws.Rows
import Derived.Laws.Strings
import Derived.Deep.MidRow
import Derived.Laws.World
import Derived.Laws.ResultCell
namespace Go.Proofs.YtnckmcnffadjoaaGreatDoor
open Go.RowKit
def Pv (p:Prop):Prop:=p
theorem Pv.o {p:Prop} (h:Pv p):p:=h
theorem O {p:Prop} (h:p):Pv p:=h
abbrev aj:=ByteArray
abbrev aG:=List UInt8
theorem sA {α:Type _} (l:List α) (i:Nat) (a:α):l.toArray.setIfInBounds i a = (l.set i a).toArray:=List.setIfInBounds_toArray l i a
theorem sB {α:Type _} {x:α} {l:List α} {a:α}:(x :: l).set 0 a = a :: l:=rfl
theorem sC {α:Type _} {x:α} {l:List α} {i:Nat} {a:α}:(x :: l).set (i + 1) a = x :: l.set i a:=rfl
theorem ab {p:Prop} (h:p:=by omega):p:=h
theorem af {p:Prop} (h:p:=by kernel_rfl):p:=h
theorem ag {p:Prop} (h:p:=by decide):p:=h
theorem dp {p:Prop} (h:p:=by decide +kernel):p:=h
theorem bC {p:Prop} (h:p:=by rfl):p:=h
theorem a_ {p:Prop} (h:p:=by go_num):p:=h
theorem aQ {p:Prop} (h:p:=by simp):p:=h
theorem bG {p:Prop} (h:p:=by simp; omega):p:=h
theorem ct {p:Prop} (h:p:=by simp [Value.oneCell']):p:=h
theorem fq {p:Prop} (h:p:=by unfold maxLen; omega):p:=h
theorem jA {p:Prop} (h:p:=by assumption):p:=h
section
variable {P:Program} {ops:Array Oper} {Q:Exit → Act → World → Prop}
theorem cY {rest:List Oper} {a:Act} {w:World} (d:Nat) {o1 o2 o3 o4 o5} (h:wpList P ops Q (⟨some d, o1, o2, o3, o4, o5⟩ :: rest) a w):wpList P ops Q (⟨some d, o1, o2, o3, o4, o5⟩ :: rest) a w:=h
theorem cV {rest:List Oper} {a:Act} {w:World} (t:TypeId) {x y o2 o3 o4 o5} (h:wpList P ops Q (⟨none, .store t x y, o2, o3, o4, o5⟩ :: rest) a w):wpList P ops Q (⟨none, .store t x y, o2, o3, o4, o5⟩ :: rest) a w:=h
variable {md:Region.Mode} {S:World → Prop} {fuel:Nat} {listed:Array Bool} {a:Act} {w:World}
theorem tT (i d:Nat) {o1 o2 o3 o4 o5} {v:Value} (hi:ops[i]? = some ⟨some d, o1, o2, o3, o4, o5⟩) (hy:YieldsIf P ops S ⟨some d, o1, o2, o3, o4, o5⟩ v a) (h:wpAnyH P md ops Q S fuel (listed.setIfInBounds i true) (a.put (some d) v) w)
    (hs:Region.noSelect ops = true:=by kernel_rfl) (hf:Region.free md ops listed i = true:=by kernel_rfl) (hr:(Region.ready md ops listed).contains i = true:=by kernel_rfl)
    (hQ:∀ c a w, Q (.panic c) (a.put (some d) v) w → Q (.panic c) a w:=by exact fun _ _ _ h => h) (hS:S w:=by assumption):wpAnyH P md ops Q S (fuel + 1) listed a w :=
  wpAnyH_take hi hs hf hr hQ hy hS h
theorem aZ (i d:Nat) {o1 o2 o3 o4 o5} {v:Value} (hi:ops[i]? = some ⟨some d, o1, o2, o3, o4, o5⟩) (h:wpAnyH P md ops Q S fuel (listed.setIfInBounds i true) (a.put (some d) v) w)
    (hz:Region.wanted ⟨some d, o1, o2, o3, o4, o5⟩ (yielded ops a.tmps) = true:=by rfl) (hy:∀ w, S w → (execOp a.eval ⟨some d, o1, o2, o3, o4, o5⟩).run P w = .ok (.value v) w:=by intro w hSw; (try dsimp only at hSw); go_simp <;> with_reducible rfl)
    (hs:Region.noSelect ops = true:=by kernel_rfl) (hf:Region.free md ops listed i = true:=by kernel_rfl) (hr:(Region.ready md ops listed).contains i = true:=by kernel_rfl)
    (hQ:∀ c a w, Q (.panic c) (a.put (some d) v) w → Q (.panic c) a w:=by exact fun _ _ _ h => h) (hS:S w:=by assumption):wpAnyH P md ops Q S (fuel + 1) listed a w :=
  wpAnyH_take hi hs hf hr hQ (Or.inl ⟨hz, hy⟩) hS h
theorem BG (i d:Nat) {o1 o2 o3 o4 o5} (hi:ops[i]? = some ⟨some d, o1, o2, o3, o4, o5⟩) (h:wpAnyH P md ops Q S fuel (listed.setIfInBounds i true) (a.put (some d) undef) w)
    (hz:Region.wanted ⟨some d, o1, o2, o3, o4, o5⟩ (yielded ops a.tmps) = false:=by rfl)
    (hs:Region.noSelect ops = true:=by kernel_rfl) (hf:Region.free md ops listed i = true:=by kernel_rfl) (hr:(Region.ready md ops listed).contains i = true:=by kernel_rfl)
    (hQ:∀ c a w, Q (.panic c) (a.put (some d) undef) w → Q (.panic c) a w:=by exact fun _ _ _ h => h) (hS:S w:=by assumption):wpAnyH P md ops Q S (fuel + 1) listed a w :=
  wpAnyH_take hi hs hf hr hQ (Or.inr ⟨hz, rfl⟩) hS h
theorem eL (i:Nat) {o:Oper} (ho:ops[i]? = some o)
    (h:∀ K':Act → World → Prop, Shut (∀ a w, S w → (S w → wpAnyH P md ops Q S fuel (listed.setIfInBounds i true) a w) → K' a w) → if Region.wanted o (yielded ops a.tmps) = true then Oper.wp P o a w K' Q else K' (a.put o.dst undef) w)
    (hr:Region.ready md ops listed = [i]:=by kernel_rfl):wpAnyH P md ops Q S (fuel + 1) listed a w:=wpAnyH_ready hr (by simp) (AllReadyH.cons ho h AllReadyH.nil)
theorem EF (i j:Nat) {o p:Oper} (ho:ops[i]? = some o) (hp:ops[j]? = some p)
    (h:∀ K':Act → World → Prop, Shut (∀ a w, S w → (S w → wpAnyH P md ops Q S fuel (listed.setIfInBounds i true) a w) → K' a w) → if Region.wanted o (yielded ops a.tmps) = true then Oper.wp P o a w K' Q else K' (a.put o.dst undef) w)
    (g:∀ K':Act → World → Prop, Shut (∀ a w, S w → (S w → wpAnyH P md ops Q S fuel (listed.setIfInBounds j true) a w) → K' a w) → if Region.wanted p (yielded ops a.tmps) = true then Oper.wp P p a w K' Q else K' (a.put p.dst undef) w)
    (hr:Region.ready md ops listed = [i, j]:=by kernel_rfl):wpAnyH P md ops Q S (fuel + 1) listed a w:=wpAnyH_ready hr (by simp) (AllReadyH.cons ho h (AllReadyH.cons hp g AllReadyH.nil))
end
abbrev ay:=@Nat.le_refl
abbrev aD:=@Nat.le_trans
abbrev cN:=@Nat.lt_of_lt_of_le
abbrev eM:=@Nat.lt_or_ge
abbrev cR:=@List.drop_eq_getElem_cons
abbrev cO:=@List.drop_eq_nil_of_le
abbrev cg:=@List.eq_nil_of_length_eq_zero
abbrev bZ:=@List.take_add_one
abbrev aq:=@if_neg
abbrev jk:=@List.ext_getElem?
abbrev aC:=@List.take_of_length_le
abbrev aI:=@Nat.zero_le
abbrev az:=@if_pos
abbrev ar:=@congrArg
abbrev fa:=@Bool.eq_iff_iff
abbrev aN:=@beq_eq_false_iff_ne
abbrev iX:=@UInt8.toNat_inj
abbrev dT:=@beq_iff_eq
abbrev cG:=@Bool.false_eq_true
abbrev eU:=@if_false
abbrev eb:=@if_true
abbrev jl:=@List.all_eq_false
abbrev bT:=@List.mem_of_getElem?
abbrev aO:=@ByteArray.toList_eq
abbrev kq:=@Bool.or_true
abbrev aM:=@List.length_append
abbrev bw:=@Nat.zero_add
abbrev ey:=@List.drop_drop
abbrev bS:=@Nat.not_lt_zero
abbrev jd:=@List.dropWhile_suffix
abbrev eD:=@List.drop_zero
abbrev dR:=@List.append_nil
abbrev bU:=@Nat.le_succ
abbrev cD:=@Bool.and_eq_true
abbrev cQ:=@List.mem_cons_self
abbrev bN:=@List.mem_cons_of_mem
abbrev bB:=@List.mem_cons
abbrev jL:=@Bool.true_and
abbrev j9:=@List.all_append
abbrev gA:=@List.all_eq_true
abbrev dX:=@List.mem_of_mem_take
abbrev ka:=@Option.some.inj
abbrev bf:=@decide_eq_true
abbrev bh:=@decide_eq_false
abbrev gB:=@ByteArray.size_extract
abbrev aY:=@Nat.le_of_ble_eq_true
abbrev dF:=@List.length_eq_zero_iff
abbrev fi:=@List.length_replicate
abbrev kA:=@List.take_take
abbrev dK:=@Nat.min_eq_left
abbrev bH:=@List.map_append
abbrev ik:=@Nat.zero_mul
abbrev il:=@Nat.succ_mul
abbrev bO:=@Nat.mul_le_mul_right
abbrev bK:=@List.mem_append
abbrev dC:=@Nat.add_mul
abbrev eC:=@List.map_toArray
abbrev cA:=@List.map_cons
abbrev dn:=@List.map_nil
abbrev bV:=@List.mem_map
abbrev cC:=@List.filter_append
abbrev ai:=@List.length_map
abbrev bQ:=@List.length_filter_le
abbrev im:=@List.map_map
abbrev aJ:=@List.length_take
abbrev bL:=@List.getElem_mem
abbrev bJ:=@List.length_drop
abbrev eW:=@List.any_eq_false
abbrev aE:=@wpList_store_row
abbrev gj:=@List.take_set_of_le
abbrev gl:=@List.drop_set_of_lt
abbrev d_:=@List.length_set
abbrev ed:=@List.flatten_append
abbrev aW:=@List.size_toArray
abbrev cH:=@List.append_assoc
abbrev jN:=@Bool.false_or
abbrev kB:=@Bool.false_and
abbrev cq:=@List.not_mem_nil
abbrev dU:=@or_false
abbrev jB:=@List.suffix_cons
abbrev gD:=@List.isEmpty_iff
abbrev en:=@Option.some.injEq
abbrev eJ:=@Bool.or_eq_false_iff
abbrev gN:=@ByteArray.data_append
abbrev iK:=@Nat.lt_of_le_of_lt
abbrev bM:=@World.size_alloc
abbrev dD:=@decide_eq_true_eq
abbrev jg:=@ByteArray.size_append
abbrev aS:=@bodyPost_ret
abbrev cE:=@List.mem_singleton
abbrev aU:=@wpList_load_mid
abbrev aH:=@wpList_load_row
abbrev bW:=@all_oneCell_toArray
abbrev bu:=@results_cell_row
abbrev aX:=@setRow_heap
abbrev iq:=@wpList_store_mid
abbrev ez:=@List.mem_of_mem_drop
abbrev fM:=@List.take_append_drop
abbrev fL:=@List.mem_flatten
abbrev iL:=@and_true
abbrev fb:=@List.mem_filter
abbrev fG:=@Int.le_refl
abbrev kY:=@Ne.symm
abbrev gL:=@Bool.false_ne_true
abbrev iU:=@Prod.mk.injEq
abbrev bX:=@World.rangeAt_setCells_apart
abbrev fB:=@yieldsIf_load_mid
abbrev ji:=@List.filterMap_append
abbrev jU:=@Nat.add_assoc
abbrev fE:=@List.cons.injEq
