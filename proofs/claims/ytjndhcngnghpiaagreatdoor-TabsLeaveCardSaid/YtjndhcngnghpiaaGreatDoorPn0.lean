/- Short names. -/
import Derived.Lib.Hide
import Derived.Test.YtjndhcngnghpiaaGreatDoorProg
import Derived.OrdersHeld
import Derived.Deep.RegionHeld
import Derived.WalkSpells
import Derived.KernelRfl
import Derived.IntWalk
import Derived.OwnWalk
import Derived.Laws.Tables
import Derived.Laws.Rows
import Derived.Laws.Strings
import Derived.Deep.MidRow
import Derived.Laws.World
import Derived.Laws.ResultCell
namespace Go.Proofs.YtjndhcngnghpiaaGreatDoor
open Go.RowKit
def OO (p:Prop):Prop:=p
theorem OO.o {p:Prop} (h:OO p):p:=h
theorem O {p:Prop} (h:p):OO p:=h
abbrev aj:=ByteArray
abbrev aH:=List UInt8
abbrev aX:=List Value
abbrev cY:=List (List Value)
abbrev bS:=Array Value
abbrev eQ:=Option Addr
abbrev dB:=Nat → Prop
abbrev aB:=Calls Go.Proofs.Tryz.prog
theorem sA {α:Type _} (l:List α) (i:Nat) (a:α):l.toArray.setIfInBounds i a = (l.set i a).toArray:=List.setIfInBounds_toArray l i a
theorem sB {α:Type _} {x:α} {l:List α} {a:α}:(x :: l).set 0 a = a :: l:=rfl
theorem sC {α:Type _} {x:α} {l:List α} {i:Nat} {a:α}:(x :: l).set (i + 1) a = x :: l.set i a:=rfl
theorem ab {p:Prop} (h:p:=by omega):p:=h
theorem af {p:Prop} (h:p:=by kernel_rfl):p:=h
theorem ag {p:Prop} (h:p:=by decide):p:=h
theorem dt {p:Prop} (h:p:=by decide +kernel):p:=h
theorem bC {p:Prop} (h:p:=by rfl):p:=h
theorem bg {p:Prop} (h:p:=by go_num):p:=h
theorem aR {p:Prop} (h:p:=by simp):p:=h
theorem bH {p:Prop} (h:p:=by simp; omega):p:=h
theorem ct {p:Prop} (h:p:=by simp [Value.oneCell']):p:=h
theorem ft {p:Prop} (h:p:=by unfold maxLen; omega):p:=h
theorem jS {p:Prop} (h:p:=by assumption):p:=h
section
variable {P:Program} {ops:Array Oper} {Q:Exit → Act → World → Prop}
theorem dk {rest:List Oper} {a:Act} {w:World} (d:Nat) {o1 o2 o3 o4 o5} (h:wpList P ops Q (⟨some d, o1, o2, o3, o4, o5⟩ :: rest) a w):wpList P ops Q (⟨some d, o1, o2, o3, o4, o5⟩ :: rest) a w:=h
theorem cV {rest:List Oper} {a:Act} {w:World} (t:TypeId) {x y o2 o3 o4 o5} (h:wpList P ops Q (⟨none, .store t x y, o2, o3, o4, o5⟩ :: rest) a w):wpList P ops Q (⟨none, .store t x y, o2, o3, o4, o5⟩ :: rest) a w:=h
variable {md:Region.Mode} {S:World → Prop} {fuel:Nat} {listed:Array Bool} {a:Act} {w:World}
theorem v8 (i d:Nat) {o1 o2 o3 o4 o5} {v:Value} (hi:ops[i]? = some ⟨some d, o1, o2, o3, o4, o5⟩) (hy:YieldsIf P ops S ⟨some d, o1, o2, o3, o4, o5⟩ v a) (h:wpAnyH P md ops Q S fuel (listed.setIfInBounds i true) (a.put (some d) v) w)
    (hs:Region.noSelect ops = true:=by kernel_rfl) (hf:Region.free md ops listed i = true:=by kernel_rfl) (hr:(Region.ready md ops listed).contains i = true:=by kernel_rfl)
    (hQ:∀ c a w, Q (.panic c) (a.put (some d) v) w → Q (.panic c) a w:=by exact fun _ _ _ h => h) (hS:S w:=by assumption):wpAnyH P md ops Q S (fuel + 1) listed a w :=
  wpAnyH_take hi hs hf hr hQ hy hS h
theorem amg (i d:Nat) {o1 o2 o3 o4 o5} {v:Value} (hi:ops[i]? = some ⟨some d, o1, o2, o3, o4, o5⟩) (h:wpAnyH P md ops Q S fuel (listed.setIfInBounds i true) (a.put (some d) v) w)
    (hz:Region.wanted ⟨some d, o1, o2, o3, o4, o5⟩ (yielded ops a.tmps) = true:=by rfl) (hy:∀ w, S w → (execOp a.eval ⟨some d, o1, o2, o3, o4, o5⟩).run P w = .ok (.value v) w:=by intro w hSw; (try dsimp only at hSw); go_simp <;> with_reducible rfl)
    (hs:Region.noSelect ops = true:=by kernel_rfl) (hf:Region.free md ops listed i = true:=by kernel_rfl) (hr:(Region.ready md ops listed).contains i = true:=by kernel_rfl)
    (hQ:∀ c a w, Q (.panic c) (a.put (some d) v) w → Q (.panic c) a w:=by exact fun _ _ _ h => h) (hS:S w:=by assumption):wpAnyH P md ops Q S (fuel + 1) listed a w :=
  wpAnyH_take hi hs hf hr hQ (Or.inl ⟨hz, hy⟩) hS h
theorem aW (i d:Nat) {o1 o2 o3 o4 o5} {v:Value} {l':Array Bool} {a':Act} (hi:ops[i]? = some ⟨some d, o1, o2, o3, o4, o5⟩) (h:wpAnyH P md ops Q S fuel l' a' w)
    (hz:Region.wanted ⟨some d, o1, o2, o3, o4, o5⟩ (yielded ops a.tmps) = true:=by rfl) (hy:∀ w, S w → (execOp a.eval ⟨some d, o1, o2, o3, o4, o5⟩).run P w = .ok (.value v) w:=by intro w hSw; (try dsimp only at hSw); go_simp <;> with_reducible rfl)
    (hl:listed.setIfInBounds i true = l':=by first | (simp only [sA, sB, sC]; rfl) | simp only [sA, sB, sC] | rfl) (ha:a.put (some d) v = a':=by first | (simp only [Act.put, sA, sB, sC]; rfl) | simp only [Act.put, sA, sB, sC] | rfl)
    (hs:Region.noSelect ops = true:=by kernel_rfl) (hf:Region.free md ops listed i = true:=by kernel_rfl) (hr:(Region.ready md ops listed).contains i = true:=by kernel_rfl)
    (hQ:∀ c a w, Q (.panic c) (a.put (some d) v) w → Q (.panic c) a w:=by exact fun _ _ _ h => h) (hS:S w:=by assumption):wpAnyH P md ops Q S (fuel + 1) listed a w :=
  wpAnyH_take hi hs hf hr hQ (Or.inl ⟨hz, hy⟩) hS (by subst hl ha; exact h)
theorem Ba (i d:Nat) {o1 o2 o3 o4 o5} (hi:ops[i]? = some ⟨some d, o1, o2, o3, o4, o5⟩) (h:wpAnyH P md ops Q S fuel (listed.setIfInBounds i true) (a.put (some d) undef) w)
    (hz:Region.wanted ⟨some d, o1, o2, o3, o4, o5⟩ (yielded ops a.tmps) = false:=by rfl)
    (hs:Region.noSelect ops = true:=by kernel_rfl) (hf:Region.free md ops listed i = true:=by kernel_rfl) (hr:(Region.ready md ops listed).contains i = true:=by kernel_rfl)
    (hQ:∀ c a w, Q (.panic c) (a.put (some d) undef) w → Q (.panic c) a w:=by exact fun _ _ _ h => h) (hS:S w:=by assumption):wpAnyH P md ops Q S (fuel + 1) listed a w :=
  wpAnyH_take hi hs hf hr hQ (Or.inr ⟨hz, rfl⟩) hS h
theorem eT (i:Nat) {o:Oper} (ho:ops[i]? = some o)
    (h:∀ K':Act → World → Prop, Shut (∀ a w, S w → (S w → wpAnyH P md ops Q S fuel (listed.setIfInBounds i true) a w) → K' a w) → if Region.wanted o (yielded ops a.tmps) = true then Oper.wp P o a w K' Q else K' (a.put o.dst undef) w)
    (hr:Region.ready md ops listed = [i]:=by kernel_rfl):wpAnyH P md ops Q S (fuel + 1) listed a w:=wpAnyH_ready hr (by simp) (AllReadyH.cons ho h AllReadyH.nil)
theorem D7 (i j:Nat) {o p:Oper} (ho:ops[i]? = some o) (hp:ops[j]? = some p)
    (h:∀ K':Act → World → Prop, Shut (∀ a w, S w → (S w → wpAnyH P md ops Q S fuel (listed.setIfInBounds i true) a w) → K' a w) → if Region.wanted o (yielded ops a.tmps) = true then Oper.wp P o a w K' Q else K' (a.put o.dst undef) w)
    (g:∀ K':Act → World → Prop, Shut (∀ a w, S w → (S w → wpAnyH P md ops Q S fuel (listed.setIfInBounds j true) a w) → K' a w) → if Region.wanted p (yielded ops a.tmps) = true then Oper.wp P p a w K' Q else K' (a.put p.dst undef) w)
    (hr:Region.ready md ops listed = [i, j]:=by kernel_rfl):wpAnyH P md ops Q S (fuel + 1) listed a w:=wpAnyH_ready hr (by simp) (AllReadyH.cons ho h (AllReadyH.cons hp g AllReadyH.nil))
end
abbrev ay:=@Nat.le_refl
abbrev aF:=@Nat.le_trans
abbrev cO:=@Nat.lt_of_lt_of_le
abbrev fF:=@Nat.lt_or_ge
abbrev cR:=@List.drop_eq_getElem_cons
abbrev cP:=@List.drop_eq_nil_of_le
abbrev cg:=@List.eq_nil_of_length_eq_zero
abbrev cC:=@List.take_add_one
abbrev ar:=@if_neg
abbrev iY:=@List.ext_getElem?
abbrev aD:=@List.take_of_length_le
abbrev aQ:=@Nat.zero_le
abbrev aA:=@if_pos
abbrev aq:=@congrArg
abbrev fb:=@Bool.eq_iff_iff
abbrev aL:=@beq_eq_false_iff_ne
abbrev iK:=@UInt8.toNat_inj
abbrev dT:=@beq_iff_eq
abbrev cJ:=@Bool.false_eq_true
abbrev eV:=@if_false
abbrev eb:=@if_true
abbrev iZ:=@List.all_eq_false
abbrev cj:=@List.mem_of_getElem?
abbrev aO:=@ByteArray.toList_eq
abbrev ka:=@Bool.or_true
abbrev aN:=@List.length_append
abbrev bw:=@Nat.zero_add
abbrev ew:=@List.drop_drop
abbrev cq:=@Nat.not_lt_zero
abbrev iR:=@List.dropWhile_suffix
abbrev eE:=@List.drop_zero
abbrev dR:=@List.append_nil
abbrev bV:=@Nat.le_succ
abbrev cF:=@Bool.and_eq_true
abbrev cX:=@List.mem_cons_self
abbrev bP:=@List.mem_cons_of_mem
abbrev bB:=@List.mem_cons
abbrev jP:=@List.all_append
abbrev gu:=@List.all_eq_true
abbrev ey:=@List.mem_of_mem_take
abbrev jR:=@Option.some.inj
abbrev bL:=@decide_eq_true
abbrev bD:=@decide_eq_false
abbrev gy:=@ByteArray.size_extract
abbrev bd:=@Nat.le_of_ble_eq_true
abbrev dG:=@List.length_eq_zero_iff
abbrev fi:=@List.length_replicate
abbrev km:=@List.take_take
abbrev dL:=@Nat.min_eq_left
abbrev bG:=@List.map_append
abbrev ia:=@Nat.zero_mul
abbrev ib:=@Nat.succ_mul
abbrev bO:=@Nat.mul_le_mul_right
abbrev bQ:=@List.mem_append
abbrev dE:=@Nat.add_mul
abbrev eC:=@List.map_toArray
abbrev cD:=@List.map_cons
abbrev dp:=@List.map_nil
abbrev bZ:=@List.mem_map
abbrev cG:=@List.filter_append
abbrev ai:=@List.length_map
abbrev bT:=@List.length_filter_le
abbrev ic:=@List.map_map
abbrev aM:=@List.length_take
abbrev bM:=@List.getElem_mem
abbrev bJ:=@List.length_drop
abbrev eX:=@List.any_eq_false
abbrev aG:=@wpList_store_row
abbrev gi:=@List.take_set_of_le
abbrev gj:=@List.drop_set_of_lt
abbrev d_:=@List.length_set
abbrev ed:=@List.flatten_append
abbrev aZ:=@List.size_toArray
abbrev cK:=@List.append_assoc
abbrev jE:=@Bool.false_or
abbrev kn:=@Bool.false_and
abbrev cz:=@List.not_mem_nil
abbrev dU:=@or_false
abbrev jr:=@List.suffix_cons
abbrev gA:=@List.isEmpty_iff
abbrev eo:=@Option.some.injEq
abbrev eK:=@Bool.or_eq_false_iff
abbrev gK:=@ByteArray.data_append
abbrev iD:=@Nat.lt_of_le_of_lt
abbrev bN:=@World.size_alloc
abbrev dF:=@decide_eq_true_eq
abbrev iW:=@ByteArray.size_append
abbrev aU:=@bodyPost_ret
abbrev cZ:=@List.mem_singleton
abbrev a_:=@wpList_load_mid
abbrev aI:=@wpList_load_row
abbrev bW:=@all_oneCell_toArray
abbrev bu:=@results_cell_row
abbrev aY:=@setRow_heap
abbrev ig:=@wpList_store_mid
abbrev ez:=@List.mem_of_mem_drop
abbrev fL:=@List.take_append_drop
abbrev fK:=@List.mem_flatten
abbrev iE:=@and_true
abbrev fc:=@List.mem_filter
abbrev gV:=@Int.le_refl
abbrev kO:=@Ne.symm
abbrev gI:=@Bool.false_ne_true
abbrev iI:=@Prod.mk.injEq
abbrev bX:=@World.rangeAt_setCells_apart
abbrev gR:=@yieldsIf_load_mid
abbrev iX:=@List.filterMap_append
abbrev fD:=@List.cons.injEq
