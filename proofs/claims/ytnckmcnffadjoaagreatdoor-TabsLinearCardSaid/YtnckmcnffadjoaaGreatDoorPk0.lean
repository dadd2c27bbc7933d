/- Short names. -/
import Derived.Lib.Hide
import Derived.Test.YtnckmcnffadjoaaGreatDoorProg
import Derived.OrdersHeld
import Derived.Deep.RegionHeld
import Derived.WalkSpells
import Derived.KernelRfl
import Derived.IntWalk
import Derived.OwnWalk
import Derived.Laws.Tables
import Derived.Laws.Rows
import Derived.Laws.Strings
import Derived.Deep.MidRow
import Derived.Laws.World
import Derived.Laws.ResultCell
namespace Go.Proofs.YtnckmcnffadjoaaGreatDoor
open Go.RowKit
def PL (p:Prop):Prop:=p
theorem PL.o {p:Prop} (h:PL p):p:=h
theorem O {p:Prop} (h:p):PL p:=h
abbrev aj:=ByteArray
abbrev aH:=List UInt8
abbrev aZ:=List Value
abbrev dh:=List (List Value)
abbrev bT:=Array Value
abbrev eO:=Option Addr
abbrev dF:=Nat → Prop
abbrev aB:=Calls Go.Proofs.Tryz.prog
theorem sA {α:Type _} (l:List α) (i:Nat) (a:α):l.toArray.setIfInBounds i a = (l.set i a).toArray:=List.setIfInBounds_toArray l i a
theorem sB {α:Type _} {x:α} {l:List α} {a:α}:(x :: l).set 0 a = a :: l:=rfl
theorem sC {α:Type _} {x:α} {l:List α} {i:Nat} {a:α}:(x :: l).set (i + 1) a = x :: l.set i a:=rfl
theorem ab {p:Prop} (h:p:=by omega):p:=h
theorem af {p:Prop} (h:p:=by kernel_rfl):p:=h
theorem ag {p:Prop} (h:p:=by decide):p:=h
theorem dw {p:Prop} (h:p:=by decide +kernel):p:=h
theorem bD {p:Prop} (h:p:=by rfl):p:=h
theorem bg {p:Prop} (h:p:=by go_num):p:=h
theorem aR {p:Prop} (h:p:=by simp):p:=h
theorem bH {p:Prop} (h:p:=by simp; omega):p:=h
theorem cC {p:Prop} (h:p:=by simp [Value.oneCell']):p:=h
theorem ft {p:Prop} (h:p:=by unfold maxLen; omega):p:=h
theorem jH {p:Prop} (h:p:=by assumption):p:=h
section
variable {P:Program} {ops:Array Oper} {Q:Exit → Act → World → Prop}
theorem dr {rest:List Oper} {a:Act} {w:World} (d:Nat) {o1 o2 o3 o4 o5} (h:wpList P ops Q (⟨some d, o1, o2, o3, o4, o5⟩ :: rest) a w):wpList P ops Q (⟨some d, o1, o2, o3, o4, o5⟩ :: rest) a w:=h
theorem cZ {rest:List Oper} {a:Act} {w:World} (t:TypeId) {x y o2 o3 o4 o5} (h:wpList P ops Q (⟨none, .store t x y, o2, o3, o4, o5⟩ :: rest) a w):wpList P ops Q (⟨none, .store t x y, o2, o3, o4, o5⟩ :: rest) a w:=h
variable {md:Region.Mode} {S:World → Prop} {fuel:Nat} {listed:Array Bool} {a:Act} {w:World}
theorem tY (i d:Nat) {o1 o2 o3 o4 o5} {v:Value} (hi:ops[i]? = some ⟨some d, o1, o2, o3, o4, o5⟩) (hy:YieldsIf P ops S ⟨some d, o1, o2, o3, o4, o5⟩ v a) (h:wpAnyH P md ops Q S fuel (listed.setIfInBounds i true) (a.put (some d) v) w)
    (hs:Region.noSelect ops = true:=by kernel_rfl) (hf:Region.free md ops listed i = true:=by kernel_rfl) (hr:(Region.ready md ops listed).contains i = true:=by kernel_rfl)
    (hQ:∀ c a w, Q (.panic c) (a.put (some d) v) w → Q (.panic c) a w:=by exact fun _ _ _ h => h) (hS:S w:=by assumption):wpAnyH P md ops Q S (fuel + 1) listed a w :=
  wpAnyH_take hi hs hf hr hQ hy hS h
theorem anf (i d:Nat) {o1 o2 o3 o4 o5} {v:Value} (hi:ops[i]? = some ⟨some d, o1, o2, o3, o4, o5⟩) (h:wpAnyH P md ops Q S fuel (listed.setIfInBounds i true) (a.put (some d) v) w)
    (hz:Region.wanted ⟨some d, o1, o2, o3, o4, o5⟩ (yielded ops a.tmps) = true:=by rfl) (hy:∀ w, S w → (execOp a.eval ⟨some d, o1, o2, o3, o4, o5⟩).run P w = .ok (.value v) w:=by intro w hSw; (try dsimp only at hSw); go_simp <;> with_reducible rfl)
    (hs:Region.noSelect ops = true:=by kernel_rfl) (hf:Region.free md ops listed i = true:=by kernel_rfl) (hr:(Region.ready md ops listed).contains i = true:=by kernel_rfl)
    (hQ:∀ c a w, Q (.panic c) (a.put (some d) v) w → Q (.panic c) a w:=by exact fun _ _ _ h => h) (hS:S w:=by assumption):wpAnyH P md ops Q S (fuel + 1) listed a w :=
  wpAnyH_take hi hs hf hr hQ (Or.inl ⟨hz, hy⟩) hS h
theorem aU (i d:Nat) {o1 o2 o3 o4 o5} {v:Value} {l':Array Bool} {a':Act} (hi:ops[i]? = some ⟨some d, o1, o2, o3, o4, o5⟩) (h:wpAnyH P md ops Q S fuel l' a' w)
    (hz:Region.wanted ⟨some d, o1, o2, o3, o4, o5⟩ (yielded ops a.tmps) = true:=by rfl) (hy:∀ w, S w → (execOp a.eval ⟨some d, o1, o2, o3, o4, o5⟩).run P w = .ok (.value v) w:=by intro w hSw; (try dsimp only at hSw); go_simp <;> with_reducible rfl)
    (hl:listed.setIfInBounds i true = l':=by first | (simp only [sA, sB, sC]; rfl) | simp only [sA, sB, sC] | rfl) (ha:a.put (some d) v = a':=by first | (simp only [Act.put, sA, sB, sC]; rfl) | simp only [Act.put, sA, sB, sC] | rfl)
    (hs:Region.noSelect ops = true:=by kernel_rfl) (hf:Region.free md ops listed i = true:=by kernel_rfl) (hr:(Region.ready md ops listed).contains i = true:=by kernel_rfl)
    (hQ:∀ c a w, Q (.panic c) (a.put (some d) v) w → Q (.panic c) a w:=by exact fun _ _ _ h => h) (hS:S w:=by assumption):wpAnyH P md ops Q S (fuel + 1) listed a w :=
  wpAnyH_take hi hs hf hr hQ (Or.inl ⟨hz, hy⟩) hS (by subst hl ha; exact h)
theorem BM (i d:Nat) {o1 o2 o3 o4 o5} (hi:ops[i]? = some ⟨some d, o1, o2, o3, o4, o5⟩) (h:wpAnyH P md ops Q S fuel (listed.setIfInBounds i true) (a.put (some d) undef) w)
    (hz:Region.wanted ⟨some d, o1, o2, o3, o4, o5⟩ (yielded ops a.tmps) = false:=by rfl)
    (hs:Region.noSelect ops = true:=by kernel_rfl) (hf:Region.free md ops listed i = true:=by kernel_rfl) (hr:(Region.ready md ops listed).contains i = true:=by kernel_rfl)
    (hQ:∀ c a w, Q (.panic c) (a.put (some d) undef) w → Q (.panic c) a w:=by exact fun _ _ _ h => h) (hS:S w:=by assumption):wpAnyH P md ops Q S (fuel + 1) listed a w :=
  wpAnyH_take hi hs hf hr hQ (Or.inr ⟨hz, rfl⟩) hS h
theorem eR (i:Nat) {o:Oper} (ho:ops[i]? = some o)
    (h:∀ K':Act → World → Prop, Shut (∀ a w, S w → (S w → wpAnyH P md ops Q S fuel (listed.setIfInBounds i true) a w) → K' a w) → if Region.wanted o (yielded ops a.tmps) = true then Oper.wp P o a w K' Q else K' (a.put o.dst undef) w)
    (hr:Region.ready md ops listed = [i]:=by kernel_rfl):wpAnyH P md ops Q S (fuel + 1) listed a w:=wpAnyH_ready hr (by simp) (AllReadyH.cons ho h AllReadyH.nil)
theorem EM (i j:Nat) {o p:Oper} (ho:ops[i]? = some o) (hp:ops[j]? = some p)
    (h:∀ K':Act → World → Prop, Shut (∀ a w, S w → (S w → wpAnyH P md ops Q S fuel (listed.setIfInBounds i true) a w) → K' a w) → if Region.wanted o (yielded ops a.tmps) = true then Oper.wp P o a w K' Q else K' (a.put o.dst undef) w)
    (g:∀ K':Act → World → Prop, Shut (∀ a w, S w → (S w → wpAnyH P md ops Q S fuel (listed.setIfInBounds j true) a w) → K' a w) → if Region.wanted p (yielded ops a.tmps) = true then Oper.wp P p a w K' Q else K' (a.put p.dst undef) w)
    (hr:Region.ready md ops listed = [i, j]:=by kernel_rfl):wpAnyH P md ops Q S (fuel + 1) listed a w:=wpAnyH_ready hr (by simp) (AllReadyH.cons ho h (AllReadyH.cons hp g AllReadyH.nil))
end
abbrev ay:=@Nat.le_refl
abbrev aE:=@Nat.le_trans
abbrev cK:=@Nat.lt_of_lt_of_le
abbrev eS:=@Nat.lt_or_ge
abbrev cX:=@List.drop_eq_getElem_cons
abbrev cV:=@List.drop_eq_nil_of_le
abbrev ct:=@List.eq_nil_of_length_eq_zero
abbrev cj:=@List.take_add_one
abbrev aq:=@if_neg
abbrev js:=@List.ext_getElem?
abbrev aD:=@List.take_of_length_le
abbrev aL:=@Nat.zero_le
abbrev az:=@if_pos
abbrev ar:=@congrArg
abbrev fj:=@Bool.eq_iff_iff
abbrev aO:=@beq_eq_false_iff_ne
abbrev jd:=@UInt8.toNat_inj
abbrev dX:=@beq_iff_eq
abbrev cL:=@Bool.false_eq_true
abbrev fa:=@if_false
abbrev eo:=@if_true
abbrev jt:=@List.all_eq_false
abbrev bQ:=@List.mem_of_getElem?
abbrev aP:=@ByteArray.toList_eq
abbrev kA:=@Bool.or_true
abbrev aK:=@List.length_append
abbrev bz:=@Nat.zero_add
abbrev eD:=@List.drop_drop
abbrev bV:=@Nat.not_lt_zero
abbrev jl:=@List.dropWhile_suffix
abbrev eI:=@List.drop_zero
abbrev dV:=@List.append_nil
abbrev bX:=@Nat.le_succ
abbrev cy:=@Bool.and_eq_true
abbrev cM:=@List.mem_cons_self
abbrev bN:=@List.mem_cons_of_mem
abbrev bC:=@List.mem_cons
abbrev jS:=@Bool.true_and
abbrev ki:=@List.all_append
abbrev gH:=@List.all_eq_true
abbrev ed:=@List.mem_of_mem_take
abbrev km:=@Option.some.inj
abbrev bJ:=@decide_eq_true
abbrev bj:=@decide_eq_false
abbrev gI:=@ByteArray.size_extract
abbrev bd:=@Nat.le_of_ble_eq_true
abbrev dK:=@List.length_eq_zero_iff
abbrev fu:=@List.length_replicate
abbrev kH:=@List.take_take
abbrev dP:=@Nat.min_eq_left
abbrev bI:=@List.map_append
abbrev ir:=@Nat.zero_mul
abbrev iu:=@Nat.succ_mul
abbrev bR:=@Nat.mul_le_mul_right
abbrev bL:=@List.mem_append
abbrev dI:=@Nat.add_mul
abbrev eH:=@List.map_toArray
abbrev cF:=@List.map_cons
abbrev dv:=@List.map_nil
abbrev bZ:=@List.mem_map
abbrev cG:=@List.filter_append
abbrev ai:=@List.length_map
abbrev bW:=@List.length_filter_le
abbrev iv:=@List.map_map
abbrev aJ:=@List.length_take
abbrev bO:=@List.getElem_mem
abbrev bM:=@List.length_drop
abbrev fc:=@List.any_eq_false
abbrev aF:=@wpList_store_row
abbrev gA:=@List.take_set_of_le
abbrev gB:=@List.drop_set_of_lt
abbrev en:=@List.length_set
abbrev ey:=@List.flatten_append
abbrev aX:=@List.size_toArray
abbrev cN:=@List.append_assoc
abbrev jU:=@Bool.false_or
abbrev kI:=@Bool.false_and
abbrev cA:=@List.not_mem_nil
abbrev dY:=@or_false
abbrev jI:=@List.suffix_cons
abbrev gK:=@List.isEmpty_iff
abbrev eb:=@Option.some.injEq
abbrev eP:=@Bool.or_eq_false_iff
abbrev gS:=@ByteArray.data_append
abbrev iU:=@Nat.lt_of_le_of_lt
abbrev bP:=@World.size_alloc
abbrev du:=@decide_eq_true_eq
abbrev jo:=@ByteArray.size_append
abbrev aW:=@bodyPost_ret
abbrev cH:=@List.mem_singleton
abbrev aY:=@wpList_load_mid
abbrev aI:=@wpList_load_row
abbrev b_:=@all_oneCell_toArray
abbrev bw:=@results_cell_row
abbrev a_:=@setRow_heap
abbrev iw:=@wpList_store_mid
abbrev eE:=@List.mem_of_mem_drop
abbrev fS:=@List.take_append_drop
abbrev fR:=@List.mem_flatten
abbrev iW:=@and_true
abbrev fk:=@List.mem_filter
abbrev fM:=@Int.le_refl
abbrev lj:=@Ne.symm
abbrev gQ:=@Bool.false_ne_true
abbrev jb:=@Prod.mk.injEq
abbrev cg:=@World.rangeAt_setCells_apart
abbrev fI:=@yieldsIf_load_mid
abbrev jr:=@List.filterMap_append
abbrev fK:=@List.cons.injEq
