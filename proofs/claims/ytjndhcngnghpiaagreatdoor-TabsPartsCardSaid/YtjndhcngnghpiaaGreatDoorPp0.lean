/- Short names. -/
import Derived.Lib.Hide
import Derived.Test.YtjndhcngnghpiaaGreatDoorProg
import Derived.OrdersHeld
import Derived.Deep.RegionHeld
import Derived.WalkSpells
import Derived.KernelRfl
import Derived.IntWalk
import Derived.OwnWalk
import Derived.Laws.Tables
import Derived.Laws.Rows
import Derived.Laws.Strings
import Derived.Deep.MidRow
import Derived.Laws.World
import Derived.Laws.ResultCell
namespace Go.Proofs.YtjndhcngnghpiaaGreatDoor
open Go.RowKit
def Nf (p:Prop):Prop:=p
theorem Nf.o {p:Prop} (h:Nf p):p:=h
theorem O {p:Prop} (h:p):Nf p:=h
abbrev ai:=ByteArray
abbrev aK:=List UInt8
abbrev a_:=List Value
abbrev cX:=List (List Value)
abbrev bW:=Array Value
abbrev fi:=Option Addr
abbrev dB:=Nat → Prop
abbrev aE:=Calls Go.Proofs.Tryz.prog
theorem sA {α:Type _} (l:List α) (i:Nat) (a:α):l.toArray.setIfInBounds i a = (l.set i a).toArray:=List.setIfInBounds_toArray l i a
theorem sB {α:Type _} {x:α} {l:List α} {a:α}:(x :: l).set 0 a = a :: l:=rfl
theorem sC {α:Type _} {x:α} {l:List α} {i:Nat} {a:α}:(x :: l).set (i + 1) a = x :: l.set i a:=rfl
theorem ab {p:Prop} (h:p:=by omega):p:=h
theorem af {p:Prop} (h:p:=by kernel_rfl):p:=h
theorem ag {p:Prop} (h:p:=by decide):p:=h
theorem cZ {p:Prop} (h:p:=by decide +kernel):p:=h
theorem bB {p:Prop} (h:p:=by rfl):p:=h
theorem bh {p:Prop} (h:p:=by go_num):p:=h
theorem aS {p:Prop} (h:p:=by simp):p:=h
theorem bH {p:Prop} (h:p:=by simp; omega):p:=h
theorem bS {p:Prop} (h:p:=by simp [Value.oneCell']):p:=h
theorem ft {p:Prop} (h:p:=by unfold maxLen; omega):p:=h
theorem jR {p:Prop} (h:p:=by assumption):p:=h
section
variable {P:Program} {ops:Array Oper} {Q:Exit → Act → World → Prop}
theorem dt {rest:List Oper} {a:Act} {w:World} (d:Nat) {o1 o2 o3 o4 o5} (h:wpList P ops Q (⟨some d, o1, o2, o3, o4, o5⟩ :: rest) a w):wpList P ops Q (⟨some d, o1, o2, o3, o4, o5⟩ :: rest) a w:=h
theorem cU {rest:List Oper} {a:Act} {w:World} (t:TypeId) {x y o2 o3 o4 o5} (h:wpList P ops Q (⟨none, .store t x y, o2, o3, o4, o5⟩ :: rest) a w):wpList P ops Q (⟨none, .store t x y, o2, o3, o4, o5⟩ :: rest) a w:=h
variable {md:Region.Mode} {S:World → Prop} {fuel:Nat} {listed:Array Bool} {a:Act} {w:World}
theorem sR (i d:Nat) {o1 o2 o3 o4 o5} {v:Value} (hi:ops[i]? = some ⟨some d, o1, o2, o3, o4, o5⟩) (hy:YieldsIf P ops S ⟨some d, o1, o2, o3, o4, o5⟩ v a) (h:wpAnyH P md ops Q S fuel (listed.setIfInBounds i true) (a.put (some d) v) w)
    (hs:Region.noSelect ops = true:=by kernel_rfl) (hf:Region.free md ops listed i = true:=by kernel_rfl) (hr:(Region.ready md ops listed).contains i = true:=by kernel_rfl)
    (hQ:∀ c a w, Q (.panic c) (a.put (some d) v) w → Q (.panic c) a w:=by exact fun _ _ _ h => h) (hS:S w:=by assumption):wpAnyH P md ops Q S (fuel + 1) listed a w :=
  wpAnyH_take hi hs hf hr hQ hy hS h
theorem akk (i d:Nat) {o1 o2 o3 o4 o5} {v:Value} (hi:ops[i]? = some ⟨some d, o1, o2, o3, o4, o5⟩) (h:wpAnyH P md ops Q S fuel (listed.setIfInBounds i true) (a.put (some d) v) w)
    (hz:Region.wanted ⟨some d, o1, o2, o3, o4, o5⟩ (yielded ops a.tmps) = true:=by rfl) (hy:∀ w, S w → (execOp a.eval ⟨some d, o1, o2, o3, o4, o5⟩).run P w = .ok (.value v) w:=by intro w hSw; (try dsimp only at hSw); go_simp <;> with_reducible rfl)
    (hs:Region.noSelect ops = true:=by kernel_rfl) (hf:Region.free md ops listed i = true:=by kernel_rfl) (hr:(Region.ready md ops listed).contains i = true:=by kernel_rfl)
    (hQ:∀ c a w, Q (.panic c) (a.put (some d) v) w → Q (.panic c) a w:=by exact fun _ _ _ h => h) (hS:S w:=by assumption):wpAnyH P md ops Q S (fuel + 1) listed a w :=
  wpAnyH_take hi hs hf hr hQ (Or.inl ⟨hz, hy⟩) hS h
theorem aP (i d:Nat) {o1 o2 o3 o4 o5} {v:Value} {l':Array Bool} {a':Act} (hi:ops[i]? = some ⟨some d, o1, o2, o3, o4, o5⟩) (h:wpAnyH P md ops Q S fuel l' a' w)
    (hz:Region.wanted ⟨some d, o1, o2, o3, o4, o5⟩ (yielded ops a.tmps) = true:=by rfl) (hy:∀ w, S w → (execOp a.eval ⟨some d, o1, o2, o3, o4, o5⟩).run P w = .ok (.value v) w:=by intro w hSw; (try dsimp only at hSw); go_simp <;> with_reducible rfl)
    (hl:listed.setIfInBounds i true = l':=by first | (simp only [sA, sB, sC]; rfl) | simp only [sA, sB, sC] | rfl) (ha:a.put (some d) v = a':=by first | (simp only [Act.put, sA, sB, sC]; rfl) | simp only [Act.put, sA, sB, sC] | rfl)
    (hs:Region.noSelect ops = true:=by kernel_rfl) (hf:Region.free md ops listed i = true:=by kernel_rfl) (hr:(Region.ready md ops listed).contains i = true:=by kernel_rfl)
    (hQ:∀ c a w, Q (.panic c) (a.put (some d) v) w → Q (.panic c) a w:=by exact fun _ _ _ h => h) (hS:S w:=by assumption):wpAnyH P md ops Q S (fuel + 1) listed a w :=
  wpAnyH_take hi hs hf hr hQ (Or.inl ⟨hz, hy⟩) hS (by subst hl ha; exact h)
theorem Al (i d:Nat) {o1 o2 o3 o4 o5} (hi:ops[i]? = some ⟨some d, o1, o2, o3, o4, o5⟩) (h:wpAnyH P md ops Q S fuel (listed.setIfInBounds i true) (a.put (some d) undef) w)
    (hz:Region.wanted ⟨some d, o1, o2, o3, o4, o5⟩ (yielded ops a.tmps) = false:=by rfl)
    (hs:Region.noSelect ops = true:=by kernel_rfl) (hf:Region.free md ops listed i = true:=by kernel_rfl) (hr:(Region.ready md ops listed).contains i = true:=by kernel_rfl)
    (hQ:∀ c a w, Q (.panic c) (a.put (some d) undef) w → Q (.panic c) a w:=by exact fun _ _ _ h => h) (hS:S w:=by assumption):wpAnyH P md ops Q S (fuel + 1) listed a w :=
  wpAnyH_take hi hs hf hr hQ (Or.inr ⟨hz, rfl⟩) hS h
theorem eE (i:Nat) {o:Oper} (ho:ops[i]? = some o)
    (h:∀ K':Act → World → Prop, Shut (∀ a w, S w → (S w → wpAnyH P md ops Q S fuel (listed.setIfInBounds i true) a w) → K' a w) → if Region.wanted o (yielded ops a.tmps) = true then Oper.wp P o a w K' Q else K' (a.put o.dst undef) w)
    (hr:Region.ready md ops listed = [i]:=by kernel_rfl):wpAnyH P md ops Q S (fuel + 1) listed a w:=wpAnyH_ready hr (by simp) (AllReadyH.cons ho h AllReadyH.nil)
theorem Dl (i j:Nat) {o p:Oper} (ho:ops[i]? = some o) (hp:ops[j]? = some p)
    (h:∀ K':Act → World → Prop, Shut (∀ a w, S w → (S w → wpAnyH P md ops Q S fuel (listed.setIfInBounds i true) a w) → K' a w) → if Region.wanted o (yielded ops a.tmps) = true then Oper.wp P o a w K' Q else K' (a.put o.dst undef) w)
    (g:∀ K':Act → World → Prop, Shut (∀ a w, S w → (S w → wpAnyH P md ops Q S fuel (listed.setIfInBounds j true) a w) → K' a w) → if Region.wanted p (yielded ops a.tmps) = true then Oper.wp P p a w K' Q else K' (a.put p.dst undef) w)
    (hr:Region.ready md ops listed = [i, j]:=by kernel_rfl):wpAnyH P md ops Q S (fuel + 1) listed a w:=wpAnyH_ready hr (by simp) (AllReadyH.cons ho h (AllReadyH.cons hp g AllReadyH.nil))
end
abbrev az:=@Nat.le_refl
abbrev aH:=@Nat.le_trans
abbrev cN:=@Nat.lt_of_lt_of_le
abbrev fD:=@Nat.lt_or_ge
abbrev cP:=@List.drop_eq_getElem_cons
abbrev cO:=@List.drop_eq_nil_of_le
abbrev b_:=@List.eq_nil_of_length_eq_zero
abbrev cD:=@List.take_add_one
abbrev ay:=@if_neg
abbrev iW:=@List.ext_getElem?
abbrev aG:=@List.take_of_length_le
abbrev aW:=@Nat.zero_le
abbrev aB:=@if_pos
abbrev ar:=@congrArg
abbrev eW:=@Bool.eq_iff_iff
abbrev aL:=@beq_eq_false_iff_ne
abbrev iE:=@UInt8.toNat_inj
abbrev dP:=@beq_iff_eq
abbrev cJ:=@Bool.false_eq_true
abbrev eT:=@if_false
abbrev d_:=@if_true
abbrev iX:=@List.all_eq_false
abbrev cL:=@List.mem_of_getElem?
abbrev aN:=@ByteArray.toList_eq
abbrev kd:=@Bool.or_true
abbrev aM:=@List.length_append
abbrev bw:=@Nat.zero_add
abbrev ey:=@List.drop_drop
abbrev ct:=@Nat.not_lt_zero
abbrev iM:=@List.dropWhile_suffix
abbrev eF:=@List.drop_zero
abbrev eX:=@List.append_nil
abbrev bT:=@Nat.le_succ
abbrev cF:=@Bool.and_eq_true
abbrev cY:=@List.mem_cons_self
abbrev bV:=@List.mem_cons_of_mem
abbrev bE:=@List.mem_cons
abbrev jO:=@List.all_append
abbrev fY:=@List.all_eq_true
abbrev eL:=@List.mem_of_mem_take
abbrev jQ:=@Option.some.inj
abbrev bD:=@decide_eq_true
abbrev bf:=@decide_eq_false
abbrev fZ:=@ByteArray.size_extract
abbrev aZ:=@Nat.le_of_ble_eq_true
abbrev dG:=@List.length_eq_zero_iff
abbrev fb:=@List.length_replicate
abbrev kj:=@List.take_take
abbrev dJ:=@Nat.min_eq_left
abbrev bI:=@List.map_append
abbrev gX:=@Nat.zero_mul
abbrev gY:=@Nat.succ_mul
abbrev bN:=@Nat.mul_le_mul_right
abbrev bO:=@List.mem_append
abbrev dD:=@Nat.add_mul
abbrev eM:=@List.map_toArray
abbrev cA:=@List.map_cons
abbrev du:=@List.map_nil
abbrev cz:=@List.mem_map
abbrev cC:=@List.filter_append
abbrev aj:=@List.length_map
abbrev bR:=@List.length_filter_le
abbrev gZ:=@List.map_map
abbrev aQ:=@List.length_take
abbrev bQ:=@List.getElem_mem
abbrev bJ:=@List.length_drop
abbrev fA:=@List.any_eq_false
abbrev aI:=@wpList_store_row
abbrev fU:=@List.take_set_of_le
abbrev fV:=@List.drop_set_of_lt
abbrev dZ:=@List.length_set
abbrev eh:=@List.flatten_append
abbrev bd:=@List.size_toArray
abbrev cK:=@List.append_assoc
abbrev jC:=@Bool.false_or
abbrev kl:=@Bool.false_and
abbrev bU:=@List.not_mem_nil
abbrev dL:=@or_false
abbrev jo:=@List.suffix_cons
abbrev gj:=@List.isEmpty_iff
abbrev dW:=@Option.some.injEq
abbrev eA:=@Bool.or_eq_false_iff
abbrev gF:=@ByteArray.data_append
abbrev gA:=@Nat.lt_of_le_of_lt
abbrev bK:=@World.size_alloc
abbrev dM:=@decide_eq_true_eq
abbrev iT:=@ByteArray.size_append
abbrev aR:=@bodyPost_ret
abbrev dh:=@List.mem_singleton
abbrev bu:=@wpList_load_mid
abbrev aJ:=@wpList_load_row
abbrev cE:=@all_oneCell_toArray
abbrev bj:=@results_cell_row
abbrev aY:=@setRow_heap
abbrev ju:=@wpList_store_mid
abbrev eB:=@List.mem_of_mem_drop
abbrev fH:=@List.take_append_drop
abbrev fG:=@List.mem_flatten
abbrev jf:=@and_true
abbrev eY:=@List.mem_filter
abbrev gq:=@Int.le_refl
abbrev kE:=@Ne.symm
abbrev gC:=@Bool.false_ne_true
abbrev iB:=@Prod.mk.injEq
abbrev bX:=@World.rangeAt_setCells_apart
abbrev fB:=@yieldsIf_load_mid
abbrev iU:=@List.filterMap_append
abbrev gK:=@List.cons.injEq
