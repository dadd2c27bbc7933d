/- Short names. -/
import Derived.Lib.Hide
import Derived.Test.YtnckmcnffadjoaaGreatDoorProg
import Derived.OrdersHeld
import Derived.Deep.RegionHeld
import Derived.WalkSpells
import Derived.KernelRfl
import Derived.IntWalk
import Derived.OwnWalk
import Derived.Laws.Tables
import Derived.Laws.Rows
import Derived.Laws.Strings
import Derived.Deep.MidRow
import Derived.Laws.World
import Derived.Laws.ResultCell
namespace Go.Proofs.YtnckmcnffadjoaaGreatDoor
open Go.RowKit
def O' (p:Prop):Prop:=p
theorem O'.o {p:Prop} (h:O' p):p:=h
theorem O {p:Prop} (h:p):O' p:=h
abbrev aj:=ByteArray
abbrev aI:=List UInt8
abbrev aX:=List Value
abbrev cZ:=List (List Value)
abbrev bS:=Array Value
abbrev eV:=Option Addr
abbrev dC:=Nat → Prop
abbrev aB:=Calls Go.Proofs.Tryz.prog
theorem sA {α:Type _} (l:List α) (i:Nat) (a:α):l.toArray.setIfInBounds i a = (l.set i a).toArray:=List.setIfInBounds_toArray l i a
theorem sB {α:Type _} {x:α} {l:List α} {a:α}:(x :: l).set 0 a = a :: l:=rfl
theorem sC {α:Type _} {x:α} {l:List α} {i:Nat} {a:α}:(x :: l).set (i + 1) a = x :: l.set i a:=rfl
theorem ab {p:Prop} (h:p:=by omega):p:=h
theorem af {p:Prop} (h:p:=by kernel_rfl):p:=h
theorem ag {p:Prop} (h:p:=by decide):p:=h
theorem du {p:Prop} (h:p:=by decide +kernel):p:=h
theorem bC {p:Prop} (h:p:=by rfl):p:=h
theorem bg {p:Prop} (h:p:=by go_num):p:=h
theorem aR {p:Prop} (h:p:=by simp):p:=h
theorem bI {p:Prop} (h:p:=by simp; omega):p:=h
theorem bW {p:Prop} (h:p:=by simp [Value.oneCell']):p:=h
theorem fx {p:Prop} (h:p:=by unfold maxLen; omega):p:=h
theorem j9 {p:Prop} (h:p:=by assumption):p:=h
section
variable {P:Program} {ops:Array Oper} {Q:Exit → Act → World → Prop}
theorem di {rest:List Oper} {a:Act} {w:World} (d:Nat) {o1 o2 o3 o4 o5} (h:wpList P ops Q (⟨some d, o1, o2, o3, o4, o5⟩ :: rest) a w):wpList P ops Q (⟨some d, o1, o2, o3, o4, o5⟩ :: rest) a w:=h
theorem cW {rest:List Oper} {a:Act} {w:World} (t:TypeId) {x y o2 o3 o4 o5} (h:wpList P ops Q (⟨none, .store t x y, o2, o3, o4, o5⟩ :: rest) a w):wpList P ops Q (⟨none, .store t x y, o2, o3, o4, o5⟩ :: rest) a w:=h
variable {md:Region.Mode} {S:World → Prop} {fuel:Nat} {listed:Array Bool} {a:Act} {w:World}
theorem wF (i d:Nat) {o1 o2 o3 o4 o5} {v:Value} (hi:ops[i]? = some ⟨some d, o1, o2, o3, o4, o5⟩) (hy:YieldsIf P ops S ⟨some d, o1, o2, o3, o4, o5⟩ v a) (h:wpAnyH P md ops Q S fuel (listed.setIfInBounds i true) (a.put (some d) v) w)
    (hs:Region.noSelect ops = true:=by kernel_rfl) (hf:Region.free md ops listed i = true:=by kernel_rfl) (hr:(Region.ready md ops listed).contains i = true:=by kernel_rfl)
    (hQ:∀ c a w, Q (.panic c) (a.put (some d) v) w → Q (.panic c) a w:=by exact fun _ _ _ h => h) (hS:S w:=by assumption):wpAnyH P md ops Q S (fuel + 1) listed a w :=
  wpAnyH_take hi hs hf hr hQ hy hS h
theorem amY (i d:Nat) {o1 o2 o3 o4 o5} {v:Value} (hi:ops[i]? = some ⟨some d, o1, o2, o3, o4, o5⟩) (h:wpAnyH P md ops Q S fuel (listed.setIfInBounds i true) (a.put (some d) v) w)
    (hz:Region.wanted ⟨some d, o1, o2, o3, o4, o5⟩ (yielded ops a.tmps) = true:=by rfl) (hy:∀ w, S w → (execOp a.eval ⟨some d, o1, o2, o3, o4, o5⟩).run P w = .ok (.value v) w:=by intro w hSw; (try dsimp only at hSw); go_simp <;> with_reducible rfl)
    (hs:Region.noSelect ops = true:=by kernel_rfl) (hf:Region.free md ops listed i = true:=by kernel_rfl) (hr:(Region.ready md ops listed).contains i = true:=by kernel_rfl)
    (hQ:∀ c a w, Q (.panic c) (a.put (some d) v) w → Q (.panic c) a w:=by exact fun _ _ _ h => h) (hS:S w:=by assumption):wpAnyH P md ops Q S (fuel + 1) listed a w :=
  wpAnyH_take hi hs hf hr hQ (Or.inl ⟨hz, hy⟩) hS h
theorem aW (i d:Nat) {o1 o2 o3 o4 o5} {v:Value} {l':Array Bool} {a':Act} (hi:ops[i]? = some ⟨some d, o1, o2, o3, o4, o5⟩) (h:wpAnyH P md ops Q S fuel l' a' w)
    (hz:Region.wanted ⟨some d, o1, o2, o3, o4, o5⟩ (yielded ops a.tmps) = true:=by rfl) (hy:∀ w, S w → (execOp a.eval ⟨some d, o1, o2, o3, o4, o5⟩).run P w = .ok (.value v) w:=by intro w hSw; (try dsimp only at hSw); go_simp <;> with_reducible rfl)
    (hl:listed.setIfInBounds i true = l':=by first | (simp only [sA, sB, sC]; rfl) | simp only [sA, sB, sC] | rfl) (ha:a.put (some d) v = a':=by first | (simp only [Act.put, sA, sB, sC]; rfl) | simp only [Act.put, sA, sB, sC] | rfl)
    (hs:Region.noSelect ops = true:=by kernel_rfl) (hf:Region.free md ops listed i = true:=by kernel_rfl) (hr:(Region.ready md ops listed).contains i = true:=by kernel_rfl)
    (hQ:∀ c a w, Q (.panic c) (a.put (some d) v) w → Q (.panic c) a w:=by exact fun _ _ _ h => h) (hS:S w:=by assumption):wpAnyH P md ops Q S (fuel + 1) listed a w :=
  wpAnyH_take hi hs hf hr hQ (Or.inl ⟨hz, hy⟩) hS (by subst hl ha; exact h)
theorem Bp (i d:Nat) {o1 o2 o3 o4 o5} (hi:ops[i]? = some ⟨some d, o1, o2, o3, o4, o5⟩) (h:wpAnyH P md ops Q S fuel (listed.setIfInBounds i true) (a.put (some d) undef) w)
    (hz:Region.wanted ⟨some d, o1, o2, o3, o4, o5⟩ (yielded ops a.tmps) = false:=by rfl)
    (hs:Region.noSelect ops = true:=by kernel_rfl) (hf:Region.free md ops listed i = true:=by kernel_rfl) (hr:(Region.ready md ops listed).contains i = true:=by kernel_rfl)
    (hQ:∀ c a w, Q (.panic c) (a.put (some d) undef) w → Q (.panic c) a w:=by exact fun _ _ _ h => h) (hS:S w:=by assumption):wpAnyH P md ops Q S (fuel + 1) listed a w :=
  wpAnyH_take hi hs hf hr hQ (Or.inr ⟨hz, rfl⟩) hS h
theorem eT (i:Nat) {o:Oper} (ho:ops[i]? = some o)
    (h:∀ K':Act → World → Prop, Shut (∀ a w, S w → (S w → wpAnyH P md ops Q S fuel (listed.setIfInBounds i true) a w) → K' a w) → if Region.wanted o (yielded ops a.tmps) = true then Oper.wp P o a w K' Q else K' (a.put o.dst undef) w)
    (hr:Region.ready md ops listed = [i]:=by kernel_rfl):wpAnyH P md ops Q S (fuel + 1) listed a w:=wpAnyH_ready hr (by simp) (AllReadyH.cons ho h AllReadyH.nil)
theorem Ej (i j:Nat) {o p:Oper} (ho:ops[i]? = some o) (hp:ops[j]? = some p)
    (h:∀ K':Act → World → Prop, Shut (∀ a w, S w → (S w → wpAnyH P md ops Q S fuel (listed.setIfInBounds i true) a w) → K' a w) → if Region.wanted o (yielded ops a.tmps) = true then Oper.wp P o a w K' Q else K' (a.put o.dst undef) w)
    (g:∀ K':Act → World → Prop, Shut (∀ a w, S w → (S w → wpAnyH P md ops Q S fuel (listed.setIfInBounds j true) a w) → K' a w) → if Region.wanted p (yielded ops a.tmps) = true then Oper.wp P p a w K' Q else K' (a.put p.dst undef) w)
    (hr:Region.ready md ops listed = [i, j]:=by kernel_rfl):wpAnyH P md ops Q S (fuel + 1) listed a w:=wpAnyH_ready hr (by simp) (AllReadyH.cons ho h (AllReadyH.cons hp g AllReadyH.nil))
end
abbrev ay:=@Nat.le_refl
abbrev aG:=@Nat.le_trans
abbrev cP:=@Nat.lt_of_lt_of_le
abbrev fH:=@Nat.lt_or_ge
abbrev cU:=@List.drop_eq_getElem_cons
abbrev cQ:=@List.drop_eq_nil_of_le
abbrev cj:=@List.eq_nil_of_length_eq_zero
abbrev cC:=@List.take_add_one
abbrev aq:=@if_neg
abbrev jg:=@List.ext_getElem?
abbrev aD:=@List.take_of_length_le
abbrev aQ:=@Nat.zero_le
abbrev az:=@if_pos
abbrev ar:=@congrArg
abbrev fc:=@Bool.eq_iff_iff
abbrev aL:=@beq_eq_false_iff_ne
abbrev iW:=@UInt8.toNat_inj
abbrev dW:=@beq_iff_eq
abbrev cJ:=@Bool.false_eq_true
abbrev eW:=@if_false
abbrev ef:=@if_true
abbrev jh:=@List.all_eq_false
abbrev cq:=@List.mem_of_getElem?
abbrev aO:=@ByteArray.toList_eq
abbrev kq:=@Bool.or_true
abbrev aN:=@List.length_append
abbrev bw:=@Nat.zero_add
abbrev eB:=@List.drop_drop
abbrev ct:=@Nat.not_lt_zero
abbrev jb:=@List.dropWhile_suffix
abbrev eG:=@List.drop_zero
abbrev dV:=@List.append_nil
abbrev bV:=@Nat.le_succ
abbrev cF:=@Bool.and_eq_true
abbrev cY:=@List.mem_cons_self
abbrev bQ:=@List.mem_cons_of_mem
abbrev bB:=@List.mem_cons
abbrev j5:=@List.all_append
abbrev gB:=@List.all_eq_true
abbrev eC:=@List.mem_of_mem_take
abbrev j8:=@Option.some.inj
abbrev bM:=@decide_eq_true
abbrev bD:=@decide_eq_false
abbrev gC:=@ByteArray.size_extract
abbrev bd:=@Nat.le_of_ble_eq_true
abbrev dH:=@List.length_eq_zero_iff
abbrev fj:=@List.length_replicate
abbrev kz:=@List.take_take
abbrev dP:=@Nat.min_eq_left
abbrev bG:=@List.map_append
abbrev il:=@Nat.zero_mul
abbrev im:=@Nat.succ_mul
abbrev bP:=@Nat.mul_le_mul_right
abbrev bR:=@List.mem_append
abbrev dF:=@Nat.add_mul
abbrev eF:=@List.map_toArray
abbrev cE:=@List.map_cons
abbrev dt:=@List.map_nil
abbrev b_:=@List.mem_map
abbrev cG:=@List.filter_append
abbrev ai:=@List.length_map
abbrev bU:=@List.length_filter_le
abbrev iq:=@List.map_map
abbrev aM:=@List.length_take
abbrev bN:=@List.getElem_mem
abbrev bK:=@List.length_drop
abbrev eY:=@List.any_eq_false
abbrev aF:=@wpList_store_row
abbrev gl:=@List.take_set_of_le
abbrev gq:=@List.drop_set_of_lt
abbrev ed:=@List.length_set
abbrev en:=@List.flatten_append
abbrev aZ:=@List.size_toArray
abbrev cK:=@List.append_assoc
abbrev jM:=@Bool.false_or
abbrev kA:=@Bool.false_and
abbrev cz:=@List.not_mem_nil
abbrev dX:=@or_false
abbrev jB:=@List.suffix_cons
abbrev gF:=@List.isEmpty_iff
abbrev ez:=@Option.some.injEq
abbrev eM:=@Bool.or_eq_false_iff
abbrev gO:=@ByteArray.data_append
abbrev iL:=@Nat.lt_of_le_of_lt
abbrev bO:=@World.size_alloc
abbrev dG:=@decide_eq_true_eq
abbrev je:=@ByteArray.size_append
abbrev aU:=@bodyPost_ret
abbrev df:=@List.mem_singleton
abbrev a_:=@wpList_load_mid
abbrev aH:=@wpList_load_row
abbrev bX:=@all_oneCell_toArray
abbrev bu:=@results_cell_row
abbrev aY:=@setRow_heap
abbrev iu:=@wpList_store_mid
abbrev eD:=@List.mem_of_mem_drop
abbrev fO:=@List.take_append_drop
abbrev fL:=@List.mem_flatten
abbrev iM:=@and_true
abbrev fe:=@List.mem_filter
abbrev hZ:=@Int.le_refl
abbrev kZ:=@Ne.symm
abbrev gM:=@Bool.false_ne_true
abbrev iT:=@Prod.mk.injEq
abbrev bZ:=@World.rangeAt_setCells_apart
abbrev gW:=@yieldsIf_load_mid
abbrev jf:=@List.filterMap_append
abbrev fF:=@List.cons.injEq
