/- Short names. -/
import Derived.Lib.Hide
import Derived.OrdersHeld
import Derived.Deep.RegionHeld
import Derived.WalkSpells
import Derived.KernelRfl
import Derived.IntWalk
import Derived.OwnWalk
namespace Go.Proofs.YtpkkncoddhkfkaaGreatDoor
def py (p:Prop):Prop:=p
theorem py.o {p:Prop} (h:py p):p:=h
theorem O {p:Prop} (h:p):py p:=h
abbrev ai:=ByteArray
abbrev aw:=List UInt8
theorem sA {α:Type _} (l:List α) (i:Nat) (a:α):l.toArray.setIfInBounds i a = (l.set i a).toArray:=List.setIfInBounds_toArray l i a
theorem sB {α:Type _} {x:α} {l:List α} {a:α}:(x :: l).set 0 a = a :: l:=rfl
theorem sC {α:Type _} {x:α} {l:List α} {i:Nat} {a:α}:(x :: l).set (i + 1) a = x :: l.set i a:=rfl
theorem ab {p:Prop} (h:p:=by omega):p:=h
theorem af {p:Prop} (h:p:=by kernel_rfl):p:=h
theorem ae {p:Prop} (h:p:=by decide):p:=h
theorem fN {p:Prop} (h:p:=by decide +kernel):p:=h
theorem bq {p:Prop} (h:p:=by rfl):p:=h
theorem bn {p:Prop} (h:p:=by go_num):p:=h
theorem aK {p:Prop} (h:p:=by simp):p:=h
theorem cw {p:Prop} (h:p:=by simp; omega):p:=h
theorem bN {p:Prop} (h:p:=by simp [Value.oneCell']):p:=h
theorem fS {p:Prop} (h:p:=by unfold maxLen; omega):p:=h
theorem CY {p:Prop} (h:p:=by assumption):p:=h
section
variable {P:Program} {ops:Array Oper} {Q:Exit → Act → World → Prop}
theorem dC {rest:List Oper} {a:Act} {w:World} (d:Nat) {o1 o2 o3 o4 o5} (h:wpList P ops Q (⟨some d, o1, o2, o3, o4, o5⟩ :: rest) a w):wpList P ops Q (⟨some d, o1, o2, o3, o4, o5⟩ :: rest) a w:=h
theorem dm {rest:List Oper} {a:Act} {w:World} (t:TypeId) {x y o2 o3 o4 o5} (h:wpList P ops Q (⟨none, .store t x y, o2, o3, o4, o5⟩ :: rest) a w):wpList P ops Q (⟨none, .store t x y, o2, o3, o4, o5⟩ :: rest) a w:=h
variable {md:Region.Mode} {S:World → Prop} {fuel:Nat} {listed:Array Bool} {a:Act} {w:World}
theorem hG (i d:Nat) {o1 o2 o3 o4 o5} {v:Value} (hi:ops[i]? = some ⟨some d, o1, o2, o3, o4, o5⟩) (hy:YieldsIf P ops S ⟨some d, o1, o2, o3, o4, o5⟩ v a) (h:wpAnyH P md ops Q S fuel (listed.setIfInBounds i true) (a.put (some d) v) w)
    (hs:Region.noSelect ops = true:=by kernel_rfl) (hf:Region.free md ops listed i = true:=by kernel_rfl) (hr:(Region.ready md ops listed).contains i = true:=by kernel_rfl)
    (hQ:∀ c a w, Q (.panic c) (a.put (some d) v) w → Q (.panic c) a w:=by exact fun _ _ _ h => h) (hS:S w:=by assumption):wpAnyH P md ops Q S (fuel + 1) listed a w :=
  wpAnyH_take hi hs hf hr hQ hy hS h
theorem aA (i d:Nat) {o1 o2 o3 o4 o5} {v:Value} (hi:ops[i]? = some ⟨some d, o1, o2, o3, o4, o5⟩) (h:wpAnyH P md ops Q S fuel (listed.setIfInBounds i true) (a.put (some d) v) w)
    (hz:Region.wanted ⟨some d, o1, o2, o3, o4, o5⟩ (yielded ops a.tmps) = true:=by rfl) (hy:∀ w, S w → (execOp a.eval ⟨some d, o1, o2, o3, o4, o5⟩).run P w = .ok (.value v) w:=by intro w hSw; (try dsimp only at hSw); go_simp <;> with_reducible rfl)
    (hs:Region.noSelect ops = true:=by kernel_rfl) (hf:Region.free md ops listed i = true:=by kernel_rfl) (hr:(Region.ready md ops listed).contains i = true:=by kernel_rfl)
    (hQ:∀ c a w, Q (.panic c) (a.put (some d) v) w → Q (.panic c) a w:=by exact fun _ _ _ h => h) (hS:S w:=by assumption):wpAnyH P md ops Q S (fuel + 1) listed a w :=
  wpAnyH_take hi hs hf hr hQ (Or.inl ⟨hz, hy⟩) hS h
theorem Gb (i d:Nat) {o1 o2 o3 o4 o5} (hi:ops[i]? = some ⟨some d, o1, o2, o3, o4, o5⟩) (h:wpAnyH P md ops Q S fuel (listed.setIfInBounds i true) (a.put (some d) undef) w)
    (hz:Region.wanted ⟨some d, o1, o2, o3, o4, o5⟩ (yielded ops a.tmps) = false:=by rfl)
    (hs:Region.noSelect ops = true:=by kernel_rfl) (hf:Region.free md ops listed i = true:=by kernel_rfl) (hr:(Region.ready md ops listed).contains i = true:=by kernel_rfl)
    (hQ:∀ c a w, Q (.panic c) (a.put (some d) undef) w → Q (.panic c) a w:=by exact fun _ _ _ h => h) (hS:S w:=by assumption):wpAnyH P md ops Q S (fuel + 1) listed a w :=
  wpAnyH_take hi hs hf hr hQ (Or.inr ⟨hz, rfl⟩) hS h
theorem dr (i:Nat) {o:Oper} (ho:ops[i]? = some o)
    (h:∀ K':Act → World → Prop, Shut (∀ a w, S w → (S w → wpAnyH P md ops Q S fuel (listed.setIfInBounds i true) a w) → K' a w) → if Region.wanted o (yielded ops a.tmps) = true then Oper.wp P o a w K' Q else K' (a.put o.dst undef) w)
    (hr:Region.ready md ops listed = [i]:=by kernel_rfl):wpAnyH P md ops Q S (fuel + 1) listed a w:=wpAnyH_ready hr (by simp) (AllReadyH.cons ho h AllReadyH.nil)
theorem CZ (i j:Nat) {o p:Oper} (ho:ops[i]? = some o) (hp:ops[j]? = some p)
    (h:∀ K':Act → World → Prop, Shut (∀ a w, S w → (S w → wpAnyH P md ops Q S fuel (listed.setIfInBounds i true) a w) → K' a w) → if Region.wanted o (yielded ops a.tmps) = true then Oper.wp P o a w K' Q else K' (a.put o.dst undef) w)
    (g:∀ K':Act → World → Prop, Shut (∀ a w, S w → (S w → wpAnyH P md ops Q S fuel (listed.setIfInBounds j true) a w) → K' a w) → if Region.wanted p (yielded ops a.tmps) = true then Oper.wp P p a w K' Q else K' (a.put p.dst undef) w)
    (hr:Region.ready md ops listed = [i, j]:=by kernel_rfl):wpAnyH P md ops Q S (fuel + 1) listed a w:=wpAnyH_ready hr (by simp) (AllReadyH.cons ho h (AllReadyH.cons hp g AllReadyH.nil))
end
abbrev ar:=@Nat.le_refl
abbrev au:=@Nat.le_trans
abbrev bf:=@Nat.lt_of_lt_of_le
abbrev ay:=@congrArg
abbrev aO:=@List.eq_nil_of_length_eq_zero
abbrev cC:=@List.take_add_one
abbrev aR:=@List.mem_of_getElem?
abbrev az:=@Nat.zero_le
abbrev bj:=@List.take_of_length_le
abbrev aq:=@if_pos
abbrev aj:=@if_neg
abbrev aS:=@List.length_append
abbrev aY:=@Bool.and_eq_true
abbrev cq:=@List.mem_cons_self
abbrev br:=@List.mem_cons_of_mem
abbrev bD:=@if_true
abbrev cM:=@List.all_eq_true
abbrev aD:=@List.mem_cons
abbrev bM:=@List.length_cons
abbrev aE:=@List.mem_append
abbrev bX:=@List.length_drop
abbrev bz:=@List.nil_append
abbrev bH:=@List.append_nil
abbrev bp:=@List.map_cons
abbrev bb:=@List.size_toArray
abbrev cN:=@List.cons_append
abbrev cD:=@List.append_assoc
abbrev cA:=@List.singleton_append
abbrev aG:=@List.mem_singleton
abbrev aN:=@decide_eq_false
abbrev aM:=@decide_eq_true
abbrev ag:=@List.length_map
abbrev aZ:=@List.not_mem_nil
abbrev ct:=@or_false
abbrev bE:=@List.length_take
abbrev bI:=@List.map_append
abbrev bZ:=@List.getElem_mem
abbrev cE:=@decide_eq_true_eq
abbrev bB:=@List.mem_filter
abbrev bU:=@List.mem_of_mem_drop
abbrev bR:=@List.length_singleton
abbrev bc:=@List.length_filter_le
abbrev bV:=@Int.le_refl
abbrev bw:=@Option.some.injEq
abbrev cu:=@Prod.mk.injEq
abbrev bm:=@Nat.not_lt_zero
abbrev bF:=@List.map_toArray
abbrev bQ:=@List.map_nil
abbrev cB:=@List.filterMap_append
