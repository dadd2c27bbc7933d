/- Short names. -/
import Derived.Lib.Hide
import Derived.OrdersHeld
namespace Go.Proofs.YtjdmjbdkdmbaiaaGreatDoor
theorem O {p:Prop} (h:p):Go.RowKit.Hid p:=Go.Lib.hid h
theorem sA {α:Type _} (l:List α) (i:Nat) (a:α):l.toArray.setIfInBounds i a = (l.set i a).toArray:=List.setIfInBounds_toArray l i a
theorem sB {α:Type _} {x:α} {l:List α} {a:α}:(x :: l).set 0 a = a :: l:=rfl
theorem sC {α:Type _} {x:α} {l:List α} {i:Nat} {a:α}:(x :: l).set (i + 1) a = x :: l.set i a:=rfl
theorem tk {P:Program} {ops:Array Oper} {Q:Exit → Act → World → Prop} {md:Region.Mode} {S:World → Prop} (i:Nat) (oi:Oper) {v:Value} {fuel:Nat} {listed:Array Bool} {a:Act} {w:World} (hi:ops[i]? = some oi)
    (hz:Region.wanted oi (yielded ops a.tmps) = true) (hy:∀ w, S w → (execOp a.eval oi).run P w = .ok (.value v) w) (h:wpAnyH P md ops Q S fuel (listed.setIfInBounds i true) (a.put oi.dst v) w)
    (hs:Region.noSelect ops = true:=by kernel_rfl) (hf:Region.free md ops listed i = true:=by kernel_rfl) (hr:(Region.ready md ops listed).contains i = true:=by kernel_rfl)
    (hQ:∀ c a w, Q (.panic c) (a.put oi.dst v) w → Q (.panic c) a w:=by exact fun _ _ _ h => h) (hS:S w:=by assumption):wpAnyH P md ops Q S (fuel + 1) listed a w :=
  wpAnyH_take hi hs hf hr hQ (Or.inl ⟨hz, hy⟩) hS h
end Go.Proofs.YtjdmjbdkdmbaiaaGreatDoor
