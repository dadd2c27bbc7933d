/- The law BankCounts: its closures. -/
import Derived.Test.YtkoobhgedoanhaaDoorCountLaw
import Derived.Test.YtkoobhgedoanhaaDoorOpenG
import Derived.Test.YtkoobhgedoanhaaDoorCloneGr
namespace Go.Proofs.YtkoobhgedoanhaaDoor
open Go.RowKit

def cntC (x : List Value) : Bool := decide (cI x 14 < 0) || decide (1000 < cI x 14)
def cntG (g : GrantOf Texts) : Bool := decide (g.count < 0) || decide (1000 < g.count)
set_option maxHeartbeats 1000000 in
set_option maxRecDepth 100000 in
theorem Counts1_any (g : GrantOf Value) (w : World) :
    Calls Tryd.prog 11 #[.agg g.cells.toArray] w fun e w' => e = .returned (.bool (cntC g.cells)) ∧ Fr noB w w' := by
  have hC := Lib.hid (show cntC g.cells = (decide (g.count < 0) || decide (1000 < g.count)) from rfl)
  rw [hC.out]
  unfold GrantOf.cells
  have hfa : Fr noB w _ := (Fr.refl noB w).alloc (.cells #[.bool g.o.secure, .string g.o.host, .int .i64 g.o.port, .bool g.proxy, .string g.user, .string g.pass, .int .i64 g.a.scheme, .string g.a.realm, .string g.a.nonce, .string g.a.opaq, .bool g.a.sess, .string g.a.qop, .bool g.a.stale, g.a.dom, .int .i64 g.count, g.paths] 34)
  clear hC
  by_cases h0 : g.count < 0
  · have e0 : (decide (g.count < 0) || decide (1000 < g.count)) = true := by simp [h0]
    rw [e0]
    have d0 : decide (g.count < 0) = true := decide_eq_true h0
    go_enter Tryd.func11, Tryd.ntmps11
    go_wp2
    go_ret
    exact ⟨rfl, hfa⟩
  · have d0 : decide (g.count < 0) = false := decide_eq_false h0
    rw [d0, Bool.false_or]
    go_enter Tryd.func11, Tryd.ntmps11
    go_wp2
    go_ret
    exact ⟨rfl, hfa⟩
theorem Counts1_answers (w : World) (rs : List (GrantOf Value)) : AnswersK noB w 11 #[] cntC (rs.map GrantOf.cells) := by
  intro x hx u _
  obtain ⟨r, _, rfl⟩ := List.mem_map.1 hx
  simpa using Counts1_any r u
theorem cntC_any {R : Value → List ByteArray → Prop} {rs : List (GrantOf Value)} {gs : List (GrantOf Texts)} (h : Both (GrantOf.Reads R) rs gs) : (rs.map GrantOf.cells).any cntC = gs.any cntG :=
  h.anyEq (fun r g hr => by
    show (decide (r.count < 0) || decide (1000 < r.count)) = _
    rw [hr.2.2.2.2.2.1]; rfl)
set_option maxHeartbeats 2000000 in
set_option maxRecDepth 100000 in
theorem Counts2_any (g q : GrantOf Value) (bw : Nat) (w : World) (hb : w.heap[bw]? = some (.cells q.cells.toArray 34 (0, 0))) :
    Calls Tryd.prog 22 #[.agg g.cells.toArray, .pointer (some ⟨bw, 0, none⟩)] w fun e w' => e = .returned (.bool (sameC q.o q.proxy q.a.realm g.cells)) ∧ Fr noB w w' := by
  have hC := Lib.hid (show sameC q.o q.proxy q.a.realm g.cells = (g.o.eqB q.o && (g.proxy == q.proxy && g.a.realm.toList == q.a.realm.toList)) from rfl)
  have heq := run_eql_ori g.o q.o
  have hfa : Fr noB w (w.alloc (.cells g.cells.toArray 34)) := (Fr.refl noB w).alloc _
  have hb2 := hfa.keep hb (fun h => h)
  have c0 : (w.alloc (.cells g.cells.toArray 34)).cell? ⟨bw, 0, none⟩ = some (.bool q.o.secure) := by simp only [World.cell?, hb2]; rfl
  have c1 : (w.alloc (.cells g.cells.toArray 34)).cell? ⟨bw, 1, none⟩ = some (.string q.o.host) := by simp only [World.cell?, hb2]; rfl
  have c2 : (w.alloc (.cells g.cells.toArray 34)).cell? ⟨bw, 2, none⟩ = some (.int .i64 q.o.port) := by simp only [World.cell?, hb2]; rfl
  have c3 : (w.alloc (.cells g.cells.toArray 34)).cell? ⟨bw, 3, none⟩ = some (.bool q.proxy) := by simp only [World.cell?, hb2]; rfl
  have c7 : (w.alloc (.cells g.cells.toArray 34)).cell? ⟨bw, 7, none⟩ = some (.string q.a.realm) := by simp only [World.cell?, hb2]; rfl
  rw [hC.out]
  unfold GrantOf.cells at *
  clear hC hb hb2
  cases e1 : g.o.eqB q.o
  · rw [e1] at heq
    rw [Bool.false_and]
    go_enter Tryd.func22, Tryd.ntmps22
    go_wp2
    go_ret
    exact ⟨rfl, hfa⟩
  · rw [e1] at heq
    rw [Bool.true_and]
    cases e2 : g.proxy == q.proxy
    · rw [Bool.false_and]
      go_enter Tryd.func22, Tryd.ntmps22
      go_wp2
      go_ret
      exact ⟨rfl, hfa⟩
    · rw [Bool.true_and]
      cases e3 : g.a.realm.toList == q.a.realm.toList
      · go_enter Tryd.func22, Tryd.ntmps22
        go_wp2
        go_ret
        exact ⟨rfl, hfa⟩
      · go_enter Tryd.func22, Tryd.ntmps22
        go_wp2
        go_ret
        exact ⟨rfl, hfa⟩
theorem Counts2_answers (S : Nat → Prop) (w : World) (q : GrantOf Value) (bw : Nat) (rs : List (GrantOf Value)) (hb : w.heap[bw]? = some (.cells q.cells.toArray 34 (0, 0))) (h1 : ¬ S bw) :
    AnswersK S w 22 #[.pointer (some ⟨bw, 0, none⟩)] (sameC q.o q.proxy q.a.realm) (rs.map GrantOf.cells) := by
  intro x hx u hu
  obtain ⟨r, _, rfl⟩ := List.mem_map.1 hx
  exact Counts2_any r q bw u (hu.keep hb h1)
end Go.Proofs.YtkoobhgedoanhaaDoor
