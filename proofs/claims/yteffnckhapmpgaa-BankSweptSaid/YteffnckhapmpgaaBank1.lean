/- The package bank: grants in memory; reach. -/
import Derived.Test.YteffnckhapmpgaaStrs
import Derived.Test.YteffnckhapmpgaaRowK
import Derived.Test.YteffnckhapmpgaaIdx
import Derived.Outline
namespace Go.Proofs.Yteffnckhapmpgaa
open Go.RowKit

/-- an origin, as its fields -/
structure Ori where
  secure : Bool
  host : ByteArray
  port : Int
def Ori.cells (o : Ori) : List Value := [.bool o.secure, .string o.host, .int .i64 o.port]
/-- an ask; D: what its domain is (the cell's value, or the texts) -/
structure AskOf (D : Type) where
  scheme : Int
  realm : ByteArray
  nonce : ByteArray
  opaq : ByteArray
  sess : Bool
  qop : ByteArray
  stale : Bool
  dom : D
def AskOf.cells (a : AskOf Value) : List Value := [.int .i64 a.scheme, .string a.realm, .string a.nonce, .string a.opaq, .bool a.sess, .string a.qop, .bool a.stale, a.dom]
/-- a grant; D: what its domain and its paths are -/
structure GrantOf (D : Type) where
  o : Ori
  proxy : Bool
  user : ByteArray
  pass : ByteArray
  a : AskOf D
  count : Int
  paths : D
def GrantOf.cells (g : GrantOf Value) : List Value :=
  [.bool g.o.secure, .string g.o.host, .int .i64 g.o.port, .bool g.proxy, .string g.user, .string g.pass,
   .int .i64 g.a.scheme, .string g.a.realm, .string g.a.nonce, .string g.a.opaq, .bool g.a.sess, .string g.a.qop, .bool g.a.stale, g.a.dom, .int .i64 g.count, g.paths]
/-- the raw ask reads as the other one -/
def AskOf.Reads (R : Value → List ByteArray → Prop) (r : AskOf Value) (a : AskOf (List ByteArray)) : Prop :=
  r.scheme = a.scheme ∧ r.realm = a.realm ∧ r.nonce = a.nonce ∧ r.opaq = a.opaq ∧ r.sess = a.sess ∧ r.qop = a.qop ∧ r.stale = a.stale ∧ R r.dom a.dom
def GrantOf.Reads (R : Value → List ByteArray → Prop) (r : GrantOf Value) (g : GrantOf (List ByteArray)) : Prop :=
  r.o = g.o ∧ r.proxy = g.proxy ∧ r.user = g.user ∧ r.pass = g.pass ∧ r.a.Reads R g.a ∧ r.count = g.count ∧ R r.paths g.paths
theorem AskOf.Reads.mono {R S : Value → List ByteArray → Prop} {r : AskOf Value} {a : AskOf (List ByteArray)} (h : r.Reads R a) (hs : ∀ v l, R v l → S v l) : r.Reads S a :=
  ⟨h.1, h.2.1, h.2.2.1, h.2.2.2.1, h.2.2.2.2.1, h.2.2.2.2.2.1, h.2.2.2.2.2.2.1, hs _ _ h.2.2.2.2.2.2.2⟩
theorem GrantOf.Reads.mono {R S : Value → List ByteArray → Prop} {r : GrantOf Value} {g : GrantOf (List ByteArray)} (h : r.Reads R g) (hs : ∀ v l, R v l → S v l) : r.Reads S g :=
  ⟨h.1, h.2.1, h.2.2.1, h.2.2.2.1, h.2.2.2.2.1.mono hs, h.2.2.2.2.2.1, hs _ _ h.2.2.2.2.2.2⟩

/-- Go's == of two origins -/
def Ori.eqB (a b : Ori) : Bool := a.secure == b.secure && (a.host.toList == b.host.toList && a.port == b.port)
theorem toList_inj {a b : ByteArray} : a.toList = b.toList ↔ a = b := by
  constructor
  · intro h
    rw [Go.ByteArray.toList_eq, Go.ByteArray.toList_eq] at h
    exact Go.WideShapes.bytes_inj h
  · intro h; rw [h]
theorem Ori.eqB_iff (a b : Ori) : a.eqB b = true ↔ a = b := by
  obtain ⟨s, h, p⟩ := a
  obtain ⟨s', h', p'⟩ := b
  simp only [Ori.eqB, Bool.and_eq_true, beq_iff_eq, Ori.mk.injEq, toList_inj]
theorem run_eql_ori (a b : Ori) (w : World) : (binOp .eql 38 (.agg #[.bool a.secure, .string a.host, .int .i64 a.port]) (.agg #[.bool b.secure, .string b.host, .int .i64 b.port])).run Try.prog w = .ok (.bool (a.eqB b)) w := by
  go_simp
  by_cases h1 : a.secure = b.secure <;> by_cases h2 : a.host.toList = b.host.toList <;> by_cases h3 : a.port = b.port <;> simp [Ori.eqB, h1, h2, h3]
theorem run_neq_ori (a b : Ori) (w : World) : (binOp .neq 38 (.agg #[.bool a.secure, .string a.host, .int .i64 a.port]) (.agg #[.bool b.secure, .string b.host, .int .i64 b.port])).run Try.prog w = .ok (.bool (!a.eqB b)) w := by
  go_simp
  by_cases h1 : a.secure = b.secure <;> by_cases h2 : a.host.toList = b.host.toList <;> by_cases h3 : a.port = b.port <;> simp [Ori.eqB, h1, h2, h3]

/-- url.Within -/
def within (path p : ByteArray) : Bool := Lib.hasPrefix path.data.toList p.data.toList
theorem Within_any (path p : ByteArray) (w : World) :
    Calls Try.prog 35 #[.string path, .string p] w fun e w' => e = .returned (.bool (within path p)) ∧ w = w' := by
  go_enter Try.func35, Try.ntmps35
  go_wp2_with fail
  refine (Try.strings_HasPrefix path p w).mono ?_
  rintro e w' ⟨rfl, rfl⟩
  go_wp2
  go_ret
  exact ⟨rfl, rfl⟩

/-- how far the paths ps reach over a path, n at first -/
def farTo (path : ByteArray) (ps : List ByteArray) (n : Int) : Int := ps.foldl (fun n p => if within path p then max n (p.size : Int) else n) n
/-- bank.reach -/
def reachI (g : Ori) (gp : Bool) (ps : List ByteArray) (o : Ori) (proxy : Bool) (path : ByteArray) : Int := if g.eqB o && gp == proxy then farTo path ps (-1) else -1
theorem farTo_snoc (path : ByteArray) (ps : List ByteArray) (p : ByteArray) (n : Int) : farTo path (ps ++ [p]) n = if within path p then max (farTo path ps n) (p.size : Int) else farTo path ps n := by simp [farTo]


def ReachRel (path : ByteArray) (ps : List ByteArray) (n i : Value) : Prop := ∃ k : Nat, k ≤ ps.length ∧ i = .int .i64 k ∧ n = .int .i64 (farTo path (ps.take k) (-1))
set_option maxHeartbeats 1000000 in
set_option maxRecDepth 100000 in
theorem reach_any (g : GrantOf Value) (o : Ori) (proxy : Bool) (path : ByteArray) (ps : List ByteArray) (w : World) (hp : StrsAt w g.paths ps) :
    Calls Try.prog 87 #[.agg g.cells.toArray, .agg o.cells.toArray, .bool proxy, .string path] w fun e w' => e = .returned (.int .i64 (reachI g.o g.proxy ps o proxy path)) ∧ Fr noB w w' := by
  have hne := run_neq_ori g.o o
  unfold GrantOf.cells Ori.cells
  obtain ⟨av, cv, hv⟩ := hp.form
  rw [hv] at hp ⊢
  clear hv
  cases e1 : g.o.eqB o
  · have HR := Lib.hid (show reachI g.o g.proxy ps o proxy path = -1 by unfold reachI; rw [e1]; rfl)
    go_enter Try.func87, Try.ntmps87
    go_wp2
    go_ret
    exact ⟨by rw [HR.out]; rfl, ((Fr.refl _ _).alloc _).alloc _⟩
  · cases e2 : g.proxy == proxy
    · have HR := Lib.hid (show reachI g.o g.proxy ps o proxy path = -1 by unfold reachI; rw [e1, e2]; rfl)
      have e2' : (g.proxy != proxy) = true := by rw [bne, e2]; rfl
      go_enter Try.func87, Try.ntmps87
      go_wp2
      go_ret
      exact ⟨by rw [HR.out]; rfl, ((Fr.refl _ _).alloc _).alloc _⟩
    · have HR := Lib.hid (show reachI g.o g.proxy ps o proxy path = farTo path ps (-1) by unfold reachI; rw [e1, e2]; rfl)
      have e2' : (g.proxy != proxy) = false := by rw [bne, e2]; rfl
      go_enter Try.func87, Try.ntmps87
      go_wp2
      have hf : Fr noB w _ := ((Fr.refl noB w).alloc (.cells #[.bool g.o.secure, .string g.o.host, .int .i64 g.o.port, .bool g.proxy, .string g.user, .string g.pass, .int .i64 g.a.scheme, .string g.a.realm, .string g.a.nonce, .string g.a.opaq, .bool g.a.sess, .string g.a.qop, .bool g.a.stale, g.a.dom, .int .i64 g.count, .slice av ps.length cv] 48)).alloc (.cells #[.bool o.secure, .string o.host, .int .i64 o.port] 38)
      have hp2 := hp.frNone hf
      generalize (w.alloc _).alloc _ = W at hf hp2
      clear hp hne e1 e2 e2'
      go_loop [9, 26] (ReachRel path ps) (fun _ i => ps.length - (intOf i).toNat)
      case atStart => exact ⟨0, Nat.zero_le _, rfl, rfl⟩
      case round =>
        obtain ⟨k, hk, rfl, rfl⟩ := hrel
        by_cases hks : k < ps.length
        · rcases hp2 with ⟨_, _, _, e, _⟩ | ⟨bk, of, c, hf1, h1, h2, h3, h4⟩
          · rw [e] at hks; exact absurd hks (Nat.not_lt_zero _)
          · cases hf1
            unfold maxLen at h2
            have hat := Lib.hid (List.getElem?_eq_getElem hks)
            have hc := h4 k _ hat.out
            generalize ps[k] = x at hat hc
            have hsn := Lib.hid (show farTo path (ps.take (k + 1)) (-1) = if within path x then max (farTo path (ps.take k) (-1)) (x.size : Int) else farTo path (ps.take k) (-1) by rw [take_snocG hat.out, farTo_snoc])
            clear h4
            generalize farTo path (ps.take k) (-1) = n at *
            cases hw : within path x
            · have hsn2 := Lib.hid (show farTo path (ps.take (k + 1)) (-1) = n by rw [hsn.out, hw]; rfl)
              go_wp2_with fail
              refine (Within_any path x W).mono ?_
              rintro e w1 ⟨rfl, rfl⟩
              rw [hw]
              go_wp2
              go_round
              case rel => exact ⟨k + 1, by omega, by go_num, by rw [hsn2.out]⟩
              case measure => simp [intOf]; omega
            · have hsn2 := Lib.hid (show farTo path (ps.take (k + 1)) (-1) = max n (x.size : Int) by rw [hsn.out, hw]; rfl)
              go_wp2_with fail
              refine (Within_any path x W).mono ?_
              rintro e w1 ⟨rfl, rfl⟩
              rw [hw]
              go_wp2
              go_round
              case rel => exact ⟨k + 1, by omega, by go_num, by rw [hsn2.out]⟩
              case measure => simp [intOf]; omega
        · have hfin := Lib.hid (show farTo path (ps.take k) (-1) = farTo path ps (-1) by rw [List.take_of_length_le (by omega)])
          go_wp2
          go_ret
          exact ⟨by rw [HR.out, hfin.out]; rfl, hf⟩
end Go.Proofs.Yteffnckhapmpgaa
