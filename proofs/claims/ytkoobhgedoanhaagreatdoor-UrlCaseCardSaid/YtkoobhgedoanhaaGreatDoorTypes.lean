/- Origins, asks, grants as fields. -/
import Derived.Test.YtkoobhgedoanhaaGreatDoorStrs
namespace Go.Proofs.YtkoobhgedoanhaaGreatDoor
open Go.RowKit

abbrev Texts := List ByteArray
/-- a slice of strings among the arguments -/
abbrev StrsArg (w : World) (v : Value) (ss : List ByteArray) : Prop := StrsAt w v ss
/-- an origin, as its fields -/
structure Ori where
  secure : Bool
  host : ByteArray
  port : Int
def Ori.cells (o : Ori) : List Value := [.bool o.secure, .string o.host, .int .i64 o.port]
/-- an ask; D: what its domain is (the cell's value, or the texts) -/
structure AskOf (D : Type) where
  scheme : Int
  realm : ByteArray
  nonce : ByteArray
  opaq : ByteArray
  sess : Bool
  qop : ByteArray
  stale : Bool
  dom : D
def AskOf.cells (a : AskOf Value) : List Value := [.int .i64 a.scheme, .string a.realm, .string a.nonce, .string a.opaq, .bool a.sess, .string a.qop, .bool a.stale, a.dom]
/-- a grant; D: what its domain and its paths are -/
structure GrantOf (D : Type) where
  o : Ori
  proxy : Bool
  user : ByteArray
  pass : ByteArray
  a : AskOf D
  count : Int
  paths : D
def GrantOf.cells (g : GrantOf Value) : List Value :=
  [.bool g.o.secure, .string g.o.host, .int .i64 g.o.port, .bool g.proxy, .string g.user, .string g.pass,
   .int .i64 g.a.scheme, .string g.a.realm, .string g.a.nonce, .string g.a.opaq, .bool g.a.sess, .string g.a.qop, .bool g.a.stale, g.a.dom, .int .i64 g.count, g.paths]
/-- the raw ask reads as the other one -/
def AskOf.Reads (R : Value → List ByteArray → Prop) (r : AskOf Value) (a : AskOf (List ByteArray)) : Prop :=
  r.scheme = a.scheme ∧ r.realm = a.realm ∧ r.nonce = a.nonce ∧ r.opaq = a.opaq ∧ r.sess = a.sess ∧ r.qop = a.qop ∧ r.stale = a.stale ∧ R r.dom a.dom
def GrantOf.Reads (R : Value → List ByteArray → Prop) (r : GrantOf Value) (g : GrantOf (List ByteArray)) : Prop :=
  r.o = g.o ∧ r.proxy = g.proxy ∧ r.user = g.user ∧ r.pass = g.pass ∧ r.a.Reads R g.a ∧ r.count = g.count ∧ R r.paths g.paths
theorem AskOf.Reads.mono {R S : Value → List ByteArray → Prop} {r : AskOf Value} {a : AskOf (List ByteArray)} (h : r.Reads R a) (hs : ∀ v l, R v l → S v l) : r.Reads S a :=
  ⟨h.1, h.2.1, h.2.2.1, h.2.2.2.1, h.2.2.2.2.1, h.2.2.2.2.2.1, h.2.2.2.2.2.2.1, hs _ _ h.2.2.2.2.2.2.2⟩
theorem GrantOf.Reads.mono {R S : Value → List ByteArray → Prop} {r : GrantOf Value} {g : GrantOf (List ByteArray)} (h : r.Reads R g) (hs : ∀ v l, R v l → S v l) : r.Reads S g :=
  ⟨h.1, h.2.1, h.2.2.1, h.2.2.2.1, h.2.2.2.2.1.mono hs, h.2.2.2.2.2.1, hs _ _ h.2.2.2.2.2.2⟩

/-- Go's == of two origins -/
def Ori.eqB (a b : Ori) : Bool := a.secure == b.secure && (a.host.toList == b.host.toList && a.port == b.port)
theorem toList_inj {a b : ByteArray} : a.toList = b.toList ↔ a = b := by
  constructor
  · intro h
    rw [Go.ByteArray.toList_eq, Go.ByteArray.toList_eq] at h
    exact Go.WideShapes.bytes_inj h
  · intro h; rw [h]
theorem Ori.eqB_iff (a b : Ori) : a.eqB b = true ↔ a = b := by
  obtain ⟨s, h, p⟩ := a
  obtain ⟨s', h', p'⟩ := b
  simp only [Ori.eqB, Bool.and_eq_true, beq_iff_eq, Ori.mk.injEq, toList_inj]
theorem run_eql_ori (a b : Ori) (w : World) : (binOp .eql 49 (.agg #[.bool a.secure, .string a.host, .int .i64 a.port]) (.agg #[.bool b.secure, .string b.host, .int .i64 b.port])).run Tryz.prog w = .ok (.bool (a.eqB b)) w := by
  go_simp
  by_cases h1 : a.secure = b.secure <;> by_cases h2 : a.host.toList = b.host.toList <;> by_cases h3 : a.port = b.port <;> simp [Ori.eqB, h1, h2, h3]
theorem run_neq_ori (a b : Ori) (w : World) : (binOp .neq 49 (.agg #[.bool a.secure, .string a.host, .int .i64 a.port]) (.agg #[.bool b.secure, .string b.host, .int .i64 b.port])).run Tryz.prog w = .ok (.bool (!a.eqB b)) w := by
  go_simp
  by_cases h1 : a.secure = b.secure <;> by_cases h2 : a.host.toList = b.host.toList <;> by_cases h3 : a.port = b.port <;> simp [Ori.eqB, h1, h2, h3]
/-- a row's cells by their place -/
def cB (x : List Value) (i : Nat) : Bool := match x[i]? with | some (.bool b) => b | _ => false
def cS (x : List Value) (i : Nat) : ByteArray := match x[i]? with | some (.string s) => s | _ => ByteArray.empty
def cI (x : List Value) (i : Nat) : Int := match x[i]? with | some (.int _ n) => n | _ => 0
def oriC (x : List Value) : Ori := ⟨cB x 0, cS x 1, cI x 2⟩
end Go.Proofs.YtkoobhgedoanhaaGreatDoor
