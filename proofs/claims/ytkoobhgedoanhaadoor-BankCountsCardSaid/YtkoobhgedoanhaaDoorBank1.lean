/- The package bank: grants in memory; reach. -/
import Derived.Test.YtkoobhgedoanhaaDoorTypes
import Derived.Test.YtkoobhgedoanhaaDoorRowK
import Derived.Test.YtkoobhgedoanhaaDoorIdx
import Derived.Outline
namespace Go.Proofs.YtkoobhgedoanhaaDoor
open Go.RowKit

/-- url.Within -/
def within (path p : ByteArray) : Bool := Lib.hasPrefix path.data.toList p.data.toList
theorem Within_any (path p : ByteArray) (w : World) :
    Calls Tryd.prog 98 #[.string path, .string p] w fun e w' => e = .returned (.bool (within path p)) ∧ w = w' := by
  go_enter Tryd.func98, Tryd.ntmps98
  go_wp2_with fail
  refine (Tryd.strings_HasPrefix path p w).mono ?_
  rintro e w' ⟨rfl, rfl⟩
  go_wp2
  go_ret
  exact ⟨rfl, rfl⟩

/-- how far the paths ps reach over a path, n at first -/
def farTo (path : ByteArray) (ps : List ByteArray) (n : Int) : Int := ps.foldl (fun n p => if within path p then max n (p.size : Int) else n) n
/-- bank.reach -/
def reachI (g : Ori) (gp : Bool) (ps : List ByteArray) (o : Ori) (proxy : Bool) (path : ByteArray) : Int := if g.eqB o && gp == proxy then farTo path ps (-1) else -1
theorem farTo_snoc (path : ByteArray) (ps : List ByteArray) (p : ByteArray) (n : Int) : farTo path (ps ++ [p]) n = if within path p then max (farTo path ps n) (p.size : Int) else farTo path ps n := by simp [farTo]


def ReachRel (path : ByteArray) (ps : List ByteArray) (n i : Value) : Prop := ∃ k : Nat, k ≤ ps.length ∧ i = .int .i64 k ∧ n = .int .i64 (farTo path (ps.take k) (-1))
set_option maxHeartbeats 1000000 in
set_option maxRecDepth 100000 in
theorem reach_any (g : GrantOf Value) (o : Ori) (proxy : Bool) (path : ByteArray) (ps : List ByteArray) (w : World) (hp : StrsAt w g.paths ps) :
    Calls Tryd.prog 78 #[.agg g.cells.toArray, .agg o.cells.toArray, .bool proxy, .string path] w fun e w' => e = .returned (.int .i64 (reachI g.o g.proxy ps o proxy path)) ∧ Fr noB w w' := by
  have hne := run_neq_ori g.o o
  unfold GrantOf.cells Ori.cells
  obtain ⟨av, cv, hv⟩ := hp.form
  rw [hv] at hp ⊢
  clear hv
  cases e1 : g.o.eqB o
  · have HR := Lib.hid (show reachI g.o g.proxy ps o proxy path = -1 by unfold reachI; rw [e1]; rfl)
    go_enter Tryd.func78, Tryd.ntmps78
    go_wp2
    go_ret
    exact ⟨by rw [HR.out]; rfl, ((Fr.refl _ _).alloc _).alloc _⟩
  · cases e2 : g.proxy == proxy
    · have HR := Lib.hid (show reachI g.o g.proxy ps o proxy path = -1 by unfold reachI; rw [e1, e2]; rfl)
      have e2' : (g.proxy != proxy) = true := by rw [bne, e2]; rfl
      go_enter Tryd.func78, Tryd.ntmps78
      go_wp2
      go_ret
      exact ⟨by rw [HR.out]; rfl, ((Fr.refl _ _).alloc _).alloc _⟩
    · have HR := Lib.hid (show reachI g.o g.proxy ps o proxy path = farTo path ps (-1) by unfold reachI; rw [e1, e2]; rfl)
      have e2' : (g.proxy != proxy) = false := by rw [bne, e2]; rfl
      go_enter Tryd.func78, Tryd.ntmps78
      go_wp2
      have hf : Fr noB w _ := ((Fr.refl noB w).alloc (.cells #[.bool g.o.secure, .string g.o.host, .int .i64 g.o.port, .bool g.proxy, .string g.user, .string g.pass, .int .i64 g.a.scheme, .string g.a.realm, .string g.a.nonce, .string g.a.opaq, .bool g.a.sess, .string g.a.qop, .bool g.a.stale, g.a.dom, .int .i64 g.count, .slice av ps.length cv] 34)).alloc (.cells #[.bool o.secure, .string o.host, .int .i64 o.port] 24)
      have hp2 := hp.frNone hf
      generalize (w.alloc _).alloc _ = W at hf hp2
      clear hp hne e1 e2 e2'
      go_loop [9, 26] (ReachRel path ps) (fun _ i => ps.length - (intOf i).toNat)
      case atStart => exact ⟨0, Nat.zero_le _, rfl, rfl⟩
      case round =>
        obtain ⟨k, hk, rfl, rfl⟩ := hrel
        by_cases hks : k < ps.length
        · rcases hp2 with ⟨_, _, _, e, _⟩ | ⟨bk, of, c, hf1, h1, h2, h3, h4⟩
          · rw [e] at hks; exact absurd hks (Nat.not_lt_zero _)
          · cases hf1
            unfold maxLen at h2
            have hat := Lib.hid (List.getElem?_eq_getElem hks)
            have hc := h4 k _ hat.out
            generalize ps[k] = x at hat hc
            have hsn := Lib.hid (show farTo path (ps.take (k + 1)) (-1) = if within path x then max (farTo path (ps.take k) (-1)) (x.size : Int) else farTo path (ps.take k) (-1) by rw [take_snocG hat.out, farTo_snoc])
            clear h4
            generalize farTo path (ps.take k) (-1) = n at *
            cases hw : within path x
            · have hsn2 := Lib.hid (show farTo path (ps.take (k + 1)) (-1) = n by rw [hsn.out, hw]; rfl)
              go_wp2_with fail
              refine (Within_any path x W).mono ?_
              rintro e w1 ⟨rfl, rfl⟩
              rw [hw]
              go_wp2
              go_round
              case rel => exact ⟨k + 1, by omega, by go_num, by rw [hsn2.out]⟩
              case measure => simp [intOf]; omega
            · have hsn2 := Lib.hid (show farTo path (ps.take (k + 1)) (-1) = max n (x.size : Int) by rw [hsn.out, hw]; rfl)
              go_wp2_with fail
              refine (Within_any path x W).mono ?_
              rintro e w1 ⟨rfl, rfl⟩
              rw [hw]
              go_wp2
              go_round
              case rel => exact ⟨k + 1, by omega, by go_num, by rw [hsn2.out]⟩
              case measure => simp [intOf]; omega
        · have hfin := Lib.hid (show farTo path (ps.take k) (-1) = farTo path ps (-1) by rw [List.take_of_length_le (by omega)])
          go_wp2
          go_ret
          exact ⟨by rw [HR.out, hfin.out]; rfl, hf⟩
end Go.Proofs.YtkoobhgedoanhaaDoor
