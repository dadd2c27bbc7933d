/- far of the laws on the bank. -/
import Derived.Test.YteffnckhapmpgaaBank2
namespace Go.Proofs.Yteffnckhapmpgaa
open Go.RowKit

/-- far's fold -/
def fTo (m : Bool) (path : ByteArray) (ps : List ByteArray) (n : Int) : Int := ps.foldl (fun n p => if m && within path p then max n (p.size : Int) else n) n
theorem fTo_snoc (m : Bool) (path : ByteArray) (ps : List ByteArray) (p : ByteArray) (n : Int) : fTo m path (ps ++ [p]) n = if m && within path p then max (fTo m path ps n) (p.size : Int) else fTo m path ps n := by simp [fTo]
theorem fTo_reach (g : Ori) (gp : Bool) (ps : List ByteArray) (o : Ori) (proxy : Bool) (path : ByteArray) : fTo (g.eqB o && gp == proxy) path ps (-1) = reachI g gp ps o proxy path := by
  unfold reachI
  cases g.eqB o && gp == proxy
  · unfold fTo
    simp only [Bool.false_and, Bool.false_eq_true, if_false]
    induction ps with
    | nil => rfl
    | cons p ps ih => rw [List.foldl_cons]; exact ih
  · rfl
def FarRel (m : Bool) (path : ByteArray) (ps : List ByteArray) (n i : Value) : Prop := ∃ k : Nat, k ≤ ps.length ∧ i = .int .i64 k ∧ n = .int .i64 (fTo m path (ps.take k) (-1))
set_option maxHeartbeats 1000000 in
set_option maxRecDepth 100000 in
theorem far_any (g : GrantOf Value) (o : Ori) (proxy : Bool) (path : ByteArray) (ps : List ByteArray) (w : World) (hp : StrsAt w g.paths ps) :
    Calls Try.prog 25 #[.agg g.cells.toArray, .agg o.cells.toArray, .bool proxy, .string path] w fun e w' => e = .returned (.int .i64 (reachI g.o g.proxy ps o proxy path)) ∧ Fr noB w w' := by
  have hne := run_eql_ori g.o o
  have HR := Lib.hid (fTo_reach g.o g.proxy ps o proxy path).symm
  obtain ⟨m, hm0⟩ : ∃ m, m = (g.o.eqB o && g.proxy == proxy) := ⟨_, rfl⟩
  rw [← hm0] at HR
  have hm := Lib.hid hm0
  clear hm0
  unfold GrantOf.cells Ori.cells
  obtain ⟨av, cv, hv⟩ := hp.form
  rw [hv] at hp ⊢
  clear hv
  go_enter Try.func25, Try.ntmps25
  go_wp2
  have hf : Fr noB w _ := ((Fr.refl noB w).alloc (.cells #[.bool g.o.secure, .string g.o.host, .int .i64 g.o.port, .bool g.proxy, .string g.user, .string g.pass, .int .i64 g.a.scheme, .string g.a.realm, .string g.a.nonce, .string g.a.opaq, .bool g.a.sess, .string g.a.qop, .bool g.a.stale, g.a.dom, .int .i64 g.count, .slice av ps.length cv] 48)).alloc (.cells #[.bool o.secure, .string o.host, .int .i64 o.port] 38)
  have hp2 := hp.frNone hf
  clear hp
  go_loop [9, 15] (FarRel m path ps) (fun _ i => ps.length - (intOf i).toNat)
  case atStart => exact ⟨0, Nat.zero_le _, rfl, rfl⟩
  case round =>
    obtain ⟨k, hk, rfl, rfl⟩ := hrel
    by_cases hks : k < ps.length
    · rcases hp2 with ⟨_, _, _, e, _⟩ | ⟨bk, of, c, hf1, h1, h2, h3, h4⟩
      · rw [e] at hks; exact absurd hks (Nat.not_lt_zero _)
      · cases hf1
        unfold maxLen at h2
        have hat := Lib.hid (List.getElem?_eq_getElem hks)
        have hc := h4 k _ hat.out
        generalize ps[k] = x at hat hc
        have hsn := Lib.hid (show fTo m path (ps.take (k + 1)) (-1) = if m && within path x then max (fTo m path (ps.take k) (-1)) (x.size : Int) else fTo m path (ps.take k) (-1) by rw [take_snocG hat.out, fTo_snoc])
        clear h4 hf HR
        generalize fTo m path (ps.take k) (-1) = n at *
        cases e1 : g.o.eqB o
        · have hsn2 := Lib.hid (show fTo m path (ps.take (k + 1)) (-1) = n by rw [hsn.out, hm.out, e1]; rfl)
          go_wp2
          go_round
          case rel => exact ⟨k + 1, by omega, by go_num, by rw [hsn2.out]⟩
          case measure => simp [intOf]; omega
        · cases e2 : g.proxy == proxy
          · have hsn2 := Lib.hid (show fTo m path (ps.take (k + 1)) (-1) = n by rw [hsn.out, hm.out, e1, e2]; rfl)
            go_wp2
            go_round
            case rel => exact ⟨k + 1, by omega, by go_num, by rw [hsn2.out]⟩
            case measure => simp [intOf]; omega
          · cases hw : within path x
            · have hsn2 := Lib.hid (show fTo m path (ps.take (k + 1)) (-1) = n by rw [hsn.out, hm.out, e1, e2, hw]; rfl)
              go_wp2_with fail
              refine (Try.strings_HasPrefix path x _).mono ?_
              rintro e w1 ⟨rfl, rfl⟩
              rw [show Lib.hasPrefix path.data.toList x.data.toList = false from hw]
              go_wp2
              go_round
              case rel => exact ⟨k + 1, by omega, by go_num, by rw [hsn2.out]⟩
              case measure => simp [intOf]; omega
            · have hsn2 := Lib.hid (show fTo m path (ps.take (k + 1)) (-1) = max n (x.size : Int) by rw [hsn.out, hm.out, e1, e2, hw]; rfl)
              go_wp2_with fail
              refine (Try.strings_HasPrefix path x _).mono ?_
              rintro e w1 ⟨rfl, rfl⟩
              rw [show Lib.hasPrefix path.data.toList x.data.toList = true from hw]
              go_wp2
              go_round
              case rel => exact ⟨k + 1, by omega, by go_num, by rw [hsn2.out]⟩
              case measure => simp [intOf]; omega
    · have hfin := Lib.hid (show fTo m path (ps.take k) (-1) = fTo m path ps (-1) by rw [List.take_of_length_le (by omega)])
      go_wp2
      go_ret
      exact ⟨by rw [HR.out, hfin.out]; rfl, hf⟩
end Go.Proofs.Yteffnckhapmpgaa
