/- Walks: slices.IndexFunc and ContainsFunc at strings. -/
import Derived.Test.YtkoobhgedoanhaaDoorIdx
import Derived.Lib.Join
import Derived.Test.YtkoobhgedoanhaaDoorStrs
namespace Go.Proofs.YtkoobhgedoanhaaDoor
open Go.RowKit


/-- a function value that answers p, and leaves what lay there -/
def Answers (I : World → Prop) (g : Nat) (cap : Array Value) (p : ByteArray → Bool) (ss : List ByteArray) : Prop :=
  ∀ x, x ∈ ss → ∀ u, I u → Calls Tryd.prog g (#[.string x] ++ cap) u fun e u' => e = .returned (.bool (p x)) ∧ Fr noB u u' ∧ I u'

def FRel (w : World) (I : World → Prop) (p : ByteArray → Bool) (ss : List ByteArray) (i : Value) (wr : World) : Prop :=
  ∃ k : Nat, k ≤ ss.length ∧ i = .int .i64 k ∧ (ss.take k).any p = false ∧ Fr noB w wr ∧ I wr

set_option maxRecDepth 100000 in
set_option maxHeartbeats 1000000 in
theorem IndexFuncS_any (I : World → Prop) (g : Nat) (cap : Array Value) (p : ByteArray → Bool) (v : Value) (ss : List ByteArray) (w : World) (eg : ∀ args w, (callFunc g args).run Tryd.prog w = .ok (.enter g args) w) (hI : I w) (hp : Answers I g cap p ss) (hv : StrsAt w v ss) (hl : ss.length ≤ maxLen) :
    Calls Tryd.prog 77 #[v, .func (.func g) #[] cap] w fun e w' => e = .returned (.int .i64 (idxP p ss 0)) ∧ Fr noB w w' ∧ I w' := by
  unfold maxLen at hl
  obtain ⟨av, cv, hform⟩ := hv.form
  subst hform
  go_enter Tryd.func77, Tryd.ntmps77
  go_wp2
  go_loopw [8] (FRel w I p ss) (fun i _ => ss.length - (intOf i).toNat)
  case atStart => exact ⟨0, Nat.zero_le _, rfl, rfl, Fr.refl _ _, hI⟩
  case round =>
    obtain ⟨k, hk, rfl, hn, hfr, hIr⟩ := hrel
    have HN := Lib.hid hn
    clear hn
    by_cases hks : k < ss.length
    · have hvr := hv.frNone hfr
      rcases hvr with ⟨_, _, _, e, _⟩ | ⟨bk, o, c, hf, h1, h2, h3, h4⟩
      · rw [e] at hks; exact absurd hks (Nat.not_lt_zero _)
      · cases hf
        have hat := Lib.hid (List.getElem?_eq_getElem hks)
        have hc := h4 k _ hat.out
        have hmem := Lib.hid (List.getElem_mem hks)
        generalize ss[k] = x at hat hc hmem
        have hcall := Lib.hid (hp x hmem.out wr hIr)
        clear h4
        cases hpx : p x
        · have hnx := Lib.hid (any_take_succ hat.out HN.out hpx)
          go_wp2_with fail
          refine hcall.out.mono ?_
          rintro e w1 ⟨rfl, hf1, hI1⟩
          rw [hpx]
          go_wp2
          go_roundw
          case rel => exact ⟨k + 1, by omega, by go_num, hnx.out, hfr.trans hf1, hI1⟩
          case measure => simp [intOf]; omega
        · have hfin := Lib.hid (idxP_hit (i := 0) hat.out hpx HN.out)
          go_wp2_with fail
          refine hcall.out.mono ?_
          rintro e w1 ⟨rfl, hf1, hI1⟩
          rw [hpx]
          go_wp2
          go_ret
          rw [hfin.out, Nat.zero_add]
          exact ⟨rfl, hfr.trans hf1, hI1⟩
    · have hfin := Lib.hid (show idxP p ss 0 = -1 from idxP_none (by have h := HN.out; rw [List.take_of_length_le (by omega)] at h; exact h))
      go_wp2
      go_ret
      rw [hfin.out]
      exact ⟨rfl, hfr, hIr⟩

set_option maxHeartbeats 1000000 in
theorem ContainsFuncS_any (I : World → Prop) (g : Nat) (cap : Array Value) (p : ByteArray → Bool) (v : Value) (ss : List ByteArray) (w : World) (eg : ∀ args w, (callFunc g args).run Tryd.prog w = .ok (.enter g args) w) (hI : I w) (hp : Answers I g cap p ss) (hv : StrsAt w v ss) (hl : ss.length ≤ maxLen) :
    Calls Tryd.prog 50 #[v, .func (.func g) #[] cap] w fun e w' => e = .returned (.bool (ss.any p)) ∧ Fr noB w w' ∧ I w' := by
  have hb := Lib.hid (idxP_any p ss 0)
  go_enter Tryd.func50, Tryd.ntmps50
  go_wp2_with fail
  refine (IndexFuncS_any I g cap p v ss w eg hI hp hv hl).mono ?_
  rintro e w1 ⟨rfl, hf1, hI1⟩
  go_wp2
  go_ret
  exact ⟨ret_bool hb.out, hf1, hI1⟩

/-- token.Join -/
def joinB (ss : List ByteArray) : List UInt8 := Lib.join (ss.map (·.data.toList)) [44, 32]
end Go.Proofs.YtkoobhgedoanhaaDoor
