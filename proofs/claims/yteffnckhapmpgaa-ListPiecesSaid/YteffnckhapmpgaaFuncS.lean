/- Walks: slices.IndexFunc and ContainsFunc at strings; token.Join; the closures of the laws on lists. -/
import Derived.Test.YteffnckhapmpgaaListPlain
import Derived.Test.YteffnckhapmpgaaQuoteLaws2
namespace Go.Proofs.Yteffnckhapmpgaa
open Go.RowKit

/-- the first place where p holds, or -1 -/
def idxP {α : Type} (p : α → Bool) : List α → Nat → Int
  | [], _ => -1
  | x :: l, i => if p x then i else idxP p l (i + 1)
theorem idxP_any {α : Type} (p : α → Bool) : ∀ (l : List α) (i : Nat), decide (0 ≤ idxP p l i) = l.any p
  | [], _ => rfl
  | x :: l, i => by
    rw [idxP, List.any_cons]
    cases h : p x
    · simp only [Bool.false_eq_true, if_false, Bool.false_or]; exact idxP_any p l (i + 1)
    · simp
theorem idxP_hit {α : Type} {p : α → Bool} {l : List α} {k i : Nat} {x : α} (h : l[k]? = some x) (hp : p x = true) (hn : (l.take k).any p = false) : idxP p l i = ((i + k : Nat) : Int) := by
  induction l generalizing k i with
  | nil => simp at h
  | cons a l ih =>
    cases k with
    | zero => simp at h; subst h; rw [idxP, if_pos hp]; rfl
    | succ k =>
      simp only [List.getElem?_cons_succ] at h
      simp only [List.take_succ_cons, List.any_cons, Bool.or_eq_false_iff] at hn
      rw [idxP, hn.1]
      simp only [Bool.false_eq_true, if_false]
      rw [ih h hn.2]; congr 1; omega
theorem idxP_none {α : Type} {p : α → Bool} {l : List α} {i : Nat} (hn : l.any p = false) : idxP p l i = -1 := by
  induction l generalizing i with
  | nil => rfl
  | cons a l ih =>
    simp only [List.any_cons, Bool.or_eq_false_iff] at hn
    rw [idxP, hn.1]
    simp only [Bool.false_eq_true, if_false]
    exact ih hn.2
theorem any_take_succ {α : Type} {p : α → Bool} {l : List α} {k : Nat} {x : α} (h : l[k]? = some x) (hn : (l.take k).any p = false) (hp : p x = false) : (l.take (k + 1)).any p = false := by
  rw [List.take_add_one, h]; simp only [List.any_append, hn, Option.toList_some, List.any_cons, hp, List.any_nil, Bool.or_false]

/-- a function value that answers p, and leaves what lay there -/
def Answers (I : World → Prop) (g : Nat) (cap : Array Value) (p : ByteArray → Bool) (ss : List ByteArray) : Prop :=
  ∀ x, x ∈ ss → ∀ u, I u → Calls Try.prog g (#[.string x] ++ cap) u fun e u' => e = .returned (.bool (p x)) ∧ Fr noB u u' ∧ I u'

def FRel (w : World) (I : World → Prop) (p : ByteArray → Bool) (ss : List ByteArray) (i : Value) (wr : World) : Prop :=
  ∃ k : Nat, k ≤ ss.length ∧ i = .int .i64 k ∧ (ss.take k).any p = false ∧ Fr noB w wr ∧ I wr

set_option maxRecDepth 100000 in
set_option maxHeartbeats 1000000 in
theorem IndexFuncS_any (I : World → Prop) (g : Nat) (cap : Array Value) (p : ByteArray → Bool) (v : Value) (ss : List ByteArray) (w : World) (eg : ∀ args w, (callFunc g args).run Try.prog w = .ok (.enter g args) w) (hI : I w) (hp : Answers I g cap p ss) (hv : StrsAt w v ss) (hl : ss.length ≤ maxLen) :
    Calls Try.prog 66 #[v, .func (.func g) #[] cap] w fun e w' => e = .returned (.int .i64 (idxP p ss 0)) ∧ Fr noB w w' ∧ I w' := by
  unfold maxLen at hl
  obtain ⟨av, cv, hform⟩ := hv.form
  subst hform
  go_enter Try.func66, Try.ntmps66
  go_wp2
  go_loopw [8] (FRel w I p ss) (fun i _ => ss.length - (intOf i).toNat)
  case atStart => exact ⟨0, Nat.zero_le _, rfl, rfl, Fr.refl _ _, hI⟩
  case round =>
    obtain ⟨k, hk, rfl, hn, hfr, hIr⟩ := hrel
    have HN := Lib.hid hn
    clear hn
    by_cases hks : k < ss.length
    · have hvr := hv.frNone hfr
      rcases hvr with ⟨_, _, _, e, _⟩ | ⟨bk, o, c, hf, h1, h2, h3, h4⟩
      · rw [e] at hks; exact absurd hks (Nat.not_lt_zero _)
      · cases hf
        have hat := Lib.hid (List.getElem?_eq_getElem hks)
        have hc := h4 k _ hat.out
        have hmem := Lib.hid (List.getElem_mem hks)
        generalize ss[k] = x at hat hc hmem
        have hcall := Lib.hid (hp x hmem.out wr hIr)
        clear h4
        cases hpx : p x
        · have hnx := Lib.hid (any_take_succ hat.out HN.out hpx)
          go_wp2_with fail
          refine hcall.out.mono ?_
          rintro e w1 ⟨rfl, hf1, hI1⟩
          rw [hpx]
          go_wp2
          go_roundw
          case rel => exact ⟨k + 1, by omega, by go_num, hnx.out, hfr.trans hf1, hI1⟩
          case measure => simp [intOf]; omega
        · have hfin := Lib.hid (idxP_hit (i := 0) hat.out hpx HN.out)
          go_wp2_with fail
          refine hcall.out.mono ?_
          rintro e w1 ⟨rfl, hf1, hI1⟩
          rw [hpx]
          go_wp2
          go_ret
          rw [hfin.out, Nat.zero_add]
          exact ⟨rfl, hfr.trans hf1, hI1⟩
    · have hfin := Lib.hid (show idxP p ss 0 = -1 from idxP_none (by have h := HN.out; rw [List.take_of_length_le (by omega)] at h; exact h))
      go_wp2
      go_ret
      rw [hfin.out]
      exact ⟨rfl, hfr, hIr⟩

set_option maxHeartbeats 1000000 in
theorem ContainsFuncS_any (I : World → Prop) (g : Nat) (cap : Array Value) (p : ByteArray → Bool) (v : Value) (ss : List ByteArray) (w : World) (eg : ∀ args w, (callFunc g args).run Try.prog w = .ok (.enter g args) w) (hI : I w) (hp : Answers I g cap p ss) (hv : StrsAt w v ss) (hl : ss.length ≤ maxLen) :
    Calls Try.prog 32 #[v, .func (.func g) #[] cap] w fun e w' => e = .returned (.bool (ss.any p)) ∧ Fr noB w w' ∧ I w' := by
  have hb := Lib.hid (idxP_any p ss 0)
  go_enter Try.func32, Try.ntmps32
  go_wp2_with fail
  refine (IndexFuncS_any I g cap p v ss w eg hI hp hv hl).mono ?_
  rintro e w1 ⟨rfl, hf1, hI1⟩
  go_wp2
  go_ret
  exact ⟨ret_bool hb.out, hf1, hI1⟩

/-- token.Join -/
def joinB (ss : List ByteArray) : List UInt8 := Lib.join (ss.map (·.data.toList)) [44, 32]
set_option maxHeartbeats 1000000 in
theorem Join_any (v : Value) (ss : List ByteArray) (w : World) (hv : StrsAt w v ss) (hn : ss.length ≤ 140737488355328) (hlen : (joinB ss).length ≤ 140737488355328) :
    Calls Try.prog 48 #[v] w fun e w' => e = .returned (.string ⟨(joinB ss).toArray⟩) ∧ Fr noB w w' := by
  rcases hv with ⟨a, c, rfl, rfl, _⟩ | ⟨bk, o, c, rfl, h1, h2, h3, h4⟩
  · go_enter Try.func48, Try.ntmps48
    go_wp2_with fail
    refine (Try.strings_Join_none _ _ _ _).mono ?_
    rintro e w1 ⟨rfl, rfl⟩
    go_wp2
    go_ret
    exact ⟨rfl, Fr.refl _ _⟩
  · have hJ := Lib.hid (Try.strings_Join bk o c ss ⟨#[44, 32]⟩ w h4 h3 hn h1 hlen)
    clear h4
    go_enter Try.func48, Try.ntmps48
    go_wp2_with fail
    refine hJ.out.mono ?_
    rintro e w1 ⟨rfl, hb⟩
    go_wp2
    go_ret
    exact ⟨rfl, Fr.of_below hb⟩

/-- the closure of wordsOf -/
def longOrNot (s : ByteArray) : Bool := decide (30 < s.size) || !isL s.data.toList
set_option maxHeartbeats 1000000 in
theorem wordsOf1_any (s : ByteArray) (w : World) :
    Calls Try.prog 76 #[.string s] w fun e w' => e = .returned (.bool (longOrNot s)) ∧ w = w' := by
  by_cases h : 30 < s.size
  · have hb := Lib.hid (show longOrNot s = true by simp [longOrNot, h])
    have hd : (30 : Int) < (s.size : Int) := by omega
    go_enter Try.func76, Try.ntmps76
    go_wp2
    go_ret
    exact ⟨ret_bool hb.out.symm, rfl⟩
  · have hb := Lib.hid (show longOrNot s = !isL s.data.toList by simp [longOrNot, h])
    have hd : ¬ (30 : Int) < (s.size : Int) := by omega
    go_enter Try.func76, Try.ntmps76
    go_wp2_with fail
    refine (Is_any s w (by omega)).mono ?_
    rintro e w1 ⟨rfl, rfl⟩
    go_wp2
    go_ret
    exact ⟨ret_bool hb.out.symm, rfl⟩
def wordsOfB (ss : List ByteArray) : Bool := decide (ss.length ≤ 20) && !ss.any longOrNot
set_option maxHeartbeats 1000000 in
theorem wordsOf_any (v : Value) (ss : List ByteArray) (w : World) (hv : StrsAt w v ss) :
    Calls Try.prog 46 #[v] w fun e w' => e = .returned (.bool (wordsOfB ss)) ∧ Fr noB w w' := by
  obtain ⟨av, cv, hform⟩ := hv.form
  subst hform
  by_cases h : ss.length ≤ 20
  · have hb := Lib.hid (show wordsOfB ss = !ss.any longOrNot by simp [wordsOfB, h])
    have hd : ((ss.length : Int) ≤ 20) := by omega
    go_enter Try.func46, Try.ntmps46
    go_wp2_with fail
    refine (ContainsFuncS_any (fun _ => True) _ #[] longOrNot _ ss w Try.call76 trivial (fun x _ u _ => (wordsOf1_any x u).mono fun e u' ⟨he, hu⟩ => ⟨he, hu ▸ Fr.refl _ _, trivial⟩) hv (by unfold maxLen; omega)).mono ?_
    rintro e w1 ⟨rfl, hf, _⟩
    go_wp2
    go_ret
    exact ⟨ret_bool hb.out.symm, hf⟩
  · have hb := Lib.hid (show wordsOfB ss = false by simp [wordsOfB, h])
    have hd : ¬ ((ss.length : Int) ≤ 20) := by omega
    go_enter Try.func46, Try.ntmps46
    go_wp2
    go_ret
    exact ⟨ret_bool hb.out.symm, Fr.refl _ _⟩
set_option maxHeartbeats 1000000 in
theorem ListBack1_any (s : ByteArray) (w : World) (hs : s.size < 17592186044416) :
    Calls Try.prog 50 #[.string s] w fun e w' => e = .returned (.bool (!isL s.data.toList)) ∧ w = w' := by
  go_enter Try.func50, Try.ntmps50
  go_wp2_with fail
  refine (Is_any s w hs).mono ?_
  rintro e w1 ⟨rfl, rfl⟩
  go_wp2
  go_ret
  exact ⟨rfl, rfl⟩
end Go.Proofs.Yteffnckhapmpgaa
