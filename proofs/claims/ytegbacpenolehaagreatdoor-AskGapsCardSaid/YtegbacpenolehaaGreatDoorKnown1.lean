/- Package ask: algorithm; the closure of Known. -/
import Derived.Test.YtegbacpenolehaaGreatDoorAskRead
import Derived.Test.YtegbacpenolehaaGreatDoorIdxS
namespace Go.Proofs.YtegbacpenolehaaGreatDoor
open Go.RowKit

def algV (s : Bs) : Value := match algR s with
  | some (k, b) => .tuple #[.int .i64 k, .bool b, .bool true]
  | none => .tuple #[.int .i64 0, .bool false, .bool false]
set_option maxRecDepth 100000 in
set_option maxHeartbeats 4000000 in
theorem algorithm_any (s : ByteArray) (w : World) (hs : s.size < 17592186044416) :
    Calls Tryz.prog 65 #[.string s] w fun e w' => e = .returned (algV s.data.toList) ∧ Fr noB w w' := by
  have S1 := Lib.hid (show ∀ U, Calls Tryz.prog 59 #[.string s, .string ⟨#[77, 68, 53]⟩] U fun e w' => e = .returned (.bool (sameL s.data.toList nMD5)) ∧ Fr noB U w' from fun U => Same_any s _ U hs (by decide))
  have S2 := Lib.hid (show ∀ U, Calls Tryz.prog 59 #[.string s, .string ⟨#[77, 68, 53, 45, 115, 101, 115, 115]⟩] U fun e w' => e = .returned (.bool (sameL s.data.toList (nMD5 ++ nSess))) ∧ Fr noB U w' from fun U => Same_any s _ U hs (by decide))
  have S3 := Lib.hid (show ∀ U, Calls Tryz.prog 59 #[.string s, .string ⟨#[83, 72, 65, 45, 50, 53, 54]⟩] U fun e w' => e = .returned (.bool (sameL s.data.toList nSHA)) ∧ Fr noB U w' from fun U => Same_any s _ U hs (by decide))
  have S4 := Lib.hid (show ∀ U, Calls Tryz.prog 59 #[.string s, .string ⟨#[83, 72, 65, 45, 50, 53, 54, 45, 115, 101, 115, 115]⟩] U fun e w' => e = .returned (.bool (sameL s.data.toList (nSHA ++ nSess))) ∧ Fr noB U w' from fun U => Same_any s _ U hs (by decide))
  have HV := Lib.hid (show algV s.data.toList = if sameL s.data.toList nMD5 then .tuple #[.int .i64 2, .bool false, .bool true] else if sameL s.data.toList (nMD5 ++ nSess) then .tuple #[.int .i64 2, .bool true, .bool true]
      else if sameL s.data.toList nSHA then .tuple #[.int .i64 3, .bool false, .bool true] else if sameL s.data.toList (nSHA ++ nSess) then .tuple #[.int .i64 3, .bool true, .bool true] else .tuple #[.int .i64 0, .bool false, .bool false] by
    unfold algV algR
    split
    · rename_i k b h
      split at h
      · rename_i h1; cases h; rw [if_pos h1]
      rename_i h1; rw [if_neg h1]
      split at h
      · rename_i h2; cases h; rw [if_pos h2]
      rename_i h2; rw [if_neg h2]
      split at h
      · rename_i h3; cases h; rw [if_pos h3]
      rename_i h3; rw [if_neg h3]
      split at h
      · rename_i h4; cases h; rw [if_pos h4]
      · cases h
    · rename_i h
      split at h
      · cases h
      rename_i h1; rw [if_neg h1]
      split at h
      · cases h
      rename_i h2; rw [if_neg h2]
      split at h
      · cases h
      rename_i h3; rw [if_neg h3]
      split at h
      · cases h
      rename_i h4; rw [if_neg h4])
  generalize sameL s.data.toList nMD5 = b1 at *
  generalize sameL s.data.toList (nMD5 ++ nSess) = b2 at *
  generalize sameL s.data.toList nSHA = b3 at *
  generalize sameL s.data.toList (nSHA ++ nSess) = b4 at *
  obtain ⟨w1, hw1⟩ : ∃ w1, w1 = w.alloc (.cells #[.string ⟨#[77, 68, 53]⟩, .string ⟨#[83, 72, 65, 45, 50, 53, 54]⟩] 9) := ⟨_, rfl⟩
  have hf1 : Fr noB w w1 := by rw [hw1]; exact (Fr.refl _ _).alloc _
  have hb1 : w1.heap[w.heap.size]? = some (.cells #[.string ⟨#[77, 68, 53]⟩, .string ⟨#[83, 72, 65, 45, 50, 53, 54]⟩] 9 (0, 0)) := by rw [hw1]; exact new_block _ _
  have HC := Lib.hid (show ∀ U, Fr noB w1 U → U.cell? ⟨w.heap.size, 0, none⟩ = some (.string ⟨#[77, 68, 53]⟩) ∧ U.cell? ⟨w.heap.size, 1, none⟩ = some (.string ⟨#[83, 72, 65, 45, 50, 53, 54]⟩) from fun U hU => by
    have j1 := hU.keep hb1 (fun h => h)
    simp [World.cell?, j1])
  have HW1 := Lib.hid hw1
  clear hw1 hb1
  go_enter Tryz.func65, Tryz.ntmps65
  go_wp2
  rw [← HW1.out]
  obtain ⟨c0, c1⟩ := HC.out w1 (Fr.refl _ _)
  refine wp_loop_rounds 3 ?_
  rw [rounds_succ]
  go_wp2_with fail
  refine (S1.out w1).mono ?_
  rintro e u1 ⟨rfl, hu1⟩
  clear c0 c1
  cases b1
  case true =>
    go_wp2
    go_ret3
    exact ⟨by rw [HV.out]; rfl, hf1.trans hu1⟩
  case false =>
    go_wp2_with fail
    refine (S2.out u1).mono ?_
    rintro e u2 ⟨rfl, hu2⟩
    have HF2 := Lib.hid (hu1.trans hu2)
    cases b2
    case true =>
      go_wp2
      go_ret3
      exact ⟨by rw [HV.out]; rfl, hf1.trans HF2.out⟩
    case false =>
      obtain ⟨c0, c1⟩ := HC.out u2 HF2.out
      go_wp2_with fail
      rw [rounds_succ]
      go_wp2_with fail
      refine (S3.out u2).mono ?_
      rintro e u3 ⟨rfl, hu3⟩
      have HF3 := Lib.hid (HF2.out.trans hu3)
      clear c0 c1
      cases b3
      case true =>
        go_wp2
        go_ret3
        exact ⟨by rw [HV.out]; rfl, hf1.trans HF3.out⟩
      case false =>
        go_wp2_with fail
        refine (S4.out u3).mono ?_
        rintro e u4 ⟨rfl, hu4⟩
        have HF4 := Lib.hid (HF3.out.trans hu4)
        cases b4
        case true =>
          go_wp2
          go_ret3
          exact ⟨by rw [HV.out]; rfl, hf1.trans HF4.out⟩
        case false =>
          go_wp2_with fail
          rw [rounds_succ]
          go_wp2
          go_ret3
          exact ⟨by rw [HV.out]; rfl, hf1.trans HF4.out⟩

/-- the closure: whether a word is the one that its variable holds -/
def NameAt (w : World) (b : Nat) (n : ByteArray) : Prop := w.heap[b]? = some (.cells #[.string n] 9 (0, 0))
theorem Known1_any (s n : ByteArray) (b : Nat) (w : World) (h : NameAt w b n) (hs : s.size < 17592186044416) (hn : n.size < 17592186044416) :
    Calls Tryz.prog 67 #[.string s, .pointer (some ⟨b, 0, none⟩)] w fun e w' => e = .returned (.bool (sameL s.data.toList n.data.toList)) ∧ Fr noB w w' := by
  have c0 : w.cell? ⟨b, 0, none⟩ = some (.string n) := by simp [World.cell?, show w.heap[b]? = _ from h]
  go_enter Tryz.func67, Tryz.ntmps67
  go_wp2_with fail
  refine (Same_any s n w hs hn).mono ?_
  rintro e w1 ⟨rfl, hf⟩
  go_wp2
  go_ret
  exact ⟨rfl, hf⟩
theorem Has_any (n : ByteArray) (b : Nat) (v : Value) (ss : List ByteArray) (w : World) (hv : StrsAt w v ss) (hl : ss.length ≤ 1000) (hb : NameAt w b n) (hn : n.size < 17592186044416) (hz : ∀ x ∈ ss, x.size < 17592186044416) :
    Calls Tryz.prog 66 #[v, .func (.func 67) #[] #[.pointer (some ⟨b, 0, none⟩)]] w fun e w' => e = .returned (.bool (ss.any fun x => sameL x.data.toList n.data.toList)) ∧ Fr noB w w' := by
  refine (ContainsFuncS_any (fun u => NameAt u b n) 67 #[.pointer (some ⟨b, 0, none⟩)] (fun x => sameL x.data.toList n.data.toList) v ss w Tryz.call67 hb ?_ hv (by unfold maxLen; omega)).mono ?_
  · intro x hx u hu
    refine (Known1_any x n b u hu (hz x hx) hn).mono ?_
    rintro e u' ⟨he, hf⟩
    exact ⟨he, hf, hf.keep hu (fun h => h)⟩
  · rintro e w' ⟨he, hf, _⟩
    exact ⟨he, hf⟩
end Go.Proofs.YtegbacpenolehaaGreatDoor
