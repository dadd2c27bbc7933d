/- Package ask: the reader: gaps, over, named. -/
import Derived.Test.YtegbacpenolehaaGreatDoorAskPure
namespace Go.Proofs.YtegbacpenolehaaGreatDoor
open Go.RowKit

/-- a reader's block: its cursor, its text, what it has read -/
def RdrAt (w : World) (b c : Nat) (s : ByteArray) (v : Value) : Prop := w.heap[b]? = some (.cells #[.pointer (some ⟨c, 0, none⟩), .string s, v] 88 (0, 0))
section
variable {w w' : World} {b c i : Nat} {s t : ByteArray} {v : Value}
theorem RdrAt.cell0 (h : RdrAt w b c s v) : w.cell? ⟨b, 0, none⟩ = some (.pointer (some ⟨c, 0, none⟩)) := by simp [World.cell?, show w.heap[b]? = _ from h]
theorem RdrAt.cell1 (h : RdrAt w b c s v) : w.cell? ⟨b, 1, none⟩ = some (.string s) := by simp [World.cell?, show w.heap[b]? = _ from h]
theorem RdrAt.cell2 (h : RdrAt w b c s v) : w.cell? ⟨b, 2, none⟩ = some v := by simp [World.cell?, show w.heap[b]? = _ from h]
theorem RdrAt.free (h : RdrAt w b c s v) (k : Nat) : w.frozen? ⟨b, k, none⟩ = false := by simp [World.frozen?, show w.heap[b]? = _ from h]
theorem RdrAt.ne (h : RdrAt w b c s v) (g : CurAt w c t i) : b ≠ c := by
  intro e
  subst e
  have h' : w.heap[b]? = _ := h
  have g' : w.heap[b]? = _ := g
  rw [h'] at g'
  simp at g'
theorem RdrAt.fr {S : Nat → Prop} (h : RdrAt w b c s v) (hf : Fr S w w') (hn : ¬ S b) : RdrAt w' b c s v := hf.keep h hn
theorem RdrAt.one (h : RdrAt w b c s v) (g : CurAt w c t i) (hf : Fr (one c) w w') : RdrAt w' b c s v := h.fr hf (fun e => h.ne g e)
theorem RdrAt.lt (h : RdrAt w b c s v) : b < w.heap.size := lt_of_some h
theorem RdrAt.drewN {n : Nat} (h : RdrAt w b c s v) : RdrAt (w.drewN n) b c s v := h
end

theorem span_pos {p : UInt8 → Bool} {l : Bs} {i : Nat} : l.drop (spanEnd p l i) = (l.drop i).dropWhile p := drop_spanEnd p l i
/-- blanks, then gaps, are gaps -/
theorem span_gap (l : Bs) (k : Nat) (hk : k ≤ l.length) : spanEnd gapB l (spanEnd blankB l k) = spanEnd gapB l k := by
  have e1 : l.drop (spanEnd gapB l (spanEnd blankB l k)) = l.drop (spanEnd gapB l k) := by
    rw [drop_spanEnd, drop_spanEnd, drop_spanEnd]; exact gapsR_blanks _
  have h1 : spanEnd gapB l (spanEnd blankB l k) ≤ l.length := spanEnd_le (spanEnd_le hk)
  have h2 : spanEnd gapB l k ≤ l.length := spanEnd_le hk
  have := congrArg List.length e1
  simp at this; omega
theorem span_comma {l : Bs} {k : Nat} (h : l[k]? = some 44) : spanEnd gapB l (k + 1) = spanEnd gapB l k := (spanEnd_step h (by decide)).symm
theorem span_none {l : Bs} {k : Nat} (h : spanEnd blankB l k = k) (h2 : l[k]? ≠ some 44) : spanEnd gapB l k = k := by
  refine spanEnd_stop (fun c hc => ?_)
  unfold gapB
  cases hb : blankB c
  · have : c ≠ 44 := fun e => h2 (by rw [hc, e])
    simpa using this
  · have := spanEnd_step (p := blankB) hc hb
    have h3 := spanEnd_ge (p := blankB) (l := l) (i := k + 1)
    omega
theorem markB_iff (s : ByteArray) (k : Nat) (c : UInt8) : markB s k c = true ↔ s.data.toList[k]? = some c := by unfold markB; simp

set_option maxHeartbeats 1000000 in
theorem gaps_any (b c i : Nat) (s : ByteArray) (v : Value) (w : World) (hr : RdrAt w b c s v) (h : CurAt w c s i) (hs : s.size ≤ maxLen) (hi : i ≤ s.size) :
    Calls Tryz.prog 43 #[.pointer (some ⟨b, 0, none⟩)] w fun e w' => e = .returned (.tuple #[]) ∧ CurAt w' c s (spanEnd gapB s.data.toList i) ∧ Fr (one c) w w' := by
  go_enter Tryz.func43, Tryz.ntmps43
  go_wp2
  go_loopw [] (fun wr => ∃ k, k ≤ s.size ∧ CurAt wr c s k ∧ spanEnd gapB s.data.toList k = spanEnd gapB s.data.toList i ∧ Fr (one c) w wr) (fun wr => s.size - curPos wr c)
  case atStart => exact ⟨i, hi, h, rfl, Fr.refl _ _⟩
  case round =>
    obtain ⟨k, hk, hc, hsp, hfr⟩ := hrel
    have HSP := Lib.hid hsp
    clear hsp
    have hr1 := hr.one h hfr
    have q0 := hr1.cell0
    have hpos := Lib.hid hc.pos
    have hkl : k ≤ s.data.toList.length := by simpa using hk
    have HG := Lib.hid (span_gap s.data.toList k hkl)
    have hk1 : spanEnd blankB s.data.toList k ≤ s.size := by simpa using spanEnd_le (p := blankB) hkl
    have hk0 : k ≤ spanEnd blankB s.data.toList k := spanEnd_ge
    go_wp2_with fail
    refine (Blanks_any c s k wr hc hs hk).mono ?_
    rintro e w1 ⟨rfl, hc1, hf1⟩
    have HF1 := Lib.hid (hfr.trans hf1)
    have hr2 := hr1.one hc hf1
    have q1 := hr2.cell0
    generalize hK : spanEnd blankB s.data.toList k = K at *
    have HK := Lib.hid hK
    clear hK q0
    by_cases hlt : k < K
    · have hd : decide (k < K) = true := decide_eq_true hlt
      rw [hd]
      go_wp2
      go_roundw
      case rel => exact ⟨K, hk1, hc1, HG.out.trans HSP.out, HF1.out⟩
      case measure => rw [hpos.out, hc1.pos]; omega
    · have hd : decide (k < K) = false := decide_eq_false hlt
      have hKk : K = k := by omega
      subst hKk
      rw [hd]
      go_wp2_with fail
      refine (Mark_any c s K 44 w1 hc1 hs).mono ?_
      rintro e w2 ⟨rfl, hc2, hf2⟩
      have HF2 := Lib.hid (HF1.out.trans hf2)
      cases hm : markB s K 44
      · have hst := Lib.hid (span_none HK.out (fun e => by rw [(markB_iff s K 44).2 e] at hm; cases hm))
        rw [markTo_no hm] at hc2
        go_wp2
        go_end0
        rw [← HSP.out, hst.out]
        exact ⟨rfl, hc2, HF2.out⟩
      · have hst := Lib.hid (span_comma ((markB_iff s K 44).1 hm))
        rw [markTo_yes hm] at hc2
        have hlt2 : K < s.size := by
          have := (List.getElem?_eq_some_iff.1 ((markB_iff s K 44).1 hm)).1
          simpa using this
        go_wp2
        go_roundw
        case rel => exact ⟨K + 1, hlt2, hc2, hst.out.trans HSP.out, HF2.out⟩
        case measure => rw [hpos.out, hc2.pos]; omega

/-- where blanks end -/
def blk (s : ByteArray) (i : Nat) : Nat := spanEnd blankB s.data.toList i
theorem blk_le {s : ByteArray} {i : Nat} (h : i ≤ s.size) : blk s i ≤ s.size := by
  unfold blk; simpa using spanEnd_le (p := blankB) (l := s.data.toList) (i := i) (by simpa using h)
theorem blk_drop (s : ByteArray) (i : Nat) : s.data.toList.drop (blk s i) = blanksR (s.data.toList.drop i) := drop_spanEnd _ _ _
theorem over_at (s : ByteArray) (i : Nat) : overB (s.data.toList.drop i) = (decide (s.size ≤ blk s i) || markB s (blk s i) 44) := by
  unfold overB
  rw [← blk_drop]
  by_cases h : s.size ≤ blk s i
  · rw [List.drop_eq_nil_of_le (by simpa using h)]; simp [h, stopB]
  · have hlt : blk s i < s.data.toList.length := by simpa using h
    rw [List.drop_eq_getElem_cons hlt, decide_eq_false h, Bool.false_or]
    unfold stopB markB
    rw [List.getElem?_eq_getElem hlt, Bool.eq_iff_iff]
    simp
theorem goTo_at {k n : Nat} (h : k ≤ n) : goTo (k : Int) n = k := by unfold goTo; omega

set_option maxHeartbeats 1000000 in
theorem over_any (b c i : Nat) (s : ByteArray) (v : Value) (w : World) (hr : RdrAt w b c s v) (h : CurAt w c s i) (hs : s.size ≤ maxLen) (hi : i ≤ s.size) :
    Calls Tryz.prog 95 #[.pointer (some ⟨b, 0, none⟩)] w fun e w' => e = .returned (.bool (overB (s.data.toList.drop i))) ∧ CurAt w' c s (blk s i) ∧ Fr (one c) w w' := by
  have q0 := hr.cell0
  have hb := blk_le hi
  have HO := Lib.hid (over_at s i)
  generalize hK : blk s i = K at *
  have HK := Lib.hid hK
  clear hK
  go_enter Tryz.func95, Tryz.ntmps95
  go_wp2_with fail
  refine (Blanks_any c s i w h hs hi).mono ?_
  rintro e w1 ⟨rfl, hc1, hf1⟩
  replace hc1 : CurAt w1 c s (blk s i) := hc1
  rw [HK.out] at hc1
  have hr1 := hr.one h hf1
  have q1 := hr1.cell0
  clear q0
  go_wp2_with fail
  refine (At_any c s K w1 hc1).mono ?_
  rintro e w2 ⟨rfl, rfl⟩
  go_wp2_with fail
  refine (End_any c s K w1 hc1).mono ?_
  rintro e w3 ⟨rfl, n3, rfl⟩
  have hc3 : CurAt (w1.drewN n3) c s K := hc1.drewN n3
  have hf3 : Fr (one c) w (w1.drewN n3) := hf1.drewN n3
  have q3 := (hr1.drewN (n := n3)).cell0
  clear q1
  by_cases he : s.size ≤ K
  · have hd : decide (s.size ≤ K) = true := decide_eq_true he
    have HO2 := Lib.hid (show overB (s.data.toList.drop i) = true by rw [HO.out, hd]; rfl)
    rw [hd]
    clear HO
    go_wp2_with fail
    refine (Go_any c s K K (w1.drewN n3) hc3 hs).mono ?_
    rintro e w4 ⟨rfl, hc4, hf4⟩
    rw [goTo_at hb] at hc4
    go_wp2
    go_ret
    rw [HO2.out]
    exact ⟨rfl, hc4, hf3.trans hf4⟩
  · have hd : decide (s.size ≤ K) = false := decide_eq_false he
    have HO2 := Lib.hid (show overB (s.data.toList.drop i) = markB s K 44 by rw [HO.out, hd]; rfl)
    rw [hd]
    clear HO
    go_wp2_with fail
    refine (Mark_any c s K 44 (w1.drewN n3) hc3 hs).mono ?_
    rintro e w4 ⟨rfl, hc4, hf4⟩
    have q4 := ((hr1.drewN (n := n3)).one hc3 hf4).cell0
    clear q3
    go_wp2_with fail
    refine (Go_any c s _ K w4 hc4 hs).mono ?_
    rintro e w5 ⟨rfl, hc5, hf5⟩
    rw [goTo_at hb] at hc5
    go_wp2
    go_ret
    rw [HO2.out]
    exact ⟨rfl, hc5, (hf3.trans hf4).trans hf5⟩

/-- where a word ends -/
def wrd (s : ByteArray) (i : Nat) : Nat := spanEnd byteB s.data.toList i
theorem wrd_le {s : ByteArray} {i : Nat} (h : i ≤ s.size) : wrd s i ≤ s.size := by
  unfold wrd; simpa using spanEnd_le (p := byteB) (l := s.data.toList) (i := i) (by simpa using h)
theorem wrd_drop (s : ByteArray) (i : Nat) : s.data.toList.drop (wrd s i) = afterW (s.data.toList.drop i) := drop_spanEnd _ _ _
theorem wrd_text (s : ByteArray) (i : Nat) : s.extract i (wrd s i) = ⟨(wordR (s.data.toList.drop i)).toArray⟩ := extract_span _ _ _
theorem head_at (s : ByteArray) (k : Nat) (c : UInt8) : hdB c (s.data.toList.drop k) = markB s k c := by
  unfold markB
  rcases Nat.lt_or_ge k s.data.toList.length with h | h
  · rw [List.drop_eq_getElem_cons h, List.getElem?_eq_getElem h, Bool.eq_iff_iff]; simp [hdB]
  · rw [List.drop_eq_nil_of_le h, List.getElem?_eq_none h]; simp [hdB]
theorem named_at (s : ByteArray) (i : Nat) : namedB (s.data.toList.drop i) = (!(wordR (s.data.toList.drop i)).isEmpty && markB s (blk s (wrd s i)) 61) := by
  unfold namedB
  rw [← wrd_drop, ← blk_drop, head_at]
theorem toList_mk (l : Bs) : (⟨l.toArray⟩ : ByteArray).toList = l := by rw [Go.ByteArray.toList_eq]

set_option maxHeartbeats 1000000 in
theorem named_any' (b c i : Nat) (s : ByteArray) (v : Value) (w : World) (hr : RdrAt w b c s v) (h : CurAt w c s i) (hs : s.size ≤ maxLen) (hi : i ≤ s.size) :
    Calls Tryz.prog 98 #[.pointer (some ⟨b, 0, none⟩)] w fun e w' => e = .returned (.bool (namedB (s.data.toList.drop i))) ∧ CurAt w' c s i ∧ Fr (one c) w w' := by
  have q0 := hr.cell0
  have HN := Lib.hid (named_at s i)
  have hw := wrd_le hi
  go_enter Tryz.func98, Tryz.ntmps98
  go_wp2_with fail
  refine (At_any c s i w h).mono ?_
  rintro e w0 ⟨rfl, rfl⟩
  go_wp2_with fail
  refine (Word_any c s i w h hs hi).mono ?_
  rintro e w1 ⟨rfl, hc1, hf1⟩
  replace hc1 : CurAt w1 c s (wrd s i) := hc1
  rw [show s.extract i (spanEnd byteB s.data.toList i) = ⟨(wordR (s.data.toList.drop i)).toArray⟩ from wrd_text s i]
  generalize wrd s i = K at *
  generalize wordR (s.data.toList.drop i) = W at *
  have hr1 := hr.one h hf1
  have q1 := hr1.cell0
  clear q0
  go_wp2_with fail
  refine (Blanks_any c s K w1 hc1 hs hw).mono ?_
  rintro e w2 ⟨rfl, hc2, hf2⟩
  replace hc2 : CurAt w2 c s (blk s K) := hc2
  have hb := blk_le hw
  generalize blk s K = M at *
  have hr2 := hr1.one hc1 hf2
  have q2 := hr2.cell0
  have HF2 := Lib.hid (hf1.trans hf2)
  clear q1 hf1 hf2
  cases W with
  | nil =>
    have HN2 := Lib.hid (show namedB (s.data.toList.drop i) = false by rw [HN.out]; rfl)
    clear HN
    go_wp2_with fail
    refine (Go_any c s M i w2 hc2 hs).mono ?_
    rintro e w4 ⟨rfl, hc4, hf4⟩
    rw [goTo_at hi] at hc4
    go_wp2
    go_ret
    rw [HN2.out]
    exact ⟨rfl, hc4, HF2.out.trans hf4⟩
  | cons x W =>
    have HN2 := Lib.hid (show namedB (s.data.toList.drop i) = markB s M 61 by rw [HN.out]; rfl)
    clear HN
    go_wp2_with fail
    refine (Mark_any c s M 61 w2 hc2 hs).mono ?_
    rintro e w3 ⟨rfl, hc3, hf3⟩
    have q3 := (hr2.one hc2 hf3).cell0
    clear q2
    go_wp2_with fail
    refine (Go_any c s _ i w3 hc3 hs).mono ?_
    rintro e w4 ⟨rfl, hc4, hf4⟩
    rw [goTo_at hi] at hc4
    go_wp2
    go_ret
    rw [HN2.out]
    exact ⟨rfl, hc4, (HF2.out.trans hf3).trans hf4⟩
end Go.Proofs.YtegbacpenolehaaGreatDoor
