/- Package ask: the reader: gaps, over, named. Package ask: the reader: single. Whole structs: into a new block, out of a block, in and out of a row. No program in sight. -/
import Derived.Test.YtkoobhgedoanhaaGreatDoorCB2
import Derived.Test.YtkoobhgedoanhaaGreatDoorShelf
import Derived.Lib.SlTrimSet
import Derived.Shelf.Strings.SlTrimAscii
import Derived.Deep.RegionHeld3
import Derived.Test.YtkoobhgedoanhaaGreatDoorCB4
import Derived.Deep.MidRow
namespace Go.Proofs.YtkoobhgedoanhaaGreatDoor
open Go.RowKit

/-- a reader's block: its cursor, its text, what it has read -/
def RdrAt (w : World) (b c : Nat) (s : ByteArray) (v : Value) : Prop := w.heap[b]? = some (.cells #[.pointer (some ⟨c, 0, none⟩), .string s, v] 105 (0, 0))
section
variable {w w' : World} {b c i : Nat} {s t : ByteArray} {v : Value}
theorem RdrAt.cell0 (h : RdrAt w b c s v) : w.cell? ⟨b, 0, none⟩ = some (.pointer (some ⟨c, 0, none⟩)) := by simp [World.cell?, show w.heap[b]? = _ from h]
theorem RdrAt.cell1 (h : RdrAt w b c s v) : w.cell? ⟨b, 1, none⟩ = some (.string s) := by simp [World.cell?, show w.heap[b]? = _ from h]
theorem RdrAt.cell2 (h : RdrAt w b c s v) : w.cell? ⟨b, 2, none⟩ = some v := by simp [World.cell?, show w.heap[b]? = _ from h]
theorem RdrAt.free (h : RdrAt w b c s v) (k : Nat) : w.frozen? ⟨b, k, none⟩ = false := by simp [World.frozen?, show w.heap[b]? = _ from h]
theorem RdrAt.ne (h : RdrAt w b c s v) (g : CurAt w c t i) : b ≠ c := by
  intro e
  subst e
  have h' : w.heap[b]? = _ := h
  have g' : w.heap[b]? = _ := g
  rw [h'] at g'
  simp at g'
theorem RdrAt.fr {S : Nat → Prop} (h : RdrAt w b c s v) (hf : Fr S w w') (hn : ¬ S b) : RdrAt w' b c s v := hf.keep h hn
theorem RdrAt.one (h : RdrAt w b c s v) (g : CurAt w c t i) (hf : Fr (one c) w w') : RdrAt w' b c s v := h.fr hf (fun e => h.ne g e)
theorem RdrAt.lt (h : RdrAt w b c s v) : b < w.heap.size := lt_of_some h
theorem RdrAt.drewN {n : Nat} (h : RdrAt w b c s v) : RdrAt (w.drewN n) b c s v := h
end

theorem span_pos {p : UInt8 → Bool} {l : Bs} {i : Nat} : l.drop (spanEnd p l i) = (l.drop i).dropWhile p := drop_spanEnd p l i
/-- blanks, then gaps, are gaps -/
theorem span_gap (l : Bs) (k : Nat) (hk : k ≤ l.length) : spanEnd gapB l (spanEnd blankB l k) = spanEnd gapB l k := by
  have e1 : l.drop (spanEnd gapB l (spanEnd blankB l k)) = l.drop (spanEnd gapB l k) := by
    rw [drop_spanEnd, drop_spanEnd, drop_spanEnd]; exact gapsR_blanks _
  have h1 : spanEnd gapB l (spanEnd blankB l k) ≤ l.length := spanEnd_le (spanEnd_le hk)
  have h2 : spanEnd gapB l k ≤ l.length := spanEnd_le hk
  have := congrArg List.length e1
  simp at this; omega
theorem span_comma {l : Bs} {k : Nat} (h : l[k]? = some 44) : spanEnd gapB l (k + 1) = spanEnd gapB l k := (spanEnd_step h (by decide)).symm
theorem span_none {l : Bs} {k : Nat} (h : spanEnd blankB l k = k) (h2 : l[k]? ≠ some 44) : spanEnd gapB l k = k := by
  refine spanEnd_stop (fun c hc => ?_)
  unfold gapB
  cases hb : blankB c
  · have : c ≠ 44 := fun e => h2 (by rw [hc, e])
    simpa using this
  · have := spanEnd_step (p := blankB) hc hb
    have h3 := spanEnd_ge (p := blankB) (l := l) (i := k + 1)
    omega
theorem markB_iff (s : ByteArray) (k : Nat) (c : UInt8) : markB s k c = true ↔ s.data.toList[k]? = some c := by unfold markB; simp

set_option maxHeartbeats 1000000 in
theorem gaps_any (b c i : Nat) (s : ByteArray) (v : Value) (w : World) (hr : RdrAt w b c s v) (h : CurAt w c s i) (hs : s.size ≤ maxLen) (hi : i ≤ s.size) :
    Calls Tryz.prog 57 #[.pointer (some ⟨b, 0, none⟩)] w fun e w' => e = .returned (.tuple #[]) ∧ CurAt w' c s (spanEnd gapB s.data.toList i) ∧ Fr (one c) w w' := by
  go_enter Tryz.func57, Tryz.ntmps57
  go_wp2
  go_loopw [] (fun wr => ∃ k, k ≤ s.size ∧ CurAt wr c s k ∧ spanEnd gapB s.data.toList k = spanEnd gapB s.data.toList i ∧ Fr (one c) w wr) (fun wr => s.size - curPos wr c)
  case atStart => exact ⟨i, hi, h, rfl, Fr.refl _ _⟩
  case round =>
    obtain ⟨k, hk, hc, hsp, hfr⟩ := hrel
    have HSP := Lib.hid hsp
    clear hsp
    have hr1 := hr.one h hfr
    have q0 := hr1.cell0
    have hpos := Lib.hid hc.pos
    have hkl : k ≤ s.data.toList.length := by simpa using hk
    have HG := Lib.hid (span_gap s.data.toList k hkl)
    have hk1 : spanEnd blankB s.data.toList k ≤ s.size := by simpa using spanEnd_le (p := blankB) hkl
    have hk0 : k ≤ spanEnd blankB s.data.toList k := spanEnd_ge
    go_wp2_with fail
    refine (Blanks_any c s k wr hc hs hk).mono ?_
    rintro e w1 ⟨rfl, hc1, hf1⟩
    have HF1 := Lib.hid (hfr.trans hf1)
    have hr2 := hr1.one hc hf1
    have q1 := hr2.cell0
    generalize hK : spanEnd blankB s.data.toList k = K at *
    have HK := Lib.hid hK
    clear hK q0
    by_cases hlt : k < K
    · have hd : decide (k < K) = true := decide_eq_true hlt
      rw [hd]
      go_wp2
      go_roundw
      case rel => exact ⟨K, hk1, hc1, HG.out.trans HSP.out, HF1.out⟩
      case measure => rw [hpos.out, hc1.pos]; omega
    · have hd : decide (k < K) = false := decide_eq_false hlt
      have hKk : K = k := by omega
      subst hKk
      rw [hd]
      go_wp2_with fail
      refine (Mark_any c s K 44 w1 hc1 hs).mono ?_
      rintro e w2 ⟨rfl, hc2, hf2⟩
      have HF2 := Lib.hid (HF1.out.trans hf2)
      cases hm : markB s K 44
      · have hst := Lib.hid (span_none HK.out (fun e => by rw [(markB_iff s K 44).2 e] at hm; cases hm))
        rw [markTo_no hm] at hc2
        go_wp2
        go_end0
        rw [← HSP.out, hst.out]
        exact ⟨rfl, hc2, HF2.out⟩
      · have hst := Lib.hid (span_comma ((markB_iff s K 44).1 hm))
        rw [markTo_yes hm] at hc2
        have hlt2 : K < s.size := by
          have := (List.getElem?_eq_some_iff.1 ((markB_iff s K 44).1 hm)).1
          simpa using this
        go_wp2
        go_roundw
        case rel => exact ⟨K + 1, hlt2, hc2, hst.out.trans HSP.out, HF2.out⟩
        case measure => rw [hpos.out, hc2.pos]; omega

/-- where blanks end -/
def blk (s : ByteArray) (i : Nat) : Nat := spanEnd blankB s.data.toList i
theorem blk_le {s : ByteArray} {i : Nat} (h : i ≤ s.size) : blk s i ≤ s.size := by
  unfold blk; simpa using spanEnd_le (p := blankB) (l := s.data.toList) (i := i) (by simpa using h)
theorem blk_drop (s : ByteArray) (i : Nat) : s.data.toList.drop (blk s i) = blanksR (s.data.toList.drop i) := drop_spanEnd _ _ _
theorem over_at (s : ByteArray) (i : Nat) : overB (s.data.toList.drop i) = (decide (s.size ≤ blk s i) || markB s (blk s i) 44) := by
  unfold overB
  rw [← blk_drop]
  by_cases h : s.size ≤ blk s i
  · rw [List.drop_eq_nil_of_le (by simpa using h)]; simp [h, stopB]
  · have hlt : blk s i < s.data.toList.length := by simpa using h
    rw [List.drop_eq_getElem_cons hlt, decide_eq_false h, Bool.false_or]
    unfold stopB markB
    rw [List.getElem?_eq_getElem hlt, Bool.eq_iff_iff]
    simp
theorem goTo_at {k n : Nat} (h : k ≤ n) : goTo (k : Int) n = k := by unfold goTo; omega

set_option maxHeartbeats 1000000 in
theorem over_any (b c i : Nat) (s : ByteArray) (v : Value) (w : World) (hr : RdrAt w b c s v) (h : CurAt w c s i) (hs : s.size ≤ maxLen) (hi : i ≤ s.size) :
    Calls Tryz.prog 113 #[.pointer (some ⟨b, 0, none⟩)] w fun e w' => e = .returned (.bool (overB (s.data.toList.drop i))) ∧ CurAt w' c s (blk s i) ∧ Fr (one c) w w' := by
  have q0 := hr.cell0
  have hb := blk_le hi
  have HO := Lib.hid (over_at s i)
  generalize hK : blk s i = K at *
  have HK := Lib.hid hK
  clear hK
  go_enter Tryz.func113, Tryz.ntmps113
  go_wp2_with fail
  refine (Blanks_any c s i w h hs hi).mono ?_
  rintro e w1 ⟨rfl, hc1, hf1⟩
  replace hc1 : CurAt w1 c s (blk s i) := hc1
  rw [HK.out] at hc1
  have hr1 := hr.one h hf1
  have q1 := hr1.cell0
  clear q0
  go_wp2_with fail
  refine (At_any c s K w1 hc1).mono ?_
  rintro e w2 ⟨rfl, rfl⟩
  go_wp2_with fail
  refine (End_any c s K w1 hc1).mono ?_
  rintro e w3 ⟨rfl, n3, rfl⟩
  have hc3 : CurAt (w1.drewN n3) c s K := hc1.drewN n3
  have hf3 : Fr (one c) w (w1.drewN n3) := hf1.drewN n3
  have q3 := (hr1.drewN (n := n3)).cell0
  clear q1
  by_cases he : s.size ≤ K
  · have hd : decide (s.size ≤ K) = true := decide_eq_true he
    have HO2 := Lib.hid (show overB (s.data.toList.drop i) = true by rw [HO.out, hd]; rfl)
    rw [hd]
    clear HO
    go_wp2_with fail
    refine (Go_any c s K K (w1.drewN n3) hc3 hs).mono ?_
    rintro e w4 ⟨rfl, hc4, hf4⟩
    rw [goTo_at hb] at hc4
    go_wp2
    go_ret
    rw [HO2.out]
    exact ⟨rfl, hc4, hf3.trans hf4⟩
  · have hd : decide (s.size ≤ K) = false := decide_eq_false he
    have HO2 := Lib.hid (show overB (s.data.toList.drop i) = markB s K 44 by rw [HO.out, hd]; rfl)
    rw [hd]
    clear HO
    go_wp2_with fail
    refine (Mark_any c s K 44 (w1.drewN n3) hc3 hs).mono ?_
    rintro e w4 ⟨rfl, hc4, hf4⟩
    have q4 := ((hr1.drewN (n := n3)).one hc3 hf4).cell0
    clear q3
    go_wp2_with fail
    refine (Go_any c s _ K w4 hc4 hs).mono ?_
    rintro e w5 ⟨rfl, hc5, hf5⟩
    rw [goTo_at hb] at hc5
    go_wp2
    go_ret
    rw [HO2.out]
    exact ⟨rfl, hc5, (hf3.trans hf4).trans hf5⟩

/-- where a word ends -/
def wrd (s : ByteArray) (i : Nat) : Nat := spanEnd byteB s.data.toList i
theorem wrd_le {s : ByteArray} {i : Nat} (h : i ≤ s.size) : wrd s i ≤ s.size := by
  unfold wrd; simpa using spanEnd_le (p := byteB) (l := s.data.toList) (i := i) (by simpa using h)
theorem wrd_drop (s : ByteArray) (i : Nat) : s.data.toList.drop (wrd s i) = afterW (s.data.toList.drop i) := drop_spanEnd _ _ _
theorem wrd_text (s : ByteArray) (i : Nat) : s.extract i (wrd s i) = ⟨(wordR (s.data.toList.drop i)).toArray⟩ := extract_span _ _ _
theorem head_at (s : ByteArray) (k : Nat) (c : UInt8) : hdB c (s.data.toList.drop k) = markB s k c := by
  unfold markB
  rcases Nat.lt_or_ge k s.data.toList.length with h | h
  · rw [List.drop_eq_getElem_cons h, List.getElem?_eq_getElem h, Bool.eq_iff_iff]; simp [hdB]
  · rw [List.drop_eq_nil_of_le h, List.getElem?_eq_none h]; simp [hdB]
theorem named_at (s : ByteArray) (i : Nat) : namedB (s.data.toList.drop i) = (!(wordR (s.data.toList.drop i)).isEmpty && markB s (blk s (wrd s i)) 61) := by
  unfold namedB
  rw [← wrd_drop, ← blk_drop, head_at]
theorem toList_mk (l : Bs) : (⟨l.toArray⟩ : ByteArray).toList = l := by rw [Go.ByteArray.toList_eq]

set_option maxHeartbeats 1000000 in
theorem named_any' (b c i : Nat) (s : ByteArray) (v : Value) (w : World) (hr : RdrAt w b c s v) (h : CurAt w c s i) (hs : s.size ≤ maxLen) (hi : i ≤ s.size) :
    Calls Tryz.prog 116 #[.pointer (some ⟨b, 0, none⟩)] w fun e w' => e = .returned (.bool (namedB (s.data.toList.drop i))) ∧ CurAt w' c s i ∧ Fr (one c) w w' := by
  have q0 := hr.cell0
  have HN := Lib.hid (named_at s i)
  have hw := wrd_le hi
  go_enter Tryz.func116, Tryz.ntmps116
  go_wp2_with fail
  refine (At_any c s i w h).mono ?_
  rintro e w0 ⟨rfl, rfl⟩
  go_wp2_with fail
  refine (Word_any c s i w h hs hi).mono ?_
  rintro e w1 ⟨rfl, hc1, hf1⟩
  replace hc1 : CurAt w1 c s (wrd s i) := hc1
  rw [show s.extract i (spanEnd byteB s.data.toList i) = ⟨(wordR (s.data.toList.drop i)).toArray⟩ from wrd_text s i]
  generalize wrd s i = K at *
  generalize wordR (s.data.toList.drop i) = W at *
  have hr1 := hr.one h hf1
  have q1 := hr1.cell0
  clear q0
  go_wp2_with fail
  refine (Blanks_any c s K w1 hc1 hs hw).mono ?_
  rintro e w2 ⟨rfl, hc2, hf2⟩
  replace hc2 : CurAt w2 c s (blk s K) := hc2
  have hb := blk_le hw
  generalize blk s K = M at *
  have hr2 := hr1.one hc1 hf2
  have q2 := hr2.cell0
  have HF2 := Lib.hid (hf1.trans hf2)
  clear q1 hf1 hf2
  cases W with
  | nil =>
    have HN2 := Lib.hid (show namedB (s.data.toList.drop i) = false by rw [HN.out]; rfl)
    clear HN
    go_wp2_with fail
    refine (Go_any c s M i w2 hc2 hs).mono ?_
    rintro e w4 ⟨rfl, hc4, hf4⟩
    rw [goTo_at hi] at hc4
    go_wp2
    go_ret
    rw [HN2.out]
    exact ⟨rfl, hc4, HF2.out.trans hf4⟩
  | cons x W =>
    have HN2 := Lib.hid (show namedB (s.data.toList.drop i) = markB s M 61 by rw [HN.out]; rfl)
    clear HN
    go_wp2_with fail
    refine (Mark_any c s M 61 w2 hc2 hs).mono ?_
    rintro e w3 ⟨rfl, hc3, hf3⟩
    have q3 := (hr2.one hc2 hf3).cell0
    clear q2
    go_wp2_with fail
    refine (Go_any c s _ i w3 hc3 hs).mono ?_
    rintro e w4 ⟨rfl, hc4, hf4⟩
    rw [goTo_at hi] at hc4
    go_wp2
    go_ret
    rw [HN2.out]
    exact ⟨rfl, hc4, (HF2.out.trans hf3).trans hf4⟩
end Go.Proofs.YtkoobhgedoanhaaGreatDoor

namespace Go.Proofs.YtkoobhgedoanhaaGreatDoor
open Go.RowKit

/-- strings.TrimLeft by ASCII bytes -/
theorem TrimL_any (s cs : ByteArray) (w : World) (hcs : cs.size < 4294967281) (hascii : ∀ b ∈ cs.data.toList, b.toNat < 128) :
    Calls Tryz.prog 156 #[.string s, .string cs] w fun e w' => e = .returned (.string ⟨(s.data.toList.dropWhile (cs.data.toList.contains ·)).toArray⟩) ∧ Fr noB w w' := by
  refine (Any.strings_TrimLeft_laid Tryz.lays161 (by kernel_rfl) s cs w hcs (fun j b hj => hascii b (List.mem_of_getElem? hj))).mono ?_
  rintro e w' ⟨he, hb⟩
  exact ⟨he, Fr.of_below hb⟩
theorem wrap_in {x : Int} (h : -9223372036854775808 ≤ x) (h2 : x < 9223372036854775808) : IntKind.i64.wrap x = x := by
  simp [IntKind.wrap, IntKind.signed, IntKind.bits]; omega
def tokA : ByteArray := ⟨tokSet.toArray⟩
theorem tok_ascii : ∀ b ∈ tokA.data.toList, b.toNat < 128 := by decide +kernel

/-- how far the signs of a token reach; and the = behind -/
def sgN (s : ByteArray) (i : Nat) : Nat := (singleN (s.data.toList.drop i)).length
def sgM (s : ByteArray) (i : Nat) : Nat := (singleM (s.data.toList.drop i)).length
theorem sg_le (s : ByteArray) {i : Nat} (h : i ≤ s.size) : i + sgN s i + sgM s i ≤ s.size := by
  have h1 := split_len tokB (s.data.toList.drop i)
  have h2 := split_len eqB ((s.data.toList.drop i).dropWhile tokB)
  unfold sgN sgM singleN singleM
  simp at h1; omega
theorem drop_take {p : UInt8 → Bool} (l : Bs) (i : Nat) : l.drop (i + ((l.drop i).takeWhile p).length) = (l.drop i).dropWhile p := by
  rw [← List.drop_drop, ← dropWhile_eq_drop]
theorem sg_drop1 (s : ByteArray) (i : Nat) : s.data.toList.drop (i + sgN s i) = (s.data.toList.drop i).dropWhile tokB := drop_take _ _
theorem sg_drop2 (s : ByteArray) (i : Nat) : s.data.toList.drop (i + sgN s i + sgM s i) = singleZ (s.data.toList.drop i) := by
  unfold sgM singleM singleZ
  rw [← sg_drop1]
  exact drop_take _ _
theorem ext_data (s : ByteArray) (i : Nat) : (s.extract i s.size).data.toList = s.data.toList.drop i := by
  rw [Lib.extract_data, List.take_of_length_le (by simp)]
theorem sg_text (s : ByteArray) (i : Nat) : s.extract i (i + sgN s i + sgM s i) = ⟨(singleN (s.data.toList.drop i) ++ singleM (s.data.toList.drop i)).toArray⟩ := by
  apply Go.WideShapes.bytes_inj
  rw [Lib.extract_data]
  show _ = singleN (s.data.toList.drop i) ++ singleM (s.data.toList.drop i)
  have e1 : singleN (s.data.toList.drop i) ++ (singleM (s.data.toList.drop i) ++ singleZ (s.data.toList.drop i)) = s.data.toList.drop i := by
    unfold singleN singleM singleZ
    rw [List.takeWhile_append_dropWhile, List.takeWhile_append_dropWhile]
  have e2 : i + sgN s i + sgM s i - i = (singleN (s.data.toList.drop i) ++ singleM (s.data.toList.drop i)).length := by
    unfold sgN sgM; rw [List.length_append]; omega
  have key : ∀ (A B Z D : Bs), A ++ (B ++ Z) = D → D.take (A ++ B).length = A ++ B := by
    intro A B Z D h
    subst h
    rw [← List.append_assoc, List.take_left' rfl]
  rw [e2]
  exact key _ _ _ _ e1
def SinglePost (c i : Nat) (s : ByteArray) (w : World) (e : Ending) (w' : World) : Prop :=
  Fr (one c) w w' ∧ match singleR (s.data.toList.drop i) with
    | some q => e = .returned (.tuple #[.string ⟨q.1.toArray⟩, .bool true]) ∧ ∃ j, j ≤ s.size ∧ CurAt w' c s j ∧ s.data.toList.drop j = q.2
    | none => e = .returned (.tuple #[.string ⟨#[]⟩, .bool false]) ∧ CurAt w' c s i
theorem SinglePost.hit {c i j : Nat} {s : ByteArray} {w w' : World} {q : Bs × Bs} (h : singleR (s.data.toList.drop i) = some q) (hf : Fr (one c) w w') (hj : j ≤ s.size) (hc : CurAt w' c s j) (hd : s.data.toList.drop j = q.2) :
    SinglePost c i s w (.returned (.tuple #[.string ⟨q.1.toArray⟩, .bool true])) w' := by
  refine ⟨hf, ?_⟩
  rw [h]; exact ⟨rfl, j, hj, hc, hd⟩
theorem SinglePost.no {c i : Nat} {s : ByteArray} {w w' : World} (h : singleR (s.data.toList.drop i) = none) (hf : Fr (one c) w w') (hc : CurAt w' c s i) :
    SinglePost c i s w (.returned (.tuple #[.string ⟨#[]⟩, .bool false])) w' := by
  refine ⟨hf, ?_⟩
  rw [h]; exact ⟨rfl, hc⟩
theorem Fr.ofNone {S : Nat → Prop} {w w' : World} (h : Fr noB w w') : Fr S w w' := h.mono (fun _ _ h => absurd h (fun h => h))

set_option maxRecDepth 100000 in
set_option maxHeartbeats 4000000 in
theorem single_any (b c i : Nat) (s : ByteArray) (v : Value) (w : World) (hr : RdrAt w b c s v) (h : CurAt w c s i) (hs : s.size < 100000) (hi : i ≤ s.size) :
    Calls Tryz.prog 114 #[.pointer (some ⟨b, 0, none⟩)] w (SinglePost c i s w) := by
  have hm : s.size ≤ maxLen := by unfold maxLen; omega
  have q0 := hr.cell0
  have q1 := hr.cell1
  have hle := sg_le s hi
  have HD1 := Lib.hid (sg_drop1 s i)
  have HD2 := Lib.hid (sg_drop2 s i)
  have HT := Lib.hid (sg_text s i)
  have HR := Lib.hid (show singleR (s.data.toList.drop i) = if decide (0 < sgN s i) && overB (s.data.toList.drop (i + sgN s i + sgM s i)) then some (singleN (s.data.toList.drop i) ++ singleM (s.data.toList.drop i), blanksR (s.data.toList.drop (i + sgN s i + sgM s i))) else none by
    unfold singleR
    rw [sg_drop2]
    have : (!(singleN (s.data.toList.drop i)).isEmpty) = decide (0 < sgN s i) := by
      unfold sgN
      cases singleN (s.data.toList.drop i) <;> simp
    rw [this])
  have T1 := Lib.hid (show ∀ U, Calls Tryz.prog 156 #[.string (s.extract i s.size), .string tokA] U fun e w' => e = .returned (.string (s.extract (i + sgN s i) s.size)) ∧ Fr noB U w' from fun U => by
    have e1 : s.extract (i + sgN s i) s.size = ⟨((s.extract i s.size).data.toList.dropWhile (tokA.data.toList.contains ·)).toArray⟩ := by
      apply Go.WideShapes.bytes_inj
      rw [ext_data, ext_data, sg_drop1]
      rfl
    rw [e1]
    exact TrimL_any _ _ U (by decide) tok_ascii)
  have T2 := Lib.hid (show ∀ U, Calls Tryz.prog 156 #[.string (s.extract (i + sgN s i) s.size), .string ⟨#[61]⟩] U fun e w' => e = .returned (.string (s.extract (i + sgN s i + sgM s i) s.size)) ∧ Fr noB U w' from fun U => by
    have e1 : s.extract (i + sgN s i + sgM s i) s.size = ⟨((s.extract (i + sgN s i) s.size).data.toList.dropWhile ((⟨#[61]⟩ : ByteArray).data.toList.contains ·)).toArray⟩ := by
      apply Go.WideShapes.bytes_inj
      rw [ext_data, ext_data, sg_drop1, sg_drop2]
      rfl
    rw [e1]
    exact TrimL_any _ _ U (by decide) (by decide))
  generalize hN : sgN s i = N at *
  generalize hM : sgM s i = M at *
  clear hN hM
  generalize singleN (s.data.toList.drop i) ++ singleM (s.data.toList.drop i) = TX at *
  have hJ1 : i ≤ i + N := by omega
  have hJ2 : i + N ≤ i + N + M := by omega
  have hJN : i + N - i = N := by omega
  have hLM : i + N + M - (i + N) = M := by omega
  generalize hL : i + N + M = L at *
  generalize hJ : i + N = J at *
  have E1 := Lib.hid hJ
  have E2 := Lib.hid hL
  clear hL hJ
  have HNM := Lib.hid (And.intro hJN hLM)
  clear hJN hLM
  have hz1 : (s.extract i s.size).size = s.size - i := by rw [ByteArray.size_extract]; omega
  have hz2 : (s.extract J s.size).size = s.size - J := by rw [ByteArray.size_extract]; omega
  have hz3 : (s.extract L s.size).size = s.size - L := by rw [ByteArray.size_extract]; omega
  have W1 := Lib.hid (show IntKind.i64.wrap (((s.size - i : Nat) : Int) - ((s.size - J : Nat) : Int)) = (N : Int) by
    have e := HNM.out.1
    rw [show (((s.size - i : Nat) : Int) - ((s.size - J : Nat) : Int)) = (N : Int) from by omega]
    exact wrap_in (by omega) (by omega))
  have W2 := Lib.hid (show IntKind.i64.wrap (((s.size - J : Nat) : Int) - ((s.size - L : Nat) : Int)) = (M : Int) by
    have e := HNM.out.2
    rw [show (((s.size - J : Nat) : Int) - ((s.size - L : Nat) : Int)) = (M : Int) from by omega]
    exact wrap_in (by omega) (by omega))
  have W3 := Lib.hid (show IntKind.i64.wrap ((i : Int) + (N : Int)) = (J : Int) by
    have e := HNM.out.1
    rw [show ((i : Int) + (N : Int)) = (J : Int) from by omega]
    exact wrap_in (by omega) (by omega))
  have W4 := Lib.hid (show IntKind.i64.wrap ((J : Int) + (M : Int)) = (L : Int) by
    have e := HNM.out.2
    rw [show ((J : Int) + (M : Int)) = (L : Int) from by omega]
    exact wrap_in (by omega) (by omega))
  have HRC := Lib.hid (show ∀ U, Fr noB w U → RdrAt U b c s v ∧ CurAt U c s i from fun U hU => ⟨hr.fr hU (fun h => h), h.fr hU (fun h => h)⟩)
  go_enter Tryz.func114, Tryz.ntmps114
  go_wp2_with fail
  refine (At_any c s i w h).mono ?_
  rintro e w0 ⟨rfl, rfl⟩
  have b1 : (0 : Int) ≤ (i : Int) := by omega
  have b2 : (i : Int) ≤ (s.size : Int) := by omega
  go_wp2_with fail
  go_region_held3 (fun U => U.cell? ⟨b, 1, none⟩ = some (.string s)) ((refine (HRC.out _ ?_).1.cell1; repeat (first | exact Fr.refl _ _ | apply Fr.alloc | apply Fr.drew | refine Fr.trans ?_ (by assumption)))) ((go_at_call 156; refine (T1.out _).mono ?_; rintro e v1 ⟨rfl, hv1⟩))
  rw [W1.out]
  obtain ⟨hr1, hc1⟩ := HRC.out v1 (by repeat (first | exact Fr.refl _ _ | apply Fr.alloc | apply Fr.drew | apply Fr.drewN | refine Fr.trans ?_ (by assumption)))
  have HF1 := Lib.hid (show Fr noB w v1 from (by repeat (first | exact Fr.refl _ _ | apply Fr.alloc | apply Fr.drew | apply Fr.drewN | refine Fr.trans ?_ (by assumption))))
  clear hv1
  have q1 := hr1.cell1
  have b3 : (0 : Int) ≤ (J : Int) := by omega
  have b4 : (J : Int) ≤ (s.size : Int) := by omega
  have w3 := W3.out
  go_wp2_with fail
  go_region_held3 (fun U => U.cell? ⟨b, 1, none⟩ = some (.string s)) ((refine (HRC.out _ ?_).1.cell1; repeat (first | exact Fr.refl _ _ | exact HF1.out | apply Fr.alloc | apply Fr.drew | refine Fr.trans ?_ (by assumption)))) ((go_at_call 156; refine (T2.out _).mono ?_; rintro e v2 ⟨rfl, hv2⟩))
  rw [W2.out]
  obtain ⟨hr2, hc2⟩ := HRC.out v2 (by repeat (first | exact Fr.refl _ _ | exact HF1.out | apply Fr.alloc | apply Fr.drew | apply Fr.drewN | refine Fr.trans ?_ (by assumption)))
  have HF2 := Lib.hid (show Fr noB w v2 from (by repeat (first | exact Fr.refl _ _ | exact HF1.out | apply Fr.alloc | apply Fr.drew | apply Fr.drewN | refine Fr.trans ?_ (by assumption))))
  clear hv2 q1 hr1 hc1
  have q0 := hr2.cell0
  have q1 := hr2.cell1
  have w4 := W4.out
  go_wp2_with fail
  refine (Go_any c s i L v2 hc2 hm).mono ?_
  rintro e v3 ⟨rfl, hc3, hf3⟩
  rw [goTo_at hle] at hc3
  have hr3 := hr2.one hc2 hf3
  have HF3 := Lib.hid (HF2.out.ofNone.trans hf3)
  have q0 := hr3.cell0
  have q1 := hr3.cell1
  by_cases hn0 : 0 < N
  · have n0 : (0 : Int) < (N : Int) := by omega
    rw [decide_eq_true hn0, Bool.true_and] at HR
    go_wp2_with fail
    refine (over_any b c L s v v3 hr3 hc3 hm hle).mono ?_
    rintro e v4 ⟨rfl, hc4, hf4⟩
    have hr4 := hr3.one hc3 hf4
    have q0 := hr4.cell0
    have q1 := hr4.cell1
    have HBD := Lib.hid (blk_drop s L)
    have hbl := blk_le (s := s) hle
    cases ho : overB (s.data.toList.drop L)
    · rw [ho] at HR
      go_wp2_with fail
      refine (Go_any c s _ i v4 hc4 hm).mono ?_
      rintro e v5 ⟨rfl, hc5, hf5⟩
      rw [goTo_at hi] at hc5
      go_wp2
      go_ret2
      exact SinglePost.no (by rw [HR.out]; rfl) ((HF3.out.trans hf4).trans hf5) hc5
    · rw [ho] at HR
      have b5 : (i : Int) ≤ (L : Int) := by omega
      have b6 : (L : Int) ≤ (s.size : Int) := by omega
      have b7 : (0 : Int) ≤ (L : Int) := by omega
      go_wp2
      go_ret2
      rw [HT.out]
      exact SinglePost.hit (q := (TX, blanksR (s.data.toList.drop L))) (by rw [HR.out]; rfl) (HF3.out.trans hf4) hbl hc4 HBD.out
  · have n0 : ¬ (0 : Int) < (N : Int) := by omega
    rw [decide_eq_false hn0, Bool.false_and] at HR
    go_wp2_with fail
    refine (Go_any c s _ i v3 hc3 hm).mono ?_
    rintro e v5 ⟨rfl, hc5, hf5⟩
    rw [goTo_at hi] at hc5
    go_wp2
    go_ret2
    exact SinglePost.no (by rw [HR.out]; rfl) (HF3.out.trans hf5) hc5
end Go.Proofs.YtkoobhgedoanhaaGreatDoor

namespace Go.Proofs.YtkoobhgedoanhaaGreatDoor
open Go.RowKit

/-- stands at the operation o, or fails at once -/
theorem wpList_at {P : Program} {ops : Array Oper} {rest : List Oper} {a : Act} {w : World} {Q : Exit → Act → World → Prop} (o : Oper) (h : wpList P ops Q (o :: rest) a w) : wpList P ops Q (o :: rest) a w := h
/-- the same, in a region that draws its order -/
theorem step_at {P : Program} {ops : Array Oper} {a : Act} {w : World} {K : Act → World → Prop} {Q : Exit → Act → World → Prop} {E : Prop} (o : Oper) (h : if Region.wanted o (yielded ops a.tmps) = true then Oper.wp P o a w K Q else E) : if Region.wanted o (yielded ops a.tmps) = true then Oper.wp P o a w K Q else E := h
/-- a call of a Go function by its contract, in a region that draws its order -/
theorem step_call {P : Program} {ops : Array Oper} {a : Act} {w : World} {K : Act → World → Prop} {Q : Exit → Act → World → Prop} {E : Prop} {o : Oper} (hgd : o.guard = none) (f : FuncId) (args : Array Value) (hrun : (execOp a.eval o).run P w = .ok (.enter f args) w) {Post : Ending → World → Prop} (hc : Calls P f args w Post)
    (h : ∀ e w', Post e w' → ∃ v, e = .returned v ∧ K (a.put o.dst v) w') : if Region.wanted o (yielded ops a.tmps) = true then Oper.wp P o a w K Q else E := by
  have hw : Region.wanted o (yielded ops a.tmps) = true := by simp [Region.wanted, hgd]
  rw [if_pos hw]
  unfold Oper.wp
  rw [hrun, Oper.upon_enter]
  refine hc.mono fun e w' hh => ?_
  obtain ⟨v, rfl, hk⟩ := h e w' hh
  exact hk
theorem setRow_alloc (w : World) (old cells : Array Value) (t : TypeId) : (w.alloc (.cells old t)).setRow w.heap.size cells = w.alloc (.cells cells t) := by
  unfold World.setRow World.alloc
  congr 1
  apply Array.ext
  · simp
  · intro k h1 h2
    simp only [Array.getElem_modify]
    by_cases hk : w.heap.size = k
    · subst hk; simp
    · have : k < w.heap.size := by simp at h2; omega
      simp [hk, Array.getElem_push, this]
/-- x := a struct's value, x's block just laid -/
theorem wpList_store_new {P : Program} {ops : Array Oper} {rest : List Oper} {o : Oper} {a : Act} {w : World} {Q : Exit → Act → World → Prop} (hgd : o.guard = none) (ty : TypeId) (x y : Operand) (ho : o.op = .store ty x y) (old : Array Value)
    (cells : Array Value) (hx : a.eval x = .pointer (some ⟨w.heap.size, 0, none⟩)) (hy : a.eval y = .agg cells)
    (hi : (P.info? ty).map (·.size) = some cells.size) (hold : old.size = cells.size) (h1 : cells.all (·.oneCell') = true)
    (h : wpList P ops Q rest (a.put o.dst undef) (w.alloc (.cells cells ty))) : wpList P ops Q (o :: rest) a (w.alloc (.cells old ty)) := by
  refine wpList_store_row hgd ty x y ho w.heap.size cells hx hy ty old (new_block w _) hi hold h1 ?_
  rw [setRow_alloc]
  exact h
/-- .. as the walk meets it -/
theorem run_storeCells_new {P : Program} (w : World) (t : TypeId) (old : Array Value) (x : List Value) (hold : old.size = x.length) (h1 : ∀ u ∈ x, u.oneCell' = true) :
    Sem.run P (storeCells ⟨w.heap.size, 0, none⟩ x 0) (w.alloc (.cells old t)) = .ok () (w.alloc (.cells x.toArray t)) := by
  have h := run_storeCells_from (P := P) w.heap.size t x 0 old (w.alloc (.cells old t)) (new_block w _) (by omega) h1
  rw [h, List.take_zero, List.nil_append, setRow_alloc]
theorem one_all {k : Nat} {xs : List (List Value)} (h : ∀ x ∈ xs, x.length = k ∧ ∀ u ∈ x, u.oneCell' = true) {x : List Value} (hx : x ∈ xs) : x.toArray.all (·.oneCell') = true := all_oneCell_toArray (h x hx).2

theorem setCell_heap {w : World} {b : Nat} {cur : Array Value} {t : TypeId} {f : Nat × Nat} (h : w.heap[b]? = some (.cells cur t f)) (o : Nat) (v : Value) : (w.setCell ⟨b, o, none⟩ v).heap[b]? = some (.cells (cur.setIfInBounds o v) t f) := by
  simp [World.setCell, Array.getElem?_modify, h]
theorem setCell_other {w : World} {b g : Nat} (hg : g ≠ b) (o : Nat) (v : Value) : (w.setCell ⟨b, o, none⟩ v).heap[g]? = w.heap[g]? := Below.heap_setCell _ _ _ _ hg
theorem setCells_size (b : Nat) : ∀ (vs : List Value) (o : Nat) (w : World), (w.setCells b o vs).heap.size = w.heap.size
  | [], _, _ => rfl
  | v :: r, o, w => by rw [World.setCells, setCells_size b r]; simp [World.setCell]
theorem setCells_other {b g : Nat} (hg : g ≠ b) : ∀ (vs : List Value) (o : Nat) (w : World), (w.setCells b o vs).heap[g]? = w.heap[g]?
  | [], _, _ => rfl
  | v :: r, o, w => by rw [World.setCells, setCells_other hg r, setCell_other hg]
theorem setCells_heap {b : Nat} {t : TypeId} {f : Nat × Nat} : ∀ (vs : List Value) (o : Nat) (w : World) (cur : Array Value), w.heap[b]? = some (.cells cur t f) → o + vs.length ≤ cur.size →
    (w.setCells b o vs).heap[b]? = some (.cells (cur.toList.take o ++ vs ++ cur.toList.drop (o + vs.length)).toArray t f)
  | [], o, w, cur, h, hl => by
    rw [World.setCells, h]
    simp
  | v :: r, o, w, cur, h, hl => by
    simp only [List.length_cons] at hl
    rw [World.setCells, setCells_heap r (o + 1) _ _ (setCell_heap h o v) (by simp; omega)]
    congr 3
    simp only [Array.toList_setIfInBounds, List.length_cons]
    have h1 : (cur.toList.set o v).take (o + 1) = cur.toList.take o ++ [v] := by
      have hlt : o < cur.toList.length := by simp; omega
      rw [List.take_add_one, List.getElem?_set_self hlt, List.take_set_of_le (Nat.le_refl o)]
      rfl
    have h2 : (cur.toList.set o v).drop (o + 1 + r.length) = cur.toList.drop (o + (r.length + 1)) := by
      rw [List.drop_set_of_lt (by omega)]
      congr 1; omega
    rw [h1, h2]
    simp
theorem Fr.setCells {S : Nat → Prop} {a w : World} (h : Fr S a w) {b : Nat} (hb : b < a.heap.size → S b) : ∀ (vs : List Value) (o : Nat), Fr S a (w.setCells b o vs) := by
  intro vs
  induction vs generalizing w with
  | nil => intro o; exact h
  | cons v r ih => intro o; exact ih (h.setCell (p := ⟨b, o, none⟩) hb v) (o + 1)
/-- what a slice literal of one struct lays -/
theorem fold_zip_from : ∀ (y : List Value) (i : Nat) (z : Array Value), i + y.length ≤ z.size → List.foldl (fun cs x => cs.setIfInBounds x.snd x.fst) z (y.zipIdx i) = (z.toList.take i ++ y ++ z.toList.drop (i + y.length)).toArray
  | [], i, z, _ => by simp
  | v :: r, i, z, hl => by
    simp only [List.length_cons] at hl
    rw [List.zipIdx_cons, List.foldl_cons, fold_zip_from r (i + 1) _ (by simp; omega)]
    congr 1
    simp only [Array.toList_setIfInBounds, List.length_cons]
    have h1 : (z.toList.set i v).take (i + 1) = z.toList.take i ++ [v] := by
      have hlt : i < z.toList.length := by simp; omega
      rw [List.take_add_one, List.getElem?_set_self hlt, List.take_set_of_le (Nat.le_refl i)]
      rfl
    have h2 : (z.toList.set i v).drop (i + 1 + r.length) = z.toList.drop (i + (r.length + 1)) := by
      rw [List.drop_set_of_lt (by omega)]
      congr 1; omega
    rw [h1, h2]
    simp
theorem fold_zip (y : List Value) (z : Array Value) (h : z.size = y.length) : List.foldl (fun cs x => cs.setIfInBounds x.snd x.fst) z y.zipIdx = y.toArray := by
  rw [fold_zip_from y 0 z (by omega), List.take_zero, List.nil_append, List.drop_eq_nil_of_le (by simp; omega), List.append_nil]
theorem flatten_set {k : Nat} : ∀ {xs : List (List Value)} (_ : ∀ x ∈ xs, x.length = k) {i : Nat} {y : List Value} (_ : i < xs.length), (xs.set i y).flatten = xs.flatten.take (i * k) ++ y ++ xs.flatten.drop (i * k + k)
  | [], _, i, y, hi => absurd hi (Nat.not_lt_zero _)
  | x :: xs, hl, 0, y, hi => by
    have hx := hl x (by simp)
    simp only [List.set_cons_zero, List.flatten_cons, Nat.zero_mul, List.take_zero, List.nil_append, Nat.zero_add]
    rw [List.drop_append_of_le_length (by omega), List.drop_eq_nil_of_le (by omega)]
    simp
  | x :: xs, hl, i + 1, y, hi => by
    have hx := hl x (by simp)
    have ih := flatten_set (k := k) (xs := xs) (fun z hz => hl z (List.mem_cons_of_mem _ hz)) (i := i) (y := y) (by simpa using hi)
    have e1 : (i + 1) * k = x.length + i * k := by rw [Nat.succ_mul, hx]; omega
    simp only [List.set_cons_succ, List.flatten_cons, ih, e1]
    rw [List.take_length_add_append, show x.length + i * k + k = x.length + (i * k + k) from by omega, List.drop_length_add_append]
    simp
theorem flatten_take {k : Nat} : ∀ {xs : List (List Value)} (_ : ∀ x ∈ xs, x.length = k) (i : Nat), (xs.take i).flatten = xs.flatten.take (i * k)
  | [], _, i => by simp
  | x :: xs, hl, 0 => by simp
  | x :: xs, hl, i + 1 => by
    have hx := hl x (by simp)
    have ih := flatten_take (k := k) (xs := xs) (fun z hz => hl z (List.mem_cons_of_mem _ hz)) i
    rw [List.take_succ_cons, List.flatten_cons, ih, List.flatten_cons, show (i + 1) * k = x.length + i * k from by rw [Nat.succ_mul, hx]; omega, List.take_length_add_append]
theorem splice_take (L : List Value) (a n : Nat) (y : List Value) (ham : a + y.length ≤ n) (hn : n ≤ L.length) : (L.take a ++ y ++ L.drop (a + y.length)).take n = (L.take n).take a ++ y ++ (L.take n).drop (a + y.length) := by
  have hA : (L.take a ++ y).length = a + y.length := by rw [List.length_append, List.length_take]; omega
  rw [List.take_append, List.take_of_length_le (by omega), hA, List.take_take, Nat.min_eq_left (by omega), List.drop_take]
theorem splice_take2 (L : List Value) (a : Nat) (y : List Value) (ham : a + y.length ≤ L.length) : (L.take a ++ y ++ L.drop (a + y.length)).take (a + y.length) = L.take a ++ y := by
  have hA : (L.take a ++ y).length = a + y.length := by rw [List.length_append, List.length_take]; omega
  rw [List.take_append_of_le_length (by omega), List.take_of_length_le (by omega)]
/-- rows of the call's own that lie in a block: it, whole -/
theorem OwnRows.open {base k : Nat} {e : TypeId} {w : World} {v : Value} {xs : List (List Value)} (h : OwnRows base e k w v xs) {g : Nat} (hg : v.ownBlock = some g) :
    ∃ cap cur, v = .slice (some ⟨g, 0, none⟩) xs.length cap ∧ base ≤ g ∧ w.heap[g]? = some (.cells cur e (0, 0)) ∧ xs.length ≤ cap ∧ cap ≤ maxLen ∧ cur.size = cap * k ∧ cur.toList.take (xs.length * k) = xs.flatten := by
  rcases h.2.2 with ⟨hv, _⟩ | ⟨g', cap, cur, hv, h1, h2, h3, h4, h5, h6⟩
  · rw [hv] at hg; simp [Value.ownBlock] at hg
  · rw [hv] at hg; simp [Value.ownBlock] at hg; subst hg
    exact ⟨cap, cur, hv, h1, h2, h3, h4, h5, h6⟩
/-- l[i] = y, in rows of the call's own -/
theorem OwnRows.store {base k : Nat} {e : TypeId} {w : World} {v : Value} {xs : List (List Value)} (h : OwnRows base e k w v xs) {i : Nat} {y : List Value} (hi : i < xs.length) (hy : y.length = k) (hy1 : ∀ u ∈ y, u.oneCell' = true) {g : Nat} (hg : v.ownBlock = some g) :
    OwnRows base e k (w.setCells g (i * k) y) v (xs.set i y) := by
  obtain ⟨cap, cur, hv, h1, h2, h3, h4, h5, h6⟩ := h.open hg
  have hik : i * k + k ≤ xs.length * k := by have : (i + 1) * k ≤ xs.length * k := Nat.mul_le_mul_right _ hi; rw [Nat.succ_mul] at this; exact this
  have hck : xs.length * k ≤ cap * k := Nat.mul_le_mul_right _ h3
  have hxs : ∀ x ∈ xs, x.length = k := fun x hx => (h.1 x hx).1
  have hh := setCells_heap y (i * k) w cur h2 (by omega)
  have hA : (cur.toList.take (i * k)).length = i * k := by rw [List.length_take]; simp; omega
  have hflat : (xs.set i y).flatten = (cur.toList.take (i * k) ++ y ++ cur.toList.drop (i * k + y.length)).take (xs.length * k) := by
    rw [flatten_set hxs hi, ← h6, splice_take _ _ _ _ (by omega) (by simp; omega), hy]
  refine ⟨?_, ?_, Or.inr ⟨g, cap, _, by rw [List.length_set]; exact hv, h1, hh, by rw [List.length_set]; exact h3, h4, ?_, ?_⟩⟩
  · intro x hx
    rcases List.mem_or_eq_of_mem_set hx with hx | rfl
    · exact h.1 x hx
    · exact ⟨hy, hy1⟩
  · rw [hflat, List.length_set, List.length_take, Nat.min_eq_left]
    simp; omega
  · simp; omega
  · rw [List.length_set, hflat]
/-- append(l[:i], ys...) where there is room, or l[:i] (ys empty) -/
theorem OwnRows.splice {base k : Nat} {e : TypeId} {w : World} {v : Value} {xs : List (List Value)} (h : OwnRows base e k w v xs) {i : Nat} {ys : List (List Value)} (hi : i ≤ xs.length) (hy : ∀ y ∈ ys, y.length = k ∧ ∀ u ∈ y, u.oneCell' = true) {g cap : Nat}
    (hg : v = .slice (some ⟨g, 0, none⟩) xs.length cap) (hc : i + ys.length ≤ cap) : OwnRows base e k (w.setCells g (i * k) ys.flatten) (.slice (some ⟨g, 0, none⟩) (i + ys.length) cap) (xs.take i ++ ys) := by
  obtain ⟨cap', cur, hv, h1, h2, h3, h4, h5, h6⟩ := h.open (g := g) (by rw [hg]; rfl)
  rw [hg] at hv; cases hv
  have hys : ys.flatten.length = ys.length * k := flatten_len (fun y hm => (hy y hm).1)
  have hcl : cur.toList.length = cur.size := by simp
  have hik : i * k + ys.length * k ≤ cap * k := by rw [← Nat.add_mul]; exact Nat.mul_le_mul_right _ hc
  have hii : i * k ≤ xs.length * k := Nat.mul_le_mul_right _ hi
  have hh := setCells_heap ys.flatten (i * k) w cur h2 (by omega)
  have hlen : (xs.take i ++ ys).length = i + ys.length := by rw [List.length_append, List.length_take]; omega
  have hxs : ∀ x ∈ xs, x.length = k := fun x hx => (h.1 x hx).1
  have hflat : (xs.take i ++ ys).flatten = (cur.toList.take (i * k) ++ ys.flatten ++ cur.toList.drop (i * k + ys.flatten.length)).take ((i + ys.length) * k) := by
    rw [Nat.add_mul, ← hys, splice_take2 _ _ _ (by rw [hys]; omega), List.flatten_append, flatten_take hxs, ← h6, List.take_take, Nat.min_eq_left hii]
  refine ⟨?_, ?_, Or.inr ⟨g, cap, _, by rw [hlen], h1, hh, by rw [hlen]; exact hc, h4, ?_, ?_⟩⟩
  · intro x hx
    rcases List.mem_append.1 hx with hx | hx
    · exact h.1 x (List.mem_of_mem_take hx)
    · exact hy x hx
  · rw [hflat, hlen, List.length_take, Nat.min_eq_left]
    rw [List.length_append, List.length_append, List.length_take, List.length_drop, hys, Nat.add_mul]; omega
  · rw [List.size_toArray, List.length_append, List.length_append, List.length_take, List.length_drop, hys]; omega
  · rw [hlen, hflat]
theorem OwnRows.cut {base k : Nat} {e : TypeId} {w : World} {v : Value} {xs : List (List Value)} (h : OwnRows base e k w v xs) {i : Nat} (hi : i ≤ xs.length) {g cap : Nat} (hg : v = .slice (some ⟨g, 0, none⟩) xs.length cap) : OwnRows base e k w (.slice (some ⟨g, 0, none⟩) i cap) (xs.take i) := by
  obtain ⟨cap', cur, hv, h1, h2, h3, h4, h5, h6⟩ := h.open (g := g) (by rw [hg]; rfl)
  have hc : cap = cap' := by rw [hg] at hv; cases hv; rfl
  have := h.splice (i := i) (ys := []) hi (fun y hy => by cases hy) hg (by simp; omega)
  simpa [World.setCells] using this
/-- what lies behind the first i rows is none of theirs -/
theorem OwnRows.behind {base k : Nat} {e : TypeId} {w : World} {v : Value} {xs : List (List Value)} (h : OwnRows base e k w v xs) {o : Nat} {vs : List Value} (ho : xs.length * k ≤ o) {g cap : Nat}
    (hg : v = .slice (some ⟨g, 0, none⟩) xs.length cap) (hc : o + vs.length ≤ cap * k) : OwnRows base e k (w.setCells g o vs) v xs := by
  obtain ⟨cap', cur, hv, h1, h2, h3, h4, h5, h6⟩ := h.open (g := g) (by rw [hg]; rfl)
  rw [hg] at hv; cases hv
  have hh := setCells_heap vs o w cur h2 (by omega)
  refine ⟨h.1, h.2.1, Or.inr ⟨g, cap, _, hg, h1, hh, h3, h4, by simp; omega, ?_⟩⟩
  have hA : xs.length * k ≤ (cur.toList.take o).length := by rw [List.length_take]; simp; omega
  rw [List.append_assoc]
  show List.take (xs.length * k) (List.take o cur.toList ++ (vs ++ List.drop (o + vs.length) cur.toList)) = _
  rw [List.take_append_of_le_length hA, List.take_take, Nat.min_eq_left ho, h6]
/-- the cells from row i on are there, and free -/
theorem OwnRows.there {base k : Nat} {e : TypeId} {w : World} {v : Value} {xs : List (List Value)} (h : OwnRows base e k w v xs) {g cap : Nat} (hg : v = .slice (some ⟨g, 0, none⟩) xs.length cap) {o n : Nat} (hn : o + n ≤ cap * k) : w.there g o n := by
  obtain ⟨cap', cur, hv, h1, h2, h3, h4, h5, h6⟩ := h.open (g := g) (by rw [hg]; rfl)
  rw [hg] at hv; cases hv
  intro j hj
  constructor
  · simp only [World.cell?, h2]
    rw [Array.getElem?_eq_getElem (by omega)]; rfl
  · simp [World.frozen?, h2]
/-- two results, the first a struct in its block -/
theorem results_cell_tmp {P : Program} {fn : Func} {p q : Tmp} {ty : TypeId} (h : fn.results = #[.cell p ty, .tmp q]) (tmps : Array Value) (w : World) (g : Nat) (t : TypeId) (cs : Array Value) (fr : Nat × Nat) (d : TypeDesc)
    (hp : tmps.getD p undef = .pointer (some ⟨g, 0, none⟩)) (hg : w.heap[g]? = some (.cells cs t fr))
    (hu : P.underlying ty = some d) (hd : (match d with | .struct _ | .array _ _ => true | _ => false) = true) (hi : (P.info? ty).map (·.size) = some cs.size) :
    (results fn tmps).run P w = .ok (.tuple #[.agg cs, tmps.getD q undef]) w := by
  have hp' : tmps[p]?.getD undef = .pointer (some ⟨g, 0, none⟩) := by simpa using hp
  simp [results, h, hp', asAddr, run_loadVar_row w g t ty cs fr d hg hu hd hi]
theorem new_cells (w : World) (y : List Value) (t : TypeId) : ∀ j u, y[j]? = some u → (w.alloc (.cells y.toArray t)).cell? ((⟨w.heap.size, 0, none⟩ : Addr).add j) = some u := by
  intro j u hj
  have ea : (Addr.add ⟨w.heap.size, 0, none⟩ j) = ⟨w.heap.size, j, none⟩ := by unfold Addr.add; split <;> simp_all
  rw [ea, World.cell?_alloc_mark]
  simpa using hj
end Go.Proofs.YtkoobhgedoanhaaGreatDoor
