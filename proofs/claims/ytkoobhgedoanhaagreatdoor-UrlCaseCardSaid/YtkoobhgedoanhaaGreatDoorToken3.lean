/- Walks over the package token: texts between marks. -/
import Derived.Test.YtkoobhgedoanhaaGreatDoorToken2
import Derived.Test.YtkoobhgedoanhaaGreatDoorBytes
namespace Go.Proofs.YtkoobhgedoanhaaGreatDoor
open Go.RowKit

/-- what stands between marks: the text, and what is left behind the closing mark -/
def qgo : List UInt8 → Option (List UInt8 × List UInt8)
  | [] => none
  | x :: r =>
    if x == 34 then some ([], r)
    else if x == 92 then
      match r with
      | [] => none
      | y :: r' => if textB y then (qgo r').map (fun p => (y :: p.1, p.2)) else none
    else if textB x then (qgo r).map (fun p => (x :: p.1, p.2)) else none

/-- .. from byte k on, behind the text a -/
def qres (l : List UInt8) (k : Nat) (a : List UInt8) : Option (List UInt8 × Nat) := (qgo (l.drop k)).map (fun p => (a ++ p.1, l.length - p.2.length))

theorem qres_end {l : List UInt8} {k : Nat} {a : List UInt8} (h : l[k]? = none) : qres l k a = none := by
  unfold qres; rw [drop_off h]; simp [qgo]
theorem qres_mark {l : List UInt8} {k : Nat} {a : List UInt8} (h : l[k]? = some 34) : qres l k a = some (a, k + 1) := by
  have hk := (List.getElem?_eq_some_iff.1 h).1
  unfold qres; rw [drop_at h, qgo.eq_def]; simp; omega
theorem qres_text {l : List UInt8} {k : Nat} {a : List UInt8} {x : UInt8} (h : l[k]? = some x) (h1 : (x == 34) = false) (h2 : (x == 92) = false) (h3 : textB x = true) : qres l k a = qres l (k + 1) (a ++ [x]) := by
  unfold qres; rw [drop_at h]
  rw [qgo.eq_def]; simp only [h1, h2, h3, Bool.false_eq_true, if_false, if_true]
  cases qgo (l.drop (k + 1)) <;> simp
theorem qres_bad {l : List UInt8} {k : Nat} {a : List UInt8} {x : UInt8} (h : l[k]? = some x) (h1 : (x == 34) = false) (h2 : (x == 92) = false) (h3 : textB x = false) : qres l k a = none := by
  unfold qres; rw [drop_at h]
  rw [qgo.eq_def]; simp only [h1, h2, h3, Bool.false_eq_true, if_false, Option.map_none]
theorem qres_last {l : List UInt8} {k : Nat} {a : List UInt8} (h : l[k]? = some 92) (h1 : l[k + 1]? = none) : qres l k a = none := by
  unfold qres; rw [drop_at h, drop_off h1, qgo.eq_def]; simp
theorem qres_esc {l : List UInt8} {k : Nat} {a : List UInt8} {y : UInt8} (h : l[k]? = some 92) (h1 : l[k + 1]? = some y) (h3 : textB y = true) : qres l k a = qres l (k + 2) (a ++ [y]) := by
  unfold qres; rw [drop_at h, drop_at h1]
  rw [qgo.eq_def]; simp only [show ((92 : UInt8) == 34) = false from rfl, show ((92 : UInt8) == 92) = true from rfl, h3, Bool.false_eq_true, if_false, if_true]
  cases qgo (l.drop (k + 1 + 1)) <;> simp
theorem qres_escbad {l : List UInt8} {k : Nat} {a : List UInt8} {y : UInt8} (h : l[k]? = some 92) (h1 : l[k + 1]? = some y) (h3 : textB y = false) : qres l k a = none := by
  unfold qres; rw [drop_at h, drop_at h1]
  rw [qgo.eq_def]; simp only [show ((92 : UInt8) == 34) = false from rfl, show ((92 : UInt8) == 92) = true from rfl, h3, Bool.false_eq_true, if_false, if_true, Option.map_none]

/-- Quoted, as a whole: the text between marks that begins at i, and the place behind it -/
def quotedAt (l : List UInt8) (i : Nat) : Option (List UInt8 × Nat) := if l[i]? = some 34 then qres l (i + 1) [] else none
def quotedEnd (l : List UInt8) (i : Nat) : Nat := match quotedAt l i with | some p => p.2 | none => i
def quotedText (l : List UInt8) (i : Nat) : List UInt8 := match quotedAt l i with | some p => p.1 | none => []
def QuotedPost (b : Nat) (s : ByteArray) (i : Nat) (w : World) (e : Ending) (w' : World) : Prop :=
  e = .returned (.tuple #[.string ⟨(quotedText s.data.toList i).toArray⟩, .bool (quotedAt s.data.toList i).isSome]) ∧ CurAt w' b s (quotedEnd s.data.toList i) ∧ Fr (one b) w w'

theorem QuotedPost.none {b i : Nat} {s : ByteArray} {w w' : World} (h : quotedAt s.data.toList i = none) (hc : CurAt w' b s i) (hf : Fr (one b) w w') :
    QuotedPost b s i w (.returned (.tuple #[.string ⟨#[]⟩, .bool false])) w' := by
  refine ⟨?_, ?_, hf⟩
  · simp [quotedText, h]
  · simpa [quotedEnd, h] using hc
theorem QuotedPost.some {b i j : Nat} {s : ByteArray} {w w' : World} {a : List UInt8} (h : quotedAt s.data.toList i = some (a, j)) (hc : CurAt w' b s j) (hf : Fr (one b) w w') :
    QuotedPost b s i w (.returned (.tuple #[.string ⟨a.toArray⟩, .bool true])) w' := by
  refine ⟨?_, ?_, hf⟩
  · simp [quotedText, h]
  · simpa [quotedEnd, h] using hc

/-- at the head of a round -/
def QRel (b : Nat) (s : ByteArray) (i : Nat) (w : World) (v : Value) (wr : World) : Prop :=
  ∃ k a, k ≤ s.size ∧ a.length ≤ k ∧ CurAt wr b s k ∧ Bytes w.heap.size wr v a ∧ Fr (one b) w wr ∧ quotedAt s.data.toList i = qres s.data.toList k a

theorem q_next {b i k j : Nat} {s : ByteArray} {w wr wx w2 : World} {v v' : Value} {a l : List UInt8} (hlt : b < w.heap.size) (hcx : CurAt wx b s j) (hfx : Fr (one b) w wx) (hg : wx.grownBy w2 v.ownBlock)
    (hown : Bytes w.heap.size wr v a) (hown2 : Bytes w.heap.size w2 v' l) (hj : j ≤ s.size) (hl : l.length ≤ j) (hres : quotedAt s.data.toList i = qres s.data.toList j l) (hkj : k < j) (hpos : curPos wr b = k) :
    QRel b s i w v' w2 ∧ s.size - curPos w2 b < s.size - curPos wr b := by
  have hv := hown.block
  have hc2 : CurAt w2 b s j := by
    unfold CurAt at hcx ⊢
    rw [hg.block b (lt_of_some hcx) (fun e => by have := hv b e.symm; omega)]
    exact hcx
  refine ⟨⟨j, l, hj, hl, hc2, hown2, hfx.grown hg (fun k hk hs => by have := hv k hk; omega), hres⟩, ?_⟩
  rw [hpos, hc2.pos]; omega

set_option maxRecDepth 100000 in
set_option maxHeartbeats 1000000 in
theorem Quoted_any (b : Nat) (s : ByteArray) (i : Nat) (w : World) (h : CurAt w b s i) (hs : s.size < 70368744177664) :
    Calls Tryz.prog 47 #[.pointer (some ⟨b, 0, none⟩)] w (QuotedPost b s i w) := by
  have h0 := h.cell0
  have h1 := h.cell1
  have hm : s.size ≤ maxLen := by unfold maxLen; omega
  cases e1 : markB s i 34
  · have hq := Lib.hid (show quotedAt s.data.toList i = none by unfold quotedAt; rw [if_neg (by simpa [markB] using e1)])
    go_enter Tryz.func47, Tryz.ntmps47
    go_wp2_with fail
    refine (Mark_any b s i 34 w h hm).mono ?_
    rintro e w1 ⟨rfl, hc1, hf1⟩
    rw [markTo_no e1] at hc1
    rw [e1]
    clear e1 h0 h1
    have c0 := hc1.cell0
    have c1 := hc1.cell1
    have cf := hc1.free 1
    have hcb := hc1.blk
    go_wp2
    refine wp_loop_rounds 1 ?_
    rw [rounds_succ]
    go_wp2
    go_quiet (fail)
    go_wp2
    go_ret2
    exact QuotedPost.none hq.out (CurBlk.at (j := i) (by repeat (first | exact hcb | apply CurBlk.set | apply CurBlk.drewN))) (by repeat (first | exact hf1 | apply Fr.drewN | apply Fr.one_cell))
  · have hq := Lib.hid (show quotedAt s.data.toList i = qres s.data.toList (i + 1) [] by unfold quotedAt; rw [if_pos (by simpa [markB] using e1)])
    have hi1 : i + 1 ≤ s.size := by
      have : s.data.toList[i]? = some 34 := by simpa [markB] using e1
      have := (List.getElem?_eq_some_iff.1 this).1
      have h2 : i < s.size := by simpa using this
      omega
    go_enter Tryz.func47, Tryz.ntmps47
    go_wp2_with fail
    refine (Mark_any b s i 34 w h hm).mono ?_
    rintro e w1 ⟨rfl, hc1, hf1⟩
    rw [markTo_yes e1] at hc1
    rw [e1]
    clear e1 h0 h1
    go_wp2
    go_loopw [5] (QRel b s i w) (fun _ wr => s.size - curPos wr b)
    case atStart => exact ⟨i + 1, [], hi1, by simp, hc1, Bytes.nil _ _, hf1, hq.out⟩
    case round =>
      rename_i v wr
      obtain ⟨k, a, hk, ha, hc, hown, hfr, hres⟩ := hrel
      have HRES := Lib.hid hres
      clear hres
      have c0 := hc.cell0
      have c1 := hc.cell1
      have cf := hc.free 1
      have hcb := hc.blk
      have hpos := Lib.hid hc.pos
      obtain ⟨av, cv, hv⟩ := hown.form
      subst hv
      have hbB : b < w.heap.size := h.lt
      have htext : ∀ n u, (convert 95 9 (.slice av a.length cv)).run Tryz.prog ((wr.drewN n).setCell ⟨b, 1, none⟩ u) = .ok (.string ⟨a.toArray⟩) ((wr.drewN n).setCell ⟨b, 1, none⟩ u) := fun n u =>
        Bytes.text (Bytes.setCell (p := ⟨b, 1, none⟩) hbB (Bytes.drewN hown))
      have hlt : b < w.heap.size := h.lt
      have hbase : w.heap.size ≤ wr.heap.size := hfr.size
      by_cases hks : k < s.size
      · have hd : decide (k < s.size) = true := by simp [hks]
        have hat := Lib.hid (byte_at s k hks)
        generalize hx : s[k] = x at hat
        cases e1 : x == 34
        · have n1 : ((x.toNat : Int) == 34) = false := by rw [← e1]; exact u8_eq 34 (by decide)
          cases e2 : x == 92
          · have n2 : ((x.toNat : Int) == 92) = false := by rw [← e2]; exact u8_eq 92 (by decide)
            cases e3 : textB x
            · have hfin := Lib.hid (show quotedAt s.data.toList i = none by rw [HRES.out, qres_bad hat.out e1 e2 e3])
              clear e1 e2
              go_wp2
              go_quiet (fail)
              go_wp2
              go_quiet (fail)
              go_wp2
              go_quiet (fail)
              go_wp2_with (go_at_call 109; refine (text_any _ _).mono ?_; rintro e w' ⟨rfl, rfl⟩)
              go_ret2
              exact QuotedPost.none hfin.out (CurBlk.at (j := i) (by repeat (first | exact hcb | apply CurBlk.set | apply CurBlk.drewN))) (by repeat (first | exact hfr | apply Fr.drewN | apply Fr.one_cell))
            · have hnx := Lib.hid (HRES.out.trans (qres_text (a := a) hat.out e1 e2 e3))
              clear e1 e2
              go_wp2
              go_quiet (fail)
              go_wp2
              go_quiet (fail)
              go_wp2
              go_quiet (fail)
              go_wp2_with (first | (at_builtin; go_must (refine wpList_byte rfl _ _ rfl w.heap.size (.slice av a.length cv) a rfl (by repeat (first | exact hown | apply Bytes.alloc | apply Bytes.setCell (p := ⟨b, 1, none⟩) hbB | apply Bytes.drewN | apply Bytes.drew)) ⟨wr.heap.size, 0, none⟩ 1 x rfl (by rw [World.cell?_alloc_at _ _ _ _ (by simp)]; rfl) (by omega) (by simp; omega) ?_); intro v' w2 hown2 hg2) | (go_at_call 109; refine (text_any _ _).mono ?_; rintro e w' ⟨rfl, rfl⟩))
              exact q_next hlt (by repeat (first | exact CurBlk.at (j := k + 1) (by repeat (first | exact hcb | apply CurBlk.set | apply CurBlk.drewN)) | apply CurAt.alloc | apply CurAt.drewN)) (by repeat (first | exact hfr | apply Fr.drewN | apply Fr.one_cell | apply Fr.alloc)) hg2 hown hown2 (by omega) (by simp; omega) hnx.out (Nat.lt_succ_self k) hpos.out
          · have hx92 : x = 92 := by simpa using e2
            clear e1 e2
            subst hx92
            by_cases hk1 : k + 1 < s.size
            · have hd1 : decide ((k : Int) + 1 < (s.size : Int)) = true := by simp; omega
              have hat1 := Lib.hid (byte_at s (k + 1) hk1)
              generalize hy : s[k + 1] = y at hat1
              cases e3 : textB y
              · have hfin := Lib.hid (show quotedAt s.data.toList i = none by rw [HRES.out, qres_escbad hat.out hat1.out e3])
                go_wp2
                go_quiet (fail)
                go_wp2
                go_quiet (fail)
                go_wp2
                go_quiet (fail)
                go_wp2
                go_quiet (fail)
                go_wp2_with (go_at_call 109; refine (text_any _ _).mono ?_; rintro e w' ⟨rfl, rfl⟩)
                go_ret2
                exact QuotedPost.none hfin.out (CurBlk.at (j := i) (by repeat (first | exact hcb | apply CurBlk.set | apply CurBlk.drewN))) (by repeat (first | exact hfr | apply Fr.drewN | apply Fr.one_cell | apply Fr.alloc))
              · have hnx := Lib.hid (HRES.out.trans (qres_esc (a := a) hat.out hat1.out e3))
                go_wp2
                go_quiet (fail)
                go_wp2
                go_quiet (fail)
                go_wp2
                go_quiet (fail)
                go_wp2
                go_quiet (fail)
                go_wp2_with (first | (at_builtin; go_must (refine wpList_byte rfl _ _ rfl w.heap.size (.slice av a.length cv) a rfl (by repeat (first | exact hown | apply Bytes.alloc | apply Bytes.setCell (p := ⟨b, 1, none⟩) hbB | apply Bytes.drewN | apply Bytes.drew)) ⟨wr.heap.size, 0, none⟩ 1 y rfl (by rw [World.cell?_alloc_at _ _ _ _ (by simp)]; rfl) (by omega) (by simp; omega) ?_); intro v' w2 hown2 hg2) | (go_at_call 109; refine (text_any _ _).mono ?_; rintro e w' ⟨rfl, rfl⟩))
                exact q_next hlt (by repeat (first | exact CurBlk.at (j := k + 1 + 1) (by repeat (first | exact hcb | apply CurBlk.set | apply CurBlk.drewN)) | apply CurAt.alloc | apply CurAt.drewN)) (by repeat (first | exact hfr | apply Fr.drewN | apply Fr.one_cell | apply Fr.alloc)) hg2 hown hown2 (by omega) (by simp; omega) hnx.out (by omega) hpos.out
            · have hd1 : decide ((k : Int) + 1 < (s.size : Int)) = false := by simp; omega
              have hfin := Lib.hid (show quotedAt s.data.toList i = none by rw [HRES.out, qres_last hat.out (byte_off s (k + 1) hk1)])
              go_wp2
              go_quiet (fail)
              go_wp2
              go_quiet (fail)
              go_wp2
              go_quiet (fail)
              go_wp2
              go_ret2
              exact QuotedPost.none hfin.out (CurBlk.at (j := i) (by repeat (first | exact hcb | apply CurBlk.set | apply CurBlk.drewN))) (by repeat (first | exact hfr | apply Fr.drewN | apply Fr.one_cell | apply Fr.alloc))
        · have n1 : ((x.toNat : Int) == 34) = true := by rw [← e1]; exact u8_eq 34 (by decide)
          have hfin := Lib.hid (show quotedAt s.data.toList i = some (a, k + 1) by rw [HRES.out, qres_mark (by rw [hat.out]; simpa using e1)])
          clear e1
          go_wp2
          go_quiet (fail)
          go_wp2
          go_quiet (fail)
          go_wp2
          go_ret2
          exact QuotedPost.some hfin.out (CurBlk.at (j := k + 1) (by repeat (first | exact hcb | apply CurBlk.set | apply CurBlk.drewN))) (by repeat (first | exact hfr | apply Fr.drewN | apply Fr.one_cell))
      · have hd : decide (k < s.size) = false := by simp; omega
        have hfin := Lib.hid (show quotedAt s.data.toList i = none by rw [HRES.out, qres_end (byte_off s k hks)])
        go_wp2
        go_quiet (fail)
        go_wp2
        go_ret2
        exact QuotedPost.none hfin.out (CurBlk.at (j := i) (by repeat (first | exact hcb | apply CurBlk.set | apply CurBlk.drewN))) (by repeat (first | exact hfr | apply Fr.drewN | apply Fr.one_cell))
end Go.Proofs.YtkoobhgedoanhaaGreatDoor
