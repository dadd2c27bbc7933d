/- Package ask: Parse. -/
import Derived.Test.YtegbacpenolehaaGreatDoorRdr4
namespace Go.Proofs.YtegbacpenolehaaGreatDoor
open Go.RowKit

/-- an error that is one, or one at a place -/
def ErrN (n : Nat) (er : Value) (w' : World) : Prop :=
  er = .iface 30 (.int .i64 n) ∨ ∃ g p, er = .iface 137 (.pointer (some ⟨g, 0, none⟩)) ∧ w'.heap[g]? = some (.cells #[.int .i64 n, .int .i64 p] 139 (0, 0))
def ParsePost (s : ByteArray) (w : World) (e : Ending) (w' : World) : Prop :=
  Fr noB w w' ∧ match chasL s.data.toList with
    | .error n => ∃ er, e = .returned (.tuple #[.slice none 0 0, er]) ∧ ErrN n er w'
    | .ok l => ∃ v, e = .returned (.tuple #[v, .nilIface]) ∧ ChasOwn w.heap.size w' v l
theorem ParsePost.bad {s : ByteArray} {w w' : World} {n : Nat} {er : Value} (h : chasL s.data.toList = .error n) (hf : Fr noB w w') (he : ErrN n er w') : ParsePost s w (.returned (.tuple #[.slice none 0 0, er])) w' := by
  refine ⟨hf, ?_⟩
  rw [h]; exact ⟨er, rfl, he⟩
theorem ParsePost.ok {s : ByteArray} {w w' : World} {v : Value} {l : List Cha} (h : chasL s.data.toList = .ok l) (hf : Fr noB w w') (hv : ChasOwn w.heap.size w' v l) : ParsePost s w (.returned (.tuple #[v, .nilIface])) w' := by
  refine ⟨hf, ?_⟩
  rw [h]; exact ⟨v, rfl, hv⟩
theorem parseN_step (acc : List Cha) (r : Bs) : parseN (r.length + 1) acc r = if (gapsR r).isEmpty then .ok acc else
    match oneR acc.length (gapsR r) with
    | .error e => .error e
    | .ok q => parseN (q.2.length + 1) (acc ++ [q.1]) q.2 := by
  rw [parseN]
  split
  · rfl
  · cases ho : oneR acc.length (gapsR r) with
    | error e => rfl
    | ok q =>
      obtain ⟨x, r1⟩ := q
      have h1 := oneR_le ho
      have h2 := gapsR_le r
      simp only
      rw [parseN_fuel r.length _ _ (by omega)]
/-- at the head of a round: behind the gaps -/
def PrRel (s : ByteArray) (w : World) (wr : World) : Prop :=
  ∃ acc v j, j ≤ s.size ∧ RdrAt wr (w.heap.size + 1) w.heap.size s v ∧ CurAt wr w.heap.size s j ∧ ChasOwn w.heap.size wr v acc ∧ Fr noB w wr ∧ acc.length ≤ 8 ∧ gapsR (s.data.toList.drop j) = s.data.toList.drop j ∧
    chasL s.data.toList = parseN ((s.data.toList.drop j).length + 1) acc (s.data.toList.drop j)

set_option maxRecDepth 100000 in
set_option maxHeartbeats 4000000 in
theorem Parse_ask (s : ByteArray) (w : World) (hs : s.size ≤ 140737488351232) :
    Calls Tryz.prog 13 #[.string s] w (ParsePost s w) := by
  by_cases h3 : 3000 < s.size
  · have h3' : (3000 : Int) < (s.size : Int) := by omega
    have HE := Lib.hid (show chasL s.data.toList = .error 4 by unfold chasL; rw [if_pos (by simpa using h3)])
    go_enter Tryz.func13, Tryz.ntmps13
    go_wp2
    go_ret2
    exact ParsePost.bad HE.out (Fr.refl _ _) (Or.inl rfl)
  · have h3' : ¬ (3000 : Int) < (s.size : Int) := by omega
    have hm : s.size ≤ maxLen := by unfold maxLen; omega
    have HC := Lib.hid (show chasL s.data.toList = parseN (s.data.toList.length + 1) [] s.data.toList by unfold chasL; rw [if_neg (by simpa using h3)])
    go_enter Tryz.func13, Tryz.ntmps13
    go_wp2_with fail
    refine (On_any s w).mono ?_
    rintro e w1 ⟨rfl, hw1⟩
    have hc1 : CurAt w1 w.heap.size s 0 := by rw [hw1]; exact new_block _ _
    have hs1 : w1.heap.size = w.heap.size + 1 := by rw [hw1]; simp
    have hf1 : Fr noB w w1 := by rw [hw1]; exact (Fr.refl _ _).alloc _
    clear hw1
    obtain ⟨w2, hw2⟩ : ∃ w2, w2 = w1.alloc (.cells #[.pointer (some ⟨w.heap.size, 0, none⟩), .string s, .slice none 0 0] 88) := ⟨_, rfl⟩
    have hr2 : RdrAt w2 (w.heap.size + 1) w.heap.size s (.slice none 0 0) := by rw [hw2, ← hs1]; exact new_block _ _
    have hf12 : Fr noB w1 w2 := by rw [hw2]; exact (Fr.refl _ _).alloc _
    have hc2 := hc1.fr hf12 (fun h => h)
    have HF2 := Lib.hid (hf1.trans hf12)
    have HW2 := Lib.hid hw2
    clear hw2 hf1 hf12 hc1
    go_wp2_with fail
    rw [← HW2.out]
    refine (gaps_any _ _ 0 s _ w2 hr2 hc2 hm (Nat.zero_le _)).mono ?_
    rintro e w3 ⟨rfl, hc3, hf3⟩
    have hgl : spanEnd gapB s.data.toList 0 ≤ s.size := by simpa using spanEnd_le (p := gapB) (l := s.data.toList) (i := 0) (Nat.zero_le _)
    have HGD := Lib.hid (show s.data.toList.drop (spanEnd gapB s.data.toList 0) = gapsR s.data.toList by rw [drop_spanEnd, List.drop_zero]; rfl)
    generalize spanEnd gapB s.data.toList 0 = j0 at *
    have hr3 := hr2.one hc2 hf3
    have HF3 := Lib.hid (HF2.out.newOne hf3 (Nat.le_refl _))
    have HC3 := Lib.hid (show chasL s.data.toList = parseN ((s.data.toList.drop j0).length + 1) [] (s.data.toList.drop j0) by
      rw [HC.out, parseN_gaps _ _ (show gapsR s.data.toList = gapsR (s.data.toList.drop j0) by rw [HGD.out, gapsR_gapsR])]
      exact parseN_fuel _ _ _ (by rw [HGD.out]; have := gapsR_le s.data.toList; omega))
    have HG3 := Lib.hid (show gapsR (s.data.toList.drop j0) = s.data.toList.drop j0 by rw [HGD.out, gapsR_gapsR])
    clear hf3 hr2 hc2 hs1 HW2
    go_wp2
    go_loopw [] (PrRel s w) (fun wr => s.size - curPos wr w.heap.size)
    case atStart => exact ⟨[], _, j0, hgl, hr3, hc3, ChasOwn.nil _ _, HF3.out, by simp, HG3.out, HC3.out⟩
    case round =>
      obtain ⟨acc, v, j, hj, hr4, hc4, hv4, hfr, hl8, hgj, hcl⟩ := hrel
      have HCL := Lib.hid hcl
      have HGJ := Lib.hid hgj
      clear hcl hgj HC3 HG3 HGD hr3 hc3
      have hpos := Lib.hid hc4.pos
      have q0 := hr4.cell0
      have HST := Lib.hid (parseN_step acc (s.data.toList.drop j))
      rw [HGJ.out] at HST
      go_wp2_with fail
      refine (End_any _ s j wr hc4).mono ?_
      rintro e w5 ⟨rfl, n5, rfl⟩
      by_cases hend : s.size ≤ j
      · have hd : decide (s.size ≤ j) = true := decide_eq_true hend
        have HE := Lib.hid (show chasL s.data.toList = .ok acc by
          rw [HCL.out, HST.out, List.drop_eq_nil_of_le (by simpa using hend)]; rfl)
        have q2 := hr4.cell2
        rw [hd]
        go_wp2
        go_ret2
        exact ParsePost.ok HE.out (hfr.drewN _) (hv4.fr ((Fr.refl noB wr).drewN n5) (OffC.none _))
      · have hd : decide (s.size ≤ j) = false := decide_eq_false hend
        rw [hd]
        have hne : (s.data.toList.drop j).isEmpty = false := by
          cases e : s.data.toList.drop j with
          | nil =>
            have := congrArg List.length e
            simp at this; omega
          | cons a l => rfl
        rw [hne] at HST
        have hr5 := hr4.drewN (n := n5)
        have hc5 := hc4.drewN n5
        have hv5 := hv4.fr ((Fr.refl noB wr).drewN n5) (OffC.none _)
        have hfr5 := hfr.drewN n5
        have hbw : w.heap.size ≤ (wr.drewN n5).heap.size := hfr5.size
        generalize wr.drewN n5 = w5 at *
        go_wp2_with fail
        refine (one_any w.heap.size _ _ j s acc v w5 hr5 hc5 hv5 hbw (by omega) hj hl8).mono ?_
        intro e w6 hp
        obtain ⟨hf6, hm6⟩ := hp
        have hvb : ∀ k, v.ownBlock = some k → w.heap.size ≤ k := by
          obtain ⟨rs, h1, _⟩ := hv5
          exact h1.block
        have HF6 := Lib.hid (show Fr noB w w6 from hfr5.step hf6 (fun k hk hh => by
          rcases hh with hh | hh | hh
          · omega
          · omega
          · have := hvb k hh; omega))
        cases ho : oneR acc.length (s.data.toList.drop j) with
        | error n =>
          rw [ho] at hm6
          obtain ⟨p, g, rfl, hg⟩ := hm6
          have HE := Lib.hid (show chasL s.data.toList = .error n by rw [HCL.out, HST.out, ho]; rfl)
          clear ho
          go_wp2
          go_ret2
          exact ParsePost.bad HE.out HF6.out (Or.inr ⟨g, p, rfl, hg⟩)
        | ok q =>
          obtain ⟨x, z⟩ := q
          rw [ho] at hm6
          obtain ⟨rfl, j1, v', hj1, hc6, hd6, hr6, hv6⟩ := hm6
          simp only at hd6 hv6
          have hole := oneR_le ho
          have hk8 := (oneR_ok ho).2
          have hjj : j < j1 := by
            have e1 : z.length = s.size - j1 := by rw [← hd6]; simp
            have e2 : (s.data.toList.drop j).length = s.size - j := by simp
            omega
          have HS2 := Lib.hid (show chasL s.data.toList = parseN (z.length + 1) (acc ++ [x]) z by rw [HCL.out, HST.out, ho]; rfl)
          clear ho hole
          go_wp2_with fail
          refine (gaps_any _ _ j1 s v' w6 hr6 hc6 hm hj1).mono ?_
          rintro e w7 ⟨rfl, hc7, hf7⟩
          have hgl7 : spanEnd gapB s.data.toList j1 ≤ s.size := by simpa using spanEnd_le (p := gapB) (l := s.data.toList) (i := j1) (by simpa using hj1)
          have hgg : j1 ≤ spanEnd gapB s.data.toList j1 := spanEnd_ge
          have HG7 := Lib.hid (show s.data.toList.drop (spanEnd gapB s.data.toList j1) = gapsR z by rw [drop_spanEnd, hd6]; rfl)
          generalize spanEnd gapB s.data.toList j1 = j2 at *
          have hr7 := hr6.one hc6 hf7
          have hv7 := hv6.fr hf7 (OffC.cur hc6)
          have HF7 := Lib.hid (HF6.out.newOne hf7 (Nat.le_refl _))
          have HS7 := Lib.hid (show chasL s.data.toList = parseN ((s.data.toList.drop j2).length + 1) (acc ++ [x]) (s.data.toList.drop j2) by
            rw [HS2.out, parseN_gaps _ _ (show gapsR z = gapsR (s.data.toList.drop j2) by rw [HG7.out, gapsR_gapsR])]
            exact parseN_fuel _ _ _ (by rw [HG7.out]; have := gapsR_le z; omega))
          have HGG := Lib.hid (show gapsR (s.data.toList.drop j2) = s.data.toList.drop j2 by rw [HG7.out, gapsR_gapsR])
          go_wp2
          go_roundw
          case rel => exact ⟨acc ++ [x], v', j2, hgl7, hr7, hc7, hv7, HF7.out, by simp; omega, HGG.out, HS7.out⟩
          case measure => rw [hpos.out, hc7.pos]; omega
end Go.Proofs.YtegbacpenolehaaGreatDoor
