/- url.Clean. -/
import Derived.Test.YtkoobhgedoanhaaGreatDoorSplit1
import Derived.Test.YtkoobhgedoanhaaGreatDoorList
namespace Go.Proofs.YtkoobhgedoanhaaGreatDoor
open Go.RowKit

/-- a row of the call's own, its last element left out -/
theorem Strs.pop {base : Nat} {w : World} {a : Addr} {n c : Nat} {ss : List ByteArray} {x : ByteArray} (h : Strs base w (.slice (some a) n c) (ss ++ [x])) : Strs base w (.slice (some a) ss.length c) ss := by
  obtain ⟨h1, h2⟩ := h
  rcases h2 with ⟨hv, _⟩ | ⟨g, cap, cur, hv, hg, hh, h3, h4, h5, h6⟩
  · cases hv
  · cases hv
    refine ⟨by simp, Or.inr ⟨g, c, cur, rfl, hg, hh, ?_, h4, h5, ?_⟩⟩
    · simp at h3; omega
    · have e : (cur.toList.take (ss.length * 1)) = (cur.toList.take ((ss ++ [x]).length * 1)).take ss.length := by
        rw [List.take_take]; congr 1; simp
      rw [e, h6]; simp
theorem Strs.none_nil {base : Nat} {w : World} {n c : Nat} {ss : List ByteArray} (h : Strs base w (.slice none n c) ss) : ss = [] := by
  rcases h.2 with ⟨_, hn⟩ | ⟨g, cap, cur, hq, _⟩
  · exact List.eq_nil_of_length_eq_zero hn
  · cases hq
theorem Strs.cap {base : Nat} {w : World} {a : Option Addr} {n c : Nat} {ss : List ByteArray} (h : Strs base w (.slice a n c) ss) : ss.length ≤ c := by
  rcases h.2 with ⟨hq, hn⟩ | ⟨g, cap, cur, hq, _, _, h3, _⟩
  · rw [hn]; exact Nat.zero_le _
  · cases hq; exact h3
theorem drop_step {α : Type} {l : List α} {k : Nat} {x : α} (h : l[k]? = some x) : l.drop k = x :: l.drop (k + 1) := by
  obtain ⟨hk, e⟩ := List.getElem?_eq_some_iff.1 h
  rw [List.drop_eq_getElem_cons hk, e]
theorem wordsB_app (l : List (List UInt8)) (p : List UInt8) : wordsB (l ++ [p]) = wordsB l ++ [⟨p.toArray⟩] := by unfold wordsB; simp
theorem wordsB_length (l : List (List UInt8)) : (wordsB l).length = l.length := by unfold wordsB; simp
theorem splitL_count (c : UInt8) : ∀ l : List UInt8, (splitL c l).length ≤ l.length + 1
  | [] => by simp [splitL]
  | x :: l => by
    have ih := splitL_count c l
    have hne := splitL_ne c l
    by_cases h : x = c
    · subst h; rw [splitL_hit]; simp; omega
    · cases e : splitL c l with
      | nil => exact absurd e hne
      | cons p ps => rw [splitL_step h e]; rw [e] at ih; simp at ih ⊢; omega
theorem words_none {base : Nat} {w : World} {n c : Nat} {l : List (List UInt8)} (h : Strs base w (.slice none n c) (wordsB l)) : l.length = 0 := by
  rw [← wordsB_length l, Strs.none_nil h]; rfl
/-- what is held is never longer than the parts that went by -/
theorem step_len (l : List (List UInt8)) (p : List UInt8) (last : Bool) : (cleanStep l p last).length ≤ l.length + 1 := by
  have hp : (popP l).length ≤ l.length := by unfold popP; split <;> simp
  unfold cleanStep
  split
  · split <;> simp <;> omega
  · split
    · split <;> simp
    · simp
theorem join_eq (l : List (List UInt8)) : Lib.join ((wordsB l).map (·.data.toList)) [47] = joinL 47 l := by
  have e : (wordsB l).map (·.data.toList) = l := by unfold wordsB; rw [List.map_map]; simp [Function.comp_def]
  rw [e]
  induction l with
  | nil => rfl
  | cons p ps ih =>
    cases ps with
    | nil => simp [Lib.join, joinL]
    | cons q qs =>
      have ih' := ih (by unfold wordsB; rw [List.map_map]; simp [Function.comp_def])
      rw [joinL, ← ih']
      simp [Lib.join]
theorem JoinS_any (v : Value) (l : List (List UInt8)) (w : World) (hv : StrsAt w v (wordsB l)) (hn : l.length ≤ 140737488355328) (hlen : (joinL 47 l).length ≤ 140737488355328) :
    Calls Tryz.prog 72 #[v, .string ⟨#[47]⟩] w fun e w' => e = .returned (.string ⟨(joinL 47 l).toArray⟩) ∧ Fr noB w w' := by
  have ej := join_eq l
  rcases hv with ⟨a, c, rfl, hs, _⟩ | ⟨bk, o, c, rfl, h1, h2, h3, h4⟩
  · have hl : l = [] := by cases l with | nil => rfl | cons p ps => simp [wordsB] at hs
    subst hl
    exact (Tryz.strings_Join_none _ _ _ _).mono (by rintro e w1 ⟨rfl, rfl⟩; exact ⟨rfl, Fr.refl _ _⟩)
  · refine (Tryz.strings_Join bk o c (wordsB l) ⟨#[47]⟩ w h4 h3 (by rw [wordsB_length]; exact hn) h1 (by show (Lib.join _ [47]).length ≤ _; rw [ej]; exact hlen)).mono ?_
    rintro e w1 ⟨rfl, hb⟩
    refine ⟨?_, Fr.of_below hb⟩
    show Ending.returned (.string ⟨(Lib.join _ [47]).toArray⟩) = _
    rw [ej]

/-- where the loop comes to -/
def ClRel (s : List UInt8) (base : Nat) (w1 : World) (parts : List (List UInt8)) (v i : Value) (wr : World) : Prop :=
  ∃ (k : Nat) (l : List (List UInt8)), k ≤ parts.length ∧ i = .int .i64 k ∧ Strs base wr v (wordsB l) ∧ l.length ≤ k ∧ cleanGo l (parts.drop k) = cleanParts s ∧ Fr noB w1 wr
theorem root_byte (s : ByteArray) : ∃ t : ByteArray, t.data.toList = rootL s.data.toList ∧ t.size ≤ s.size + 1 ∧ (Lib.hasPrefix s.data.toList [47] = true → t = s) ∧ (Lib.hasPrefix s.data.toList [47] = false → t = ⟨#[47]⟩ ++ s) := by
  have hp : Lib.hasPrefix s.data.toList [47] = true ↔ s.data.toList.head? = some 47 := by
    cases h : s.data.toList with
    | nil => simp [Lib.hasPrefix]
    | cons a l => simp [Lib.hasPrefix]; exact eq_comm
  cases h : Lib.hasPrefix s.data.toList [47]
  · have h1 : (⟨#[47]⟩ : ByteArray).size = 1 := rfl
    refine ⟨⟨#[47]⟩ ++ s, ?_, by rw [ByteArray.size_append, h1]; omega, (fun e => by cases e), fun _ => rfl⟩
    unfold rootL
    rw [if_neg (fun e => by rw [hp.2 e] at h; cases h)]
    simp
  · refine ⟨s, ?_, by omega, fun _ => rfl, (fun e => by cases e)⟩
    unfold rootL
    rw [if_pos (hp.1 h)]
theorem rootL_len (s : List UInt8) : (rootL s).length ≤ s.length + 1 := by unfold rootL; split <;> simp
theorem join_le (c : UInt8) : ∀ ps : List (List UInt8), (joinL c ps).length ≤ (ps.map fun p => p.length + 1).sum
  | [] => by simp [joinL]
  | [p] => by simp [joinL]
  | p :: q :: ps => by
    have ih := join_le c (q :: ps)
    rw [joinL]
    simp at ih ⊢
    omega
theorem sum_drop (f : List UInt8 → Nat) : ∀ l : List (List UInt8), ((l.dropLast).map f).sum ≤ (l.map f).sum
  | [] => by simp
  | [p] => by simp
  | p :: q :: ps => by
    have ih := sum_drop f (q :: ps)
    rw [List.dropLast_cons_of_ne_nil (by simp)]
    simp at ih ⊢
    omega
theorem go_sum : ∀ (ps l : List (List UInt8)), ((cleanGo l ps).map fun p => p.length + 1).sum ≤ (l.map fun p => p.length + 1).sum + (ps.map fun p => p.length + 1).sum
  | [], l => by simp [cleanGo]
  | p :: ps, l => by
    have ih := go_sum ps (cleanStep l p ps.isEmpty)
    have hpop : ((popP l).map fun p => p.length + 1).sum ≤ (l.map fun p => p.length + 1).sum := by
      unfold popP; split
      · exact sum_drop _ l
      · exact Nat.le_refl _
    have hst : ((cleanStep l p ps.isEmpty).map fun p => p.length + 1).sum ≤ (l.map fun p => p.length + 1).sum + (p.length + 1) := by
      unfold cleanStep
      split
      · split
        · simp only [List.map_append, List.sum_append, List.map_cons, List.map_nil, List.sum_cons, List.sum_nil, List.length_nil]; omega
        · omega
      · split
        · split
          · simp only [List.map_append, List.sum_append, List.map_cons, List.map_nil, List.sum_cons, List.sum_nil, List.length_nil]; omega
          · omega
        · simp only [List.map_append, List.sum_append, List.map_cons, List.map_nil, List.sum_cons, List.sum_nil]; omega
    show ((cleanGo (cleanStep l p ps.isEmpty) ps).map fun p => p.length + 1).sum ≤ _
    simp at ih hst ⊢
    omega
theorem split_sum (c : UInt8) : ∀ l : List UInt8, ((splitL c l).map fun p => p.length + 1).sum ≤ l.length + 1
  | [] => by simp [splitL]
  | x :: l => by
    have ih := split_sum c l
    have hne := splitL_ne c l
    by_cases h : x = c
    · subst h; rw [splitL_hit]; simp at ih ⊢; omega
    · cases e : splitL c l with
      | nil => exact absurd e hne
      | cons p ps => rw [splitL_step h e]; rw [e] at ih; simp at ih ⊢; omega
theorem clean_len (s : List UInt8) : (cleanL s).length ≤ s.length + 2 := by
  have h1 := join_le 47 (cleanParts s)
  have h2 := go_sum (splitL 47 (rootL s)) []
  have h3 := split_sum 47 (rootL s)
  have h4 := rootL_len s
  unfold cleanL
  unfold cleanParts at h1 ⊢
  simp at h1 h2 h3 h4 ⊢
  omega
set_option maxRecDepth 100000 in
set_option maxHeartbeats 8000000 in
theorem Clean_any (s : ByteArray) (w : World) (hs : s.size < 100000) :
    Calls Tryz.prog 68 #[.string s] w fun e w' => e = .returned (.string ⟨(cleanL s.data.toList).toArray⟩) ∧ Fr noB w w' := by
  obtain ⟨t, ht, htz, hty, htn⟩ := root_byte s
  obtain ⟨parts, hparts⟩ : ∃ parts, parts = splitL 47 t.data.toList := ⟨_, rfl⟩
  have hpl : parts.length ≤ 100001 := by rw [hparts]; have := splitL_count 47 t.data.toList; simp at this; omega
  have hpb : partsB 47 t = wordsB parts := by rw [hparts]; rfl
  have HGO := Lib.hid (show cleanGo [] parts = cleanParts s.data.toList by rw [hparts, ht]; rfl)
  have HCL := Lib.hid (show (cleanL s.data.toList).length ≤ 140737488355328 by have := clean_len s.data.toList; simp at this; omega)
  obtain ⟨W, hW⟩ : ∃ W, W = w.alloc (.cells ((partsB 47 t).map Value.string).toArray 9) := ⟨_, rfl⟩
  have hfW : Fr noB w W := by rw [hW]; exact (Fr.refl noB w).alloc _
  have hzW : W.heap.size = w.heap.size + 1 := by rw [hW]; simp
  have hrow : W.heap[w.heap.size]? = some (.cells ((partsB 47 t).map Value.string).toArray 9 (0, 0)) := by rw [hW]; exact new_block _ _
  have HSP := Lib.hid ((Split1_any t 47 w (by omega)).mono (fun e w' h => by rw [← hW, hpb, wordsB_length] at h; exact ⟨h.1, h.2.symm⟩) : Calls Tryz.prog 66 #[.string t, .string ⟨#[47]⟩] w fun e w' => e = .returned (.slice (some ⟨w.heap.size, 0, none⟩) parts.length parts.length) ∧ W = w')
  rw [hpb] at hrow
  clear hW hpb
  have HCELL := Lib.hid (show ∀ U, Fr noB W U → ∀ (k : Nat) p, parts[k]? = some p → U.cell? ⟨w.heap.size, k, none⟩ = some (.string ⟨p.toArray⟩) from fun U hU k p hp => by
    have := hU.keep hrow (fun h => h)
    simp [World.cell?, this, wordsB, hp])
  clear hrow
  have HJOIN : ∀ (v : Value) (wr : World) (l : List (List UInt8)), Strs (w.heap.size + 1) wr v (wordsB l) → l.length ≤ 100001 → l = cleanParts s.data.toList → Fr noB W wr →
      Calls Tryz.prog 72 #[v, .string ⟨#[47]⟩] wr fun e w' => e = .returned (.string ⟨(cleanL s.data.toList).toArray⟩) ∧ Fr noB w w' := fun v wr l hv hl e hf => by
    have := (JoinS_any v l wr hv.at (by omega) (by rw [e]; exact HCL.out)).mono (R' := fun e w' => e = .returned (.string ⟨(cleanL s.data.toList).toArray⟩) ∧ Fr noB w w') (fun e' w' ⟨h1, h2⟩ => ⟨by rw [h1, e]; rfl, (hfW.trans hf).trans h2⟩)
    exact this
  have HJOIN := Lib.hid HJOIN
  have HPRE := Lib.hid (show Calls Tryz.prog 67 #[.string s, .string ⟨#[47]⟩] w fun e w' => e = .returned (.bool (Lib.hasPrefix s.data.toList (⟨#[47]⟩ : ByteArray).data.toList)) ∧ w = w' from (Tryz.strings_HasPrefix s ⟨#[47]⟩ w).mono fun e w' h => ⟨h.1, h.2.symm⟩)
  cases hpre : Lib.hasPrefix s.data.toList [47]
  · have e := htn hpre
    have HSP2 := HSP.out
    rw [e] at HSP2
    clear hty htn ht e hparts
    go_enter Tryz.func68, Tryz.ntmps68
    go_wp2_with fail
    refine HPRE.out.mono ?_
    rintro e u ⟨rfl, rfl⟩
    rw [show Lib.hasPrefix s.data.toList (⟨#[47]⟩ : ByteArray).data.toList = false from hpre]
    go_wp2_with fail
    refine HSP2.mono ?_
    rintro e u ⟨rfl, rfl⟩
    go_wp2
    go_loopw [3, 17] (ClRel s.data.toList (w.heap.size + 1) W parts) (fun _ i _ => parts.length - (intOf i).toNat)
    case atStart => exact ⟨0, [], Nat.zero_le _, rfl, Strs.nil _ _, Nat.le_refl _, by rw [List.drop_zero]; exact HGO.out, Fr.refl _ _⟩
    case round =>
      obtain ⟨k, l, hk, rfl, hv, hlk, hgo, hfr⟩ := hrel
      have HG := Lib.hid hgo
      clear hgo
      obtain ⟨av, cv, hvf⟩ := hv.form
      rw [wordsB_length] at hvf
      subst hvf
      have hs1 : w.heap.size + 1 ≤ wr.heap.size := by have := hfr.size; omega
      by_cases hks : k < parts.length
      · have hki : (k : Int) < (parts.length : Int) := by omega
        obtain ⟨p, hp⟩ : ∃ p, parts[k]? = some p := ⟨_, List.getElem?_eq_getElem hks⟩
        have hcell := HCELL.out wr hfr k p hp
        have HDR := Lib.hid (show cleanGo l (parts.drop k) = cleanGo (cleanStep l p (parts.drop (k + 1)).isEmpty) (parts.drop (k + 1)) by rw [drop_step hp]; rfl)
        clear hp
        have hpt : (⟨p.toArray⟩ : ByteArray).toList = p := by rw [ByteArray.toList_eq]
        obtain ⟨pb, hpb⟩ : ∃ pb : ByteArray, pb = ⟨p.toArray⟩ := ⟨_, rfl⟩
        rw [← hpb] at hcell hpt
        have HPB := Lib.hid hpb
        clear hpb
        have HEND := Lib.hid (show ∀ (l' : List (List UInt8)), l' = cleanStep l p (parts.drop (k + 1)).isEmpty → l'.length ≤ k + 1 ∧ cleanGo l' (parts.drop (k + 1)) = cleanParts s.data.toList from fun l' e => by
          have := step_len l p (parts.drop (k + 1)).isEmpty
          rw [e]
          exact ⟨by omega, by rw [← HDR.out]; exact HG.out⟩)
        by_cases hla : k + 1 = parts.length
        · have HE := Lib.hid (show (parts.drop (k + 1)).isEmpty = true by rw [hla]; simp)
          have hl1 : ((k : Int) == (parts.length : Int) - 1) = true := beq_iff_eq.2 (by omega)
          clear hla
          by_cases hd2 : p = dotsP
          · subst hd2
            have hpl : pb.toList = [46, 46] := hpt
            clear hpt
            by_cases hlen : 1 < l.length
            · have hli : (1 : Int) < (l.length : Int) := by omega
              obtain ⟨l0, x, hl0⟩ : ∃ l0 x, l = l0 ++ [x] := ⟨l.dropLast, l.getLast (by intro e; rw [e] at hlen; simp at hlen), (List.dropLast_concat_getLast _).symm⟩
              have hll : l.length = l0.length + 1 := by rw [hl0]; simp
              obtain ⟨ad, had⟩ : ∃ ad, av = some ad := by
                cases av with
                | none => exact absurd (words_none hv) (by omega)
                | some ad => exact ⟨ad, rfl⟩
              subst had
              have HPOP := Lib.hid (show popP l = l0 by unfold popP; rw [if_pos hlen, hl0]; simp)
              rw [hl0, wordsB_app] at hv
              rw [hll]
              rw [show (l0 ++ [x]).length = (wordsB l0).length + 1 from by rw [wordsB_length]; simp] at hv
              replace hv := Strs.pop hv
              rw [wordsB_length] at hv
              have q1 : (0 : Int) ≤ (l0.length : Int) := by omega
              have q4 : (l0.length : Int) ≤ (cv : Int) := by have := Strs.cap hv; rw [wordsB_length] at this; omega
              have q5 : l0.length ≤ cv := by omega
              have q2 : (1 : Int) < (l0.length : Int) + 1 := by omega
              have q3 : (l0.length : Int) + 1 - 1 = (l0.length : Int) := by omega
              clear hli hl0
              have HX := Lib.hid (HEND.out (l0 ++ [[]]) (by unfold cleanStep; rw [if_pos rfl, HE.out, HPOP.out]; rfl))
              go_wp2_with (at_builtin; refine wpList_str rfl _ _ rfl (w.heap.size + 1) (.slice (some ad) _ cv) (wordsB l0) rfl (by apply Strs.alloc; exact hv) ⟨wr.heap.size, 0, none⟩ 1 ⟨#[]⟩ rfl (new_cell _ _ _ _) (by rw [wordsB_length]; omega) (by simp; omega) ?_; intro v2 w3 hv3 hg3)
              have HF3 := Lib.hid ((hfr.alloc (.cells #[.string ⟨#[]⟩] 9)).grownNew hg3 (fun j hj => by have := hv.block j hj; omega))
              go_roundw
              case rel => exact ⟨k + 1, l0 ++ [[]], by omega, by go_num, by rw [wordsB_app]; exact hv3, (HX.out).1, (HX.out).2, HF3.out⟩
              case measure => simp [intOf]; omega
            · have hli : ¬ (1 : Int) < (l.length : Int) := by omega
              have HPOP := Lib.hid (show popP l = l by unfold popP; rw [if_neg hlen])
              have HX := Lib.hid (HEND.out (l ++ [[]]) (by unfold cleanStep; rw [if_pos rfl, HE.out, HPOP.out]; rfl))
              go_wp2_with (at_builtin; refine wpList_str rfl _ _ rfl (w.heap.size + 1) (.slice av _ cv) (wordsB l) rfl (by apply Strs.alloc; exact hv) ⟨wr.heap.size, 0, none⟩ 1 ⟨#[]⟩ rfl (new_cell _ _ _ _) (by rw [wordsB_length]; omega) (by simp; omega) ?_; intro v2 w3 hv3 hg3)
              have HF3 := Lib.hid ((hfr.alloc (.cells #[.string ⟨#[]⟩] 9)).grownNew hg3 (fun j hj => by have := hv.block j hj; omega))
              go_roundw
              case rel => exact ⟨k + 1, l ++ [[]], by omega, by go_num, by rw [wordsB_app]; exact hv3, (HX.out).1, (HX.out).2, HF3.out⟩
              case measure => simp [intOf]; omega
          · have hd2' : ¬ pb.toList = [46, 46] := fun e => hd2 (hpt.symm.trans e)
            have hd2b : (pb.toList == [46, 46]) = false := beq_eq_false_iff_ne.2 hd2'
            by_cases hd1 : p = dotP
            · subst hd1
              have hpl : pb.toList = [46] := hpt
              clear hpt
              have HX := Lib.hid (HEND.out (l ++ [[]]) (by unfold cleanStep; rw [if_neg hd2, if_pos rfl, HE.out]; rfl))
              clear hd2
              go_wp2_with (at_builtin; refine wpList_str rfl _ _ rfl (w.heap.size + 1) (.slice av _ cv) (wordsB l) rfl (by apply Strs.alloc; exact hv) ⟨wr.heap.size, 0, none⟩ 1 ⟨#[]⟩ rfl (new_cell _ _ _ _) (by rw [wordsB_length]; omega) (by simp; omega) ?_; intro v2 w3 hv3 hg3)
              have HF3 := Lib.hid ((hfr.alloc (.cells #[.string ⟨#[]⟩] 9)).grownNew hg3 (fun j hj => by have := hv.block j hj; omega))
              go_roundw
              case rel => exact ⟨k + 1, l ++ [[]], by omega, by go_num, by rw [wordsB_app]; exact hv3, (HX.out).1, (HX.out).2, HF3.out⟩
              case measure => simp [intOf]; omega
            · have hd1' : ¬ pb.toList = [46] := fun e => hd1 (hpt.symm.trans e)
              have hd1b : (pb.toList == [46]) = false := beq_eq_false_iff_ne.2 hd1'
              have HX := Lib.hid (HEND.out (l ++ [p]) (by unfold cleanStep; rw [if_neg hd2, if_neg hd1]))
              clear hd2 hd1 hpt
              go_wp2_with (at_builtin; refine wpList_str rfl _ _ rfl (w.heap.size + 1) (.slice av _ cv) (wordsB l) rfl (by apply Strs.alloc; exact hv) ⟨wr.heap.size, 0, none⟩ 1 pb rfl (new_cell _ _ _ _) (by rw [wordsB_length]; omega) (by simp; omega) ?_; intro v2 w3 hv3 hg3)
              have HF3 := Lib.hid ((hfr.alloc (.cells #[.string pb] 9)).grownNew hg3 (fun j hj => by have := hv.block j hj; omega))
              go_roundw
              case rel => exact ⟨k + 1, l ++ [p], by omega, by go_num, by rw [wordsB_app, ← HPB.out]; exact hv3, (HX.out).1, (HX.out).2, HF3.out⟩
              case measure => simp [intOf]; omega
        · have HE := Lib.hid (show (parts.drop (k + 1)).isEmpty = false by
            cases e : parts.drop (k + 1) with
            | nil => have := congrArg List.length e; simp at this; omega
            | cons a b => rfl)
          have hl1 : ((k : Int) == (parts.length : Int) - 1) = false := beq_eq_false_iff_ne.2 (by omega)
          by_cases hd2 : p = dotsP
          · subst hd2
            have hpl : pb.toList = [46, 46] := hpt
            clear hpt
            by_cases hlen : 1 < l.length
            · have hli : (1 : Int) < (l.length : Int) := by omega
              obtain ⟨l0, x, hl0⟩ : ∃ l0 x, l = l0 ++ [x] := ⟨l.dropLast, l.getLast (by intro e; rw [e] at hlen; simp at hlen), (List.dropLast_concat_getLast _).symm⟩
              have hll : l.length = l0.length + 1 := by rw [hl0]; simp
              obtain ⟨ad, had⟩ : ∃ ad, av = some ad := by
                cases av with
                | none => exact absurd (words_none hv) (by omega)
                | some ad => exact ⟨ad, rfl⟩
              subst had
              have HPOP := Lib.hid (show popP l = l0 by unfold popP; rw [if_pos hlen, hl0]; simp)
              rw [hl0, wordsB_app] at hv
              rw [hll]
              rw [show (l0 ++ [x]).length = (wordsB l0).length + 1 from by rw [wordsB_length]; simp] at hv
              replace hv := Strs.pop hv
              rw [wordsB_length] at hv
              have q1 : (0 : Int) ≤ (l0.length : Int) := by omega
              have q4 : (l0.length : Int) ≤ (cv : Int) := by have := Strs.cap hv; rw [wordsB_length] at this; omega
              have q5 : l0.length ≤ cv := by omega
              have q2 : (1 : Int) < (l0.length : Int) + 1 := by omega
              have q3 : (l0.length : Int) + 1 - 1 = (l0.length : Int) := by omega
              clear hli hl0
              have HX := Lib.hid (HEND.out (l0) (by unfold cleanStep; rw [if_pos rfl, HE.out, HPOP.out]; rfl))
              go_wp2
              go_roundw
              case rel => exact ⟨k + 1, l0, by omega, by go_num, hv, (HX.out).1, (HX.out).2, hfr⟩
              case measure => simp [intOf]; omega
            · have hli : ¬ (1 : Int) < (l.length : Int) := by omega
              have HPOP := Lib.hid (show popP l = l by unfold popP; rw [if_neg hlen])
              have HX := Lib.hid (HEND.out (l) (by unfold cleanStep; rw [if_pos rfl, HE.out, HPOP.out]; rfl))
              go_wp2
              go_roundw
              case rel => exact ⟨k + 1, l, by omega, by go_num, hv, (HX.out).1, (HX.out).2, hfr⟩
              case measure => simp [intOf]; omega
          · have hd2' : ¬ pb.toList = [46, 46] := fun e => hd2 (hpt.symm.trans e)
            have hd2b : (pb.toList == [46, 46]) = false := beq_eq_false_iff_ne.2 hd2'
            by_cases hd1 : p = dotP
            · subst hd1
              have hpl : pb.toList = [46] := hpt
              clear hpt
              have HX := Lib.hid (HEND.out (l) (by unfold cleanStep; rw [if_neg hd2, if_pos rfl, HE.out]; rfl))
              clear hd2
              go_wp2
              go_roundw
              case rel => exact ⟨k + 1, l, by omega, by go_num, hv, (HX.out).1, (HX.out).2, hfr⟩
              case measure => simp [intOf]; omega
            · have hd1' : ¬ pb.toList = [46] := fun e => hd1 (hpt.symm.trans e)
              have hd1b : (pb.toList == [46]) = false := beq_eq_false_iff_ne.2 hd1'
              have HX := Lib.hid (HEND.out (l ++ [p]) (by unfold cleanStep; rw [if_neg hd2, if_neg hd1]))
              clear hd2 hd1 hpt
              go_wp2_with (at_builtin; refine wpList_str rfl _ _ rfl (w.heap.size + 1) (.slice av _ cv) (wordsB l) rfl (by apply Strs.alloc; exact hv) ⟨wr.heap.size, 0, none⟩ 1 pb rfl (new_cell _ _ _ _) (by rw [wordsB_length]; omega) (by simp; omega) ?_; intro v2 w3 hv3 hg3)
              have HF3 := Lib.hid ((hfr.alloc (.cells #[.string pb] 9)).grownNew hg3 (fun j hj => by have := hv.block j hj; omega))
              go_roundw
              case rel => exact ⟨k + 1, l ++ [p], by omega, by go_num, by rw [wordsB_app, ← HPB.out]; exact hv3, (HX.out).1, (HX.out).2, HF3.out⟩
              case measure => simp [intOf]; omega
      · have hki : ¬ (k : Int) < (parts.length : Int) := by omega
        have he : l = cleanParts s.data.toList := by
          have := HG.out
          rw [List.drop_of_length_le (by omega)] at this
          exact this
        have hj := Lib.hid (HJOIN.out _ wr l hv (by omega) he hfr)
        clear he
        go_wp2_with fail
        refine hj.out.mono ?_
        rintro e w9 ⟨rfl, hf9⟩
        go_wp2
        go_ret
        exact ⟨rfl, hf9⟩
  · have e := hty hpre
    have HSP2 := HSP.out
    rw [e] at HSP2
    clear hty htn ht e hparts
    go_enter Tryz.func68, Tryz.ntmps68
    go_wp2_with fail
    refine HPRE.out.mono ?_
    rintro e u ⟨rfl, rfl⟩
    rw [show Lib.hasPrefix s.data.toList (⟨#[47]⟩ : ByteArray).data.toList = true from hpre]
    go_wp2_with fail
    refine HSP2.mono ?_
    rintro e u ⟨rfl, rfl⟩
    go_wp2
    go_loopw [3, 17] (ClRel s.data.toList (w.heap.size + 1) W parts) (fun _ i _ => parts.length - (intOf i).toNat)
    case atStart => exact ⟨0, [], Nat.zero_le _, rfl, Strs.nil _ _, Nat.le_refl _, by rw [List.drop_zero]; exact HGO.out, Fr.refl _ _⟩
    case round =>
      obtain ⟨k, l, hk, rfl, hv, hlk, hgo, hfr⟩ := hrel
      have HG := Lib.hid hgo
      clear hgo
      obtain ⟨av, cv, hvf⟩ := hv.form
      rw [wordsB_length] at hvf
      subst hvf
      have hs1 : w.heap.size + 1 ≤ wr.heap.size := by have := hfr.size; omega
      by_cases hks : k < parts.length
      · have hki : (k : Int) < (parts.length : Int) := by omega
        obtain ⟨p, hp⟩ : ∃ p, parts[k]? = some p := ⟨_, List.getElem?_eq_getElem hks⟩
        have hcell := HCELL.out wr hfr k p hp
        have HDR := Lib.hid (show cleanGo l (parts.drop k) = cleanGo (cleanStep l p (parts.drop (k + 1)).isEmpty) (parts.drop (k + 1)) by rw [drop_step hp]; rfl)
        clear hp
        have hpt : (⟨p.toArray⟩ : ByteArray).toList = p := by rw [ByteArray.toList_eq]
        obtain ⟨pb, hpb⟩ : ∃ pb : ByteArray, pb = ⟨p.toArray⟩ := ⟨_, rfl⟩
        rw [← hpb] at hcell hpt
        have HPB := Lib.hid hpb
        clear hpb
        have HEND := Lib.hid (show ∀ (l' : List (List UInt8)), l' = cleanStep l p (parts.drop (k + 1)).isEmpty → l'.length ≤ k + 1 ∧ cleanGo l' (parts.drop (k + 1)) = cleanParts s.data.toList from fun l' e => by
          have := step_len l p (parts.drop (k + 1)).isEmpty
          rw [e]
          exact ⟨by omega, by rw [← HDR.out]; exact HG.out⟩)
        by_cases hla : k + 1 = parts.length
        · have HE := Lib.hid (show (parts.drop (k + 1)).isEmpty = true by rw [hla]; simp)
          have hl1 : ((k : Int) == (parts.length : Int) - 1) = true := beq_iff_eq.2 (by omega)
          clear hla
          by_cases hd2 : p = dotsP
          · subst hd2
            have hpl : pb.toList = [46, 46] := hpt
            clear hpt
            by_cases hlen : 1 < l.length
            · have hli : (1 : Int) < (l.length : Int) := by omega
              obtain ⟨l0, x, hl0⟩ : ∃ l0 x, l = l0 ++ [x] := ⟨l.dropLast, l.getLast (by intro e; rw [e] at hlen; simp at hlen), (List.dropLast_concat_getLast _).symm⟩
              have hll : l.length = l0.length + 1 := by rw [hl0]; simp
              obtain ⟨ad, had⟩ : ∃ ad, av = some ad := by
                cases av with
                | none => exact absurd (words_none hv) (by omega)
                | some ad => exact ⟨ad, rfl⟩
              subst had
              have HPOP := Lib.hid (show popP l = l0 by unfold popP; rw [if_pos hlen, hl0]; simp)
              rw [hl0, wordsB_app] at hv
              rw [hll]
              rw [show (l0 ++ [x]).length = (wordsB l0).length + 1 from by rw [wordsB_length]; simp] at hv
              replace hv := Strs.pop hv
              rw [wordsB_length] at hv
              have q1 : (0 : Int) ≤ (l0.length : Int) := by omega
              have q4 : (l0.length : Int) ≤ (cv : Int) := by have := Strs.cap hv; rw [wordsB_length] at this; omega
              have q5 : l0.length ≤ cv := by omega
              have q2 : (1 : Int) < (l0.length : Int) + 1 := by omega
              have q3 : (l0.length : Int) + 1 - 1 = (l0.length : Int) := by omega
              clear hli hl0
              have HX := Lib.hid (HEND.out (l0 ++ [[]]) (by unfold cleanStep; rw [if_pos rfl, HE.out, HPOP.out]; rfl))
              go_wp2_with (at_builtin; refine wpList_str rfl _ _ rfl (w.heap.size + 1) (.slice (some ad) _ cv) (wordsB l0) rfl (by apply Strs.alloc; exact hv) ⟨wr.heap.size, 0, none⟩ 1 ⟨#[]⟩ rfl (new_cell _ _ _ _) (by rw [wordsB_length]; omega) (by simp; omega) ?_; intro v2 w3 hv3 hg3)
              have HF3 := Lib.hid ((hfr.alloc (.cells #[.string ⟨#[]⟩] 9)).grownNew hg3 (fun j hj => by have := hv.block j hj; omega))
              go_roundw
              case rel => exact ⟨k + 1, l0 ++ [[]], by omega, by go_num, by rw [wordsB_app]; exact hv3, (HX.out).1, (HX.out).2, HF3.out⟩
              case measure => simp [intOf]; omega
            · have hli : ¬ (1 : Int) < (l.length : Int) := by omega
              have HPOP := Lib.hid (show popP l = l by unfold popP; rw [if_neg hlen])
              have HX := Lib.hid (HEND.out (l ++ [[]]) (by unfold cleanStep; rw [if_pos rfl, HE.out, HPOP.out]; rfl))
              go_wp2_with (at_builtin; refine wpList_str rfl _ _ rfl (w.heap.size + 1) (.slice av _ cv) (wordsB l) rfl (by apply Strs.alloc; exact hv) ⟨wr.heap.size, 0, none⟩ 1 ⟨#[]⟩ rfl (new_cell _ _ _ _) (by rw [wordsB_length]; omega) (by simp; omega) ?_; intro v2 w3 hv3 hg3)
              have HF3 := Lib.hid ((hfr.alloc (.cells #[.string ⟨#[]⟩] 9)).grownNew hg3 (fun j hj => by have := hv.block j hj; omega))
              go_roundw
              case rel => exact ⟨k + 1, l ++ [[]], by omega, by go_num, by rw [wordsB_app]; exact hv3, (HX.out).1, (HX.out).2, HF3.out⟩
              case measure => simp [intOf]; omega
          · have hd2' : ¬ pb.toList = [46, 46] := fun e => hd2 (hpt.symm.trans e)
            have hd2b : (pb.toList == [46, 46]) = false := beq_eq_false_iff_ne.2 hd2'
            by_cases hd1 : p = dotP
            · subst hd1
              have hpl : pb.toList = [46] := hpt
              clear hpt
              have HX := Lib.hid (HEND.out (l ++ [[]]) (by unfold cleanStep; rw [if_neg hd2, if_pos rfl, HE.out]; rfl))
              clear hd2
              go_wp2_with (at_builtin; refine wpList_str rfl _ _ rfl (w.heap.size + 1) (.slice av _ cv) (wordsB l) rfl (by apply Strs.alloc; exact hv) ⟨wr.heap.size, 0, none⟩ 1 ⟨#[]⟩ rfl (new_cell _ _ _ _) (by rw [wordsB_length]; omega) (by simp; omega) ?_; intro v2 w3 hv3 hg3)
              have HF3 := Lib.hid ((hfr.alloc (.cells #[.string ⟨#[]⟩] 9)).grownNew hg3 (fun j hj => by have := hv.block j hj; omega))
              go_roundw
              case rel => exact ⟨k + 1, l ++ [[]], by omega, by go_num, by rw [wordsB_app]; exact hv3, (HX.out).1, (HX.out).2, HF3.out⟩
              case measure => simp [intOf]; omega
            · have hd1' : ¬ pb.toList = [46] := fun e => hd1 (hpt.symm.trans e)
              have hd1b : (pb.toList == [46]) = false := beq_eq_false_iff_ne.2 hd1'
              have HX := Lib.hid (HEND.out (l ++ [p]) (by unfold cleanStep; rw [if_neg hd2, if_neg hd1]))
              clear hd2 hd1 hpt
              go_wp2_with (at_builtin; refine wpList_str rfl _ _ rfl (w.heap.size + 1) (.slice av _ cv) (wordsB l) rfl (by apply Strs.alloc; exact hv) ⟨wr.heap.size, 0, none⟩ 1 pb rfl (new_cell _ _ _ _) (by rw [wordsB_length]; omega) (by simp; omega) ?_; intro v2 w3 hv3 hg3)
              have HF3 := Lib.hid ((hfr.alloc (.cells #[.string pb] 9)).grownNew hg3 (fun j hj => by have := hv.block j hj; omega))
              go_roundw
              case rel => exact ⟨k + 1, l ++ [p], by omega, by go_num, by rw [wordsB_app, ← HPB.out]; exact hv3, (HX.out).1, (HX.out).2, HF3.out⟩
              case measure => simp [intOf]; omega
        · have HE := Lib.hid (show (parts.drop (k + 1)).isEmpty = false by
            cases e : parts.drop (k + 1) with
            | nil => have := congrArg List.length e; simp at this; omega
            | cons a b => rfl)
          have hl1 : ((k : Int) == (parts.length : Int) - 1) = false := beq_eq_false_iff_ne.2 (by omega)
          by_cases hd2 : p = dotsP
          · subst hd2
            have hpl : pb.toList = [46, 46] := hpt
            clear hpt
            by_cases hlen : 1 < l.length
            · have hli : (1 : Int) < (l.length : Int) := by omega
              obtain ⟨l0, x, hl0⟩ : ∃ l0 x, l = l0 ++ [x] := ⟨l.dropLast, l.getLast (by intro e; rw [e] at hlen; simp at hlen), (List.dropLast_concat_getLast _).symm⟩
              have hll : l.length = l0.length + 1 := by rw [hl0]; simp
              obtain ⟨ad, had⟩ : ∃ ad, av = some ad := by
                cases av with
                | none => exact absurd (words_none hv) (by omega)
                | some ad => exact ⟨ad, rfl⟩
              subst had
              have HPOP := Lib.hid (show popP l = l0 by unfold popP; rw [if_pos hlen, hl0]; simp)
              rw [hl0, wordsB_app] at hv
              rw [hll]
              rw [show (l0 ++ [x]).length = (wordsB l0).length + 1 from by rw [wordsB_length]; simp] at hv
              replace hv := Strs.pop hv
              rw [wordsB_length] at hv
              have q1 : (0 : Int) ≤ (l0.length : Int) := by omega
              have q4 : (l0.length : Int) ≤ (cv : Int) := by have := Strs.cap hv; rw [wordsB_length] at this; omega
              have q5 : l0.length ≤ cv := by omega
              have q2 : (1 : Int) < (l0.length : Int) + 1 := by omega
              have q3 : (l0.length : Int) + 1 - 1 = (l0.length : Int) := by omega
              clear hli hl0
              have HX := Lib.hid (HEND.out (l0) (by unfold cleanStep; rw [if_pos rfl, HE.out, HPOP.out]; rfl))
              go_wp2
              go_roundw
              case rel => exact ⟨k + 1, l0, by omega, by go_num, hv, (HX.out).1, (HX.out).2, hfr⟩
              case measure => simp [intOf]; omega
            · have hli : ¬ (1 : Int) < (l.length : Int) := by omega
              have HPOP := Lib.hid (show popP l = l by unfold popP; rw [if_neg hlen])
              have HX := Lib.hid (HEND.out (l) (by unfold cleanStep; rw [if_pos rfl, HE.out, HPOP.out]; rfl))
              go_wp2
              go_roundw
              case rel => exact ⟨k + 1, l, by omega, by go_num, hv, (HX.out).1, (HX.out).2, hfr⟩
              case measure => simp [intOf]; omega
          · have hd2' : ¬ pb.toList = [46, 46] := fun e => hd2 (hpt.symm.trans e)
            have hd2b : (pb.toList == [46, 46]) = false := beq_eq_false_iff_ne.2 hd2'
            by_cases hd1 : p = dotP
            · subst hd1
              have hpl : pb.toList = [46] := hpt
              clear hpt
              have HX := Lib.hid (HEND.out (l) (by unfold cleanStep; rw [if_neg hd2, if_pos rfl, HE.out]; rfl))
              clear hd2
              go_wp2
              go_roundw
              case rel => exact ⟨k + 1, l, by omega, by go_num, hv, (HX.out).1, (HX.out).2, hfr⟩
              case measure => simp [intOf]; omega
            · have hd1' : ¬ pb.toList = [46] := fun e => hd1 (hpt.symm.trans e)
              have hd1b : (pb.toList == [46]) = false := beq_eq_false_iff_ne.2 hd1'
              have HX := Lib.hid (HEND.out (l ++ [p]) (by unfold cleanStep; rw [if_neg hd2, if_neg hd1]))
              clear hd2 hd1 hpt
              go_wp2_with (at_builtin; refine wpList_str rfl _ _ rfl (w.heap.size + 1) (.slice av _ cv) (wordsB l) rfl (by apply Strs.alloc; exact hv) ⟨wr.heap.size, 0, none⟩ 1 pb rfl (new_cell _ _ _ _) (by rw [wordsB_length]; omega) (by simp; omega) ?_; intro v2 w3 hv3 hg3)
              have HF3 := Lib.hid ((hfr.alloc (.cells #[.string pb] 9)).grownNew hg3 (fun j hj => by have := hv.block j hj; omega))
              go_roundw
              case rel => exact ⟨k + 1, l ++ [p], by omega, by go_num, by rw [wordsB_app, ← HPB.out]; exact hv3, (HX.out).1, (HX.out).2, HF3.out⟩
              case measure => simp [intOf]; omega
      · have hki : ¬ (k : Int) < (parts.length : Int) := by omega
        have he : l = cleanParts s.data.toList := by
          have := HG.out
          rw [List.drop_of_length_le (by omega)] at this
          exact this
        have hj := Lib.hid (HJOIN.out _ wr l hv (by omega) he hfr)
        clear he
        go_wp2_with fail
        refine hj.out.mono ?_
        rintro e w9 ⟨rfl, hf9⟩
        go_wp2
        go_ret
        exact ⟨rfl, hf9⟩
end Go.Proofs.YtkoobhgedoanhaaGreatDoor
