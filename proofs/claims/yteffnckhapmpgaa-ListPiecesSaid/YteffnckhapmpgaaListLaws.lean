/- The walk of the law ListBack. -/
import Derived.Test.YteffnckhapmpgaaFuncS
namespace Go.Proofs.Yteffnckhapmpgaa
open Go.RowKit

theorem wordsB_of (ss : List ByteArray) : wordsB (ss.map (·.data.toList)) = ss := by
  induction ss with
  | nil => rfl
  | cons s ss ih => simp [wordsB] at ih ⊢; exact ih
theorem wordsOfB_parts {ss : List ByteArray} (h : wordsOfB ss = true) : ss.length ≤ 20 ∧ ∀ s ∈ ss, s.size ≤ 30 ∧ isL s.data.toList = true := by
  unfold wordsOfB at h
  simp only [Bool.and_eq_true, decide_eq_true_eq, Bool.not_eq_true', List.any_eq_false] at h
  refine ⟨h.1, fun s hs => ?_⟩
  have := h.2 s hs
  unfold longOrNot at this
  simp only [Bool.or_eq_true, decide_eq_true_eq, Bool.not_eq_true', not_or, Nat.not_lt, Bool.not_eq_false] at this
  exact this
theorem joinB_len : ∀ (ss : List ByteArray), (∀ s ∈ ss, s.size ≤ 30) → (joinB ss).length ≤ 32 * ss.length
  | [], _ => by simp [joinB, Lib.join_nil]
  | [s], h => by
    have := h s (by simp)
    unfold joinB; simp only [List.map_cons, List.map_nil, Lib.join_one]
    simp; omega
  | s :: s2 :: r, h => by
    have ih := joinB_len (s2 :: r) (fun x hx => h x (List.mem_cons_of_mem _ hx))
    have := h s (by simp)
    have e : joinB (s :: s2 :: r) = s.data.toList ++ (44 :: 32 :: joinB (s2 :: r)) := by
      unfold joinB; simp only [List.map_cons]; rw [Lib.join_cons, Lib.join_cons]; simp [Lib.joinTail]
    rw [e]; simp at ih ⊢; omega

theorem ListPost.isErr {s : ByteArray} {w w' : World} {e : Ending} (h : ListPost s w e w') (hl : ∀ ws, listAll s.data.toList = .ok ws → 40 < ws.length) :
    ∃ v t x, e = .returned (.tuple #[v, .iface t x]) ∧ Fr noB w w' := by
  obtain ⟨v, er, he, hf, hm⟩ := h
  cases hr : listAll s.data.toList with
  | ok ws =>
    rw [hr] at hm
    have hm' : if 40 < ws.length then v = .slice none 0 0 ∧ ErrIs w' er (some (4, none)) else Strs w.heap.size w' v (wordsB ws) ∧ er = .nilIface := hm
    rw [if_pos (hl ws hr)] at hm'
    obtain ⟨_, hv⟩ := hm'
    exact ⟨v, _, _, by rw [he, show er = _ from hv], hf⟩
  | error m =>
    rw [hr] at hm
    obtain ⟨_, g, hv, _⟩ := hm
    exact ⟨v, _, _, by rw [he, hv], hf⟩
theorem list_or (l : List UInt8) : (∃ ws, listAll l = .ok ws ∧ ws.length ≤ 40) ∨ (∀ ws, listAll l = .ok ws → 40 < ws.length) := by
  cases h : listAll l with
  | ok ws =>
    by_cases hn : ws.length ≤ 40
    · exact Or.inl ⟨ws, rfl, hn⟩
    · refine Or.inr fun ws' h' => ?_
      cases h'; omega
  | error m => exact Or.inr fun ws' h' => by cases h'
theorem listAll_len {l : List UInt8} {ws : List (List UInt8)} (h : listAll l = .ok ws) : ∀ w ∈ ws, w.length ≤ l.length := by
  have key : ∀ (f : Nat) (r : List UInt8) (ws : List (List UInt8)), listN f r = .ok ws → ∀ w ∈ ws, w.length ≤ r.length := by
    intro f
    induction f with
    | zero => intro r ws h w hw; rw [listN] at h; cases h; cases hw
    | succ f ih =>
      intro r ws h w hw
      rw [listN] at h
      try simp only at h
      have l1 := (List.dropWhile_suffix (p := blankB) (l := r)).length_le
      have l2 := (List.takeWhile_prefix (p := byteB) (l := r.dropWhile blankB)).length_le
      have l3 := (List.dropWhile_suffix (p := byteB) (l := r.dropWhile blankB)).length_le
      have l4 := (List.dropWhile_suffix (p := blankB) (l := (r.dropWhile blankB).dropWhile byteB)).length_le
      have one : ∀ x ∈ (if ((r.dropWhile blankB).takeWhile byteB).isEmpty then [] else [(r.dropWhile blankB).takeWhile byteB]), x.length ≤ r.length := by
        intro x hx
        by_cases he : ((r.dropWhile blankB).takeWhile byteB).isEmpty = true
        · rw [if_pos he] at hx; cases hx
        · rw [if_neg he] at hx; simp at hx; subst hx; omega
      cases e : ((r.dropWhile blankB).dropWhile byteB).dropWhile blankB with
      | nil => rw [e] at h; simp only at h; cases h; exact one w hw
      | cons c r4 =>
        rw [e] at h l4
        simp at l4
        simp only at h
        by_cases hc : (c == 44) = true
        · rw [if_pos hc] at h
          cases hr : listN f r4 with
          | error m => rw [hr] at h; cases h
          | ok ws2 =>
            rw [hr] at h
            simp only [Except.map] at h
            cases h
            rcases List.mem_append.1 hw with g | g
            · exact one w g
            · have := ih r4 ws2 hr w g; omega
        · rw [if_neg hc] at h; cases h
  exact key _ _ _ h

theorem wordsB_mem {ws : List (List UInt8)} {x : ByteArray} (h : x ∈ wordsB ws) : x.data.toList ∈ ws := by
  unfold wordsB at h
  obtain ⟨w, hw, rfl⟩ := List.mem_map.1 h
  exact hw

set_option maxRecDepth 100000 in
set_option maxHeartbeats 2000000 in
theorem ListBack_walk (v0 : Value) (ss : List ByteArray) (a1 : ByteArray) (z1 : a1.size ≤ 140737488351232) (w : World) (st0 : StrsAt w v0 ss) :
    Calls Try.prog 12 #[v0, .string a1] w fun e w' => e = .returned (.bool true) ∧ Below w.heap.size w w' := by
  obtain ⟨av, cv, hform⟩ := st0.form
  subst hform
  go_enter Try.func12, Try.ntmps12
  go_wp2_with fail
  refine (worded_any w).mono ?_
  rintro e u1 ⟨rfl, hf1⟩
  by_cases hlen : 300 < a1.size
  · have hlen' : (300 : Int) < (a1.size : Int) := by omega
    go_wp2
    go_ret
    exact ⟨rfl, hf1.none_below⟩
  · have hlen' : ¬ (300 : Int) < (a1.size : Int) := by omega
    have st1 := st0.frNone hf1
    go_wp2_with fail
    refine (wordsOf_any _ ss u1 st1).mono ?_
    rintro e u2 ⟨rfl, hf2⟩
    have st2 := st1.frNone hf2
    have HF2 := hf1.trans hf2
    clear st0 st1 hf1 hf2
    cases hw : wordsOfB ss
    · clear hw
      go_wp2_with fail
      refine (List_any a1 u2 (by omega)).mono ?_
      intro e x3 hp
      rcases list_or a1.data.toList with ⟨ws, hl, hn⟩ | hbad
      · obtain ⟨v, rfl, hv, hf3⟩ := hp.isOk hl hn
        have hany := Lib.hid (show (wordsB ws).any (fun s => !isL s.data.toList) = false by
          rw [List.any_eq_false]; intro x hx; simp [listN_words _ _ _ hl _ (wordsB_mem hx)])
        have hls := Lib.hid (show ∀ x ∈ wordsB ws, x.size < 17592186044416 by
          intro x hx; have h := listAll_len hl _ (wordsB_mem hx); simp at h; omega)
        have hwl : (wordsB ws).length ≤ maxLen := by rw [wordsB_len]; unfold maxLen; omega
        clear hp hl hn
        go_wp2_with fail
        refine (ContainsFuncS_any (fun _ => True) _ #[] (fun s => !isL s.data.toList) v (wordsB ws) x3 Try.call50 trivial (fun x hx u _ => (ListBack1_any x u (hls.out x hx)).mono fun e u' ⟨he, hu⟩ => ⟨he, hu ▸ Fr.refl _ _, trivial⟩) hv.at hwl).mono ?_
        rintro e x4 ⟨rfl, hf4, _⟩
        rw [hany.out]
        go_wp2
        go_ret
        exact ⟨rfl, ((HF2.trans hf3).trans hf4).none_below⟩
      · obtain ⟨v, ty, x, rfl, hf3⟩ := hp.isErr hbad
        clear hp hbad
        go_wp2
        go_ret
        exact ⟨rfl, (HF2.trans hf3).none_below⟩
    · obtain ⟨hn, hall⟩ := wordsOfB_parts hw
      have HN := Lib.hid hn
      have HALL := Lib.hid hall
      have hjl := joinB_len ss (fun s hs => (hall s hs).1)
      have hJ : listAll (joinB ss) = .ok (ss.map (·.data.toList)) := listAll_join _ (fun x hx => by obtain ⟨s, hs, rfl⟩ := List.mem_map.1 hx; exact (hall s hs).2)
      have hJz : (joinB ss).length ≤ 640 := by omega
      have HJ := Lib.hid hJ
      have HJZ := Lib.hid hJz
      clear hw hn hall hjl hJ hJz
      go_wp2_with fail
      refine (Join_any _ ss u2 st2 (by have := HN.out; omega) (by have := HJZ.out; omega)).mono ?_
      rintro e u3 ⟨rfl, hf3⟩
      have st3 := st2.frNone hf3
      have HF3 := HF2.trans hf3
      have hsz : (⟨(joinB ss).toArray⟩ : ByteArray).size < 4398046511104 := by have := HJZ.out; show (joinB ss).toArray.size < _; simp; omega
      go_wp2_with fail
      refine (List_any _ u3 hsz).mono ?_
      intro e u4 hp
      obtain ⟨v, rfl, hv, hf4⟩ := hp.isOk (ws := ss.map (·.data.toList)) HJ.out (by have := HN.out; simp; omega)
      rw [wordsB_of] at hv
      have st4 := st3.frNone hf4
      have HF4 := HF3.trans hf4
      clear hp st2 st3 hf3 hf4 HF2 HF3 hsz
      go_wp2_with fail
      refine (EqualS_any _ _ ss ss u4 hv.at st4 (by have := HN.out; unfold maxLen; omega)).mono ?_
      rintro e u5 ⟨rfl, n5, hu5⟩
      rw [show decide (ss = ss) = true from by simp]
      have HF5 : Fr noB w u5 := by rw [hu5]; exact HF4.drewN _
      clear hu5 HF4 hv st4
      go_wp2_with fail
      refine (List_any a1 u5 (by omega)).mono ?_
      intro e x3 hp
      rcases list_or a1.data.toList with ⟨ws, hl, hn⟩ | hbad
      · obtain ⟨v, rfl, hv, hf3⟩ := hp.isOk hl hn
        have hany := Lib.hid (show (wordsB ws).any (fun s => !isL s.data.toList) = false by
          rw [List.any_eq_false]; intro x hx; simp [listN_words _ _ _ hl _ (wordsB_mem hx)])
        have hls := Lib.hid (show ∀ x ∈ wordsB ws, x.size < 17592186044416 by
          intro x hx; have h := listAll_len hl _ (wordsB_mem hx); simp at h; omega)
        have hwl : (wordsB ws).length ≤ maxLen := by rw [wordsB_len]; unfold maxLen; omega
        clear hp hl hn
        go_wp2_with fail
        refine (ContainsFuncS_any (fun _ => True) _ #[] (fun s => !isL s.data.toList) v (wordsB ws) x3 Try.call50 trivial (fun x hx u _ => (ListBack1_any x u (hls.out x hx)).mono fun e u' ⟨he, hu⟩ => ⟨he, hu ▸ Fr.refl _ _, trivial⟩) hv.at hwl).mono ?_
        rintro e x4 ⟨rfl, hf4, _⟩
        rw [hany.out]
        go_wp2
        go_ret
        exact ⟨rfl, ((HF5.trans hf3).trans hf4).none_below⟩
      · obtain ⟨v, ty, x, rfl, hf3⟩ := hp.isErr hbad
        clear hp hbad
        go_wp2
        go_ret
        exact ⟨rfl, (HF5.trans hf3).none_below⟩
end Go.Proofs.Yteffnckhapmpgaa
