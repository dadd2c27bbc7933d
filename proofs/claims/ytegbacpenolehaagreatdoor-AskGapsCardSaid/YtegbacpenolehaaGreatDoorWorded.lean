/- The fact 'worded' of the statements on words. -/
import Derived.Test.YtegbacpenolehaaGreatDoorList
namespace Go.Proofs.YtegbacpenolehaaGreatDoor
open Go.RowKit

theorem drewN_fr {S : Nat → Prop} {a w w' : World} (h : Fr S a w) (hw : ∃ n, w' = w.drewN n) : Fr S a w' := by
  obtain ⟨n, rfl⟩ := hw
  exact h.drewN n

theorem ListPost.isOk {s : ByteArray} {w w' : World} {e : Ending} {ws : List (List UInt8)} (h : ListPost s w e w') (hl : listAll s.data.toList = .ok ws) (hn : ws.length ≤ 40) :
    ∃ v, e = .returned (.tuple #[v, .nilIface]) ∧ Strs w.heap.size w' v (wordsB ws) ∧ Fr noB w w' := by
  obtain ⟨v, er, he, hf, hm⟩ := h
  rw [hl] at hm
  have hm' : if 40 < ws.length then v = .slice none 0 0 ∧ ErrIs w' er (some (4, none)) else Strs w.heap.size w' v (wordsB ws) ∧ er = .nilIface := hm
  rw [if_neg (show ¬ 40 < ws.length by omega)] at hm'
  obtain ⟨hv, hr⟩ := hm'
  exact ⟨v, by rw [he, hr], hv, hf⟩
theorem QuotePost.isOk {s : ByteArray} {w w' : World} {e : Ending} (h : QuotePost s w e w') (ht : textL s.data.toList = true) :
    e = .returned (.tuple #[.string ⟨(quoteL s.data.toList).toArray⟩, .nilIface]) ∧ Fr noB w w' := by
  obtain ⟨he, hf⟩ := h
  rw [if_pos ht] at he
  exact ⟨he, hf⟩
theorem QuotePost.isBad {s : ByteArray} {w w' : World} {e : Ending} (h : QuotePost s w e w') (ht : textL s.data.toList = false) :
    e = .returned (.tuple #[.string ⟨#[]⟩, .iface 30 (.int .i64 3)]) ∧ Fr noB w w' := by
  obtain ⟨he, hf⟩ := h
  rw [ht] at he
  exact ⟨he, hf⟩

theorem QuotedPost.isOk {b i j : Nat} {s : ByteArray} {w w' : World} {e : Ending} {a : List UInt8} (h : QuotedPost b s i w e w') (hq : quotedAt s.data.toList i = Option.some (a, j)) :
    e = .returned (.tuple #[.string ⟨a.toArray⟩, .bool true]) ∧ CurAt w' b s j ∧ Fr (one b) w w' := by
  obtain ⟨he, hc, hf⟩ := h
  rw [hq] at he
  have h1 : quotedText s.data.toList i = a := by simp [quotedText, hq]
  have h2 : quotedEnd s.data.toList i = j := by simp [quotedEnd, hq]
  rw [h1] at he
  rw [h2] at hc
  exact ⟨he, hc, hf⟩
theorem QuotedPost.isNone {b i : Nat} {s : ByteArray} {w w' : World} {e : Ending} (h : QuotedPost b s i w e w') (hq : quotedAt s.data.toList i = Option.none) :
    e = .returned (.tuple #[.string ⟨#[]⟩, .bool false]) ∧ CurAt w' b s i ∧ Fr (one b) w w' := by
  obtain ⟨he, hc, hf⟩ := h
  rw [hq] at he
  have h1 : quotedText s.data.toList i = [] := by simp [quotedText, hq]
  have h2 : quotedEnd s.data.toList i = i := by simp [quotedEnd, hq]
  rw [h1] at he
  rw [h2] at hc
  exact ⟨he, hc, hf⟩
/-- []string{a, b} in a new block -/
theorem strs_new2 (w : World) (x y : ByteArray) : StrsAt (w.alloc (.cells #[.string x, .string y] 9)) (.slice (some ⟨w.heap.size, 0, none⟩) 2 2) [x, y] := by
  refine Or.inr ⟨w.heap.size, 0, 2, rfl, Nat.le_refl _, by simp [maxLen], by simp, fun j z hj => ?_⟩
  rw [Nat.zero_add, World.cell?_alloc_mark]
  match j, hj with
  | 0, hj => simp at hj; subst hj; rfl
  | 1, hj => simp at hj; subst hj; rfl
theorem CurAt.frN {w w' : World} {b i : Nat} {s : ByteArray} (h : CurAt w b s i) (hf : Fr noB w w') : CurAt w' b s i := h.fr hf (fun h => h)

set_option maxRecDepth 100000 in
set_option maxHeartbeats 1000000 in
theorem worded_any (w : World) :
    Calls Tryz.prog 20 #[] w fun e w' => e = .returned (.bool true) ∧ Fr noB w w' := by
  go_enter Tryz.func20, Tryz.ntmps20
  go_wp2_with fail
  refine (List_any _ w (by decide)).mono ?_
  intro e w1 hp
  obtain ⟨v, rfl, hv, hf1⟩ := hp.isOk (ws := [[97], [98]]) (by kernel_rfl) (by decide)
  clear hp
  go_wp2_with fail
  refine (Quote_any _ w1 (by decide)).mono ?_
  intro e w2 hp
  obtain ⟨rfl, hf2⟩ := hp.isOk (by kernel_rfl)
  clear hp
  rw [show quoteL (ByteArray.mk #[97, 34, 98]).data.toList = [34, 97, 92, 34, 98, 34] from by kernel_rfl]
  go_wp2_with fail
  refine (On_any _ w2).mono ?_
  rintro e w3 ⟨rfl, hw3⟩
  have hc3 : CurAt w3 w2.heap.size ⟨#[34, 120, 92, 121, 34, 122]⟩ 0 := by rw [hw3]; exact new_block w2 _
  have hf3 : Fr noB w w3 := by rw [hw3]; exact (hf1.trans hf2).alloc _
  have hv2 := (hv.at).frNone hf2
  have hf23 : Fr noB w2 w3 := by rw [hw3]; exact (Fr.refl _ _).alloc _
  have hz := Lib.hid (show w.heap.size ≤ w2.heap.size from (hf1.trans hf2).size)
  clear hw3 hf1 hf2 hv
  go_wp2_with fail
  refine (Quoted_any _ _ _ w3 hc3 (by decide)).mono ?_
  intro e w4 hp
  obtain ⟨rfl, hc4, hf4⟩ := hp.isOk (a := [120, 121]) (j := 5) (by kernel_rfl)
  clear hp hc3
  have HF4 := hf3.newOne hf4 hz.out
  have hv4 := hv2.frNone (hf23.newOne hf4 (Nat.le_refl _))
  clear hf3 hf4 hv2 hf23
  go_wp2_with fail
  refine (EqualS_any _ _ _ _ _ (hv4.frNone ((Fr.refl _ _).alloc _)) (strs_new2 _ _ _) (by decide)).mono ?_
  rintro e w5 ⟨rfl, n5, hw5⟩
  rw [show decide (wordsB [[97], [98]] = [⟨#[97]⟩, ⟨#[98]⟩]) = true from by decide]
  have HF5 : Fr noB w w5 := by rw [hw5]; exact (HF4.alloc _).drewN _
  have hc5 : CurAt w5 w2.heap.size ⟨#[34, 120, 92, 121, 34, 122]⟩ 5 := by rw [hw5]; exact (hc4.alloc).drewN _
  clear hw5 hc4 HF4
  go_wp2_with fail
  refine (At_any _ _ _ w5 hc5).mono ?_
  rintro e w6 ⟨rfl, rfl⟩
  go_wp2_with fail
  refine (Same_any _ _ w5 (by decide) (by decide)).mono ?_
  rintro e w7 ⟨rfl, hf7⟩
  rw [show sameL (ByteArray.mk #[97, 66]).data.toList (ByteArray.mk #[65, 98]).data.toList = true from by kernel_rfl]
  go_wp2_with fail
  refine (Is_any _ w7 (by decide)).mono ?_
  rintro e w8 ⟨rfl, rfl⟩
  rw [show isL (ByteArray.mk #[120, 45, 49]).data.toList = true from by kernel_rfl]
  go_wp2
  go_ret
  exact ⟨rfl, HF5.trans hf7⟩
end Go.Proofs.YtegbacpenolehaaGreatDoor
