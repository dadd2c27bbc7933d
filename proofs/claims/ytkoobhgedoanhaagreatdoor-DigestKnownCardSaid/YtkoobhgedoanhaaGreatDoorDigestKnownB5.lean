/- Package ask: the reader: single. The fact 'worded' of the statements on words. Package ask: the reader: fail, param. -/
import Derived.Test.YtkoobhgedoanhaaGreatDoorDigestKnownB4
import Derived.Test.YtkoobhgedoanhaaGreatDoorShelf
import Derived.Lib.SlTrimSet
import Derived.Shelf.Strings.SlTrimAscii
import Derived.Deep.RegionHeld3
import Derived.Test.YtkoobhgedoanhaaGreatDoorDigestKnownB2
import Derived.Deep.AppendLies
import Derived.Deep.RegionLaw
import Derived.Deep.DeepCutAuto
namespace Go.Proofs.YtkoobhgedoanhaaGreatDoor
open Go.RowKit

/-- strings.TrimLeft by ASCII bytes -/
theorem TrimL_any (s cs : ByteArray) (w : World) (hcs : cs.size < 4294967281) (hascii : ∀ b ∈ cs.data.toList, b.toNat < 128) :
    Calls Tryz.prog 156 #[.string s, .string cs] w fun e w' => e = .returned (.string ⟨(s.data.toList.dropWhile (cs.data.toList.contains ·)).toArray⟩) ∧ Fr noB w w' := by
  refine (Any.strings_TrimLeft_laid Tryz.lays161 (by kernel_rfl) s cs w hcs (fun j b hj => hascii b (List.mem_of_getElem? hj))).mono ?_
  rintro e w' ⟨he, hb⟩
  exact ⟨he, Fr.of_below hb⟩
theorem wrap_in {x : Int} (h : -9223372036854775808 ≤ x) (h2 : x < 9223372036854775808) : IntKind.i64.wrap x = x := by
  simp [IntKind.wrap, IntKind.signed, IntKind.bits]; omega
def tokA : ByteArray := ⟨tokSet.toArray⟩
theorem tok_ascii : ∀ b ∈ tokA.data.toList, b.toNat < 128 := by decide +kernel

/-- how far the signs of a token reach; and the = behind -/
def sgN (s : ByteArray) (i : Nat) : Nat := (singleN (s.data.toList.drop i)).length
def sgM (s : ByteArray) (i : Nat) : Nat := (singleM (s.data.toList.drop i)).length
theorem sg_le (s : ByteArray) {i : Nat} (h : i ≤ s.size) : i + sgN s i + sgM s i ≤ s.size := by
  have h1 := split_len tokB (s.data.toList.drop i)
  have h2 := split_len eqB ((s.data.toList.drop i).dropWhile tokB)
  unfold sgN sgM singleN singleM
  simp at h1; omega
theorem drop_take {p : UInt8 → Bool} (l : Bs) (i : Nat) : l.drop (i + ((l.drop i).takeWhile p).length) = (l.drop i).dropWhile p := by
  rw [← List.drop_drop, ← dropWhile_eq_drop]
theorem sg_drop1 (s : ByteArray) (i : Nat) : s.data.toList.drop (i + sgN s i) = (s.data.toList.drop i).dropWhile tokB := drop_take _ _
theorem sg_drop2 (s : ByteArray) (i : Nat) : s.data.toList.drop (i + sgN s i + sgM s i) = singleZ (s.data.toList.drop i) := by
  unfold sgM singleM singleZ
  rw [← sg_drop1]
  exact drop_take _ _
theorem ext_data (s : ByteArray) (i : Nat) : (s.extract i s.size).data.toList = s.data.toList.drop i := by
  rw [Lib.extract_data, List.take_of_length_le (by simp)]
theorem sg_text (s : ByteArray) (i : Nat) : s.extract i (i + sgN s i + sgM s i) = ⟨(singleN (s.data.toList.drop i) ++ singleM (s.data.toList.drop i)).toArray⟩ := by
  apply Go.WideShapes.bytes_inj
  rw [Lib.extract_data]
  show _ = singleN (s.data.toList.drop i) ++ singleM (s.data.toList.drop i)
  have e1 : singleN (s.data.toList.drop i) ++ (singleM (s.data.toList.drop i) ++ singleZ (s.data.toList.drop i)) = s.data.toList.drop i := by
    unfold singleN singleM singleZ
    rw [List.takeWhile_append_dropWhile, List.takeWhile_append_dropWhile]
  have e2 : i + sgN s i + sgM s i - i = (singleN (s.data.toList.drop i) ++ singleM (s.data.toList.drop i)).length := by
    unfold sgN sgM; rw [List.length_append]; omega
  have key : ∀ (A B Z D : Bs), A ++ (B ++ Z) = D → D.take (A ++ B).length = A ++ B := by
    intro A B Z D h
    subst h
    rw [← List.append_assoc, List.take_left' rfl]
  rw [e2]
  exact key _ _ _ _ e1
def SinglePost (c i : Nat) (s : ByteArray) (w : World) (e : Ending) (w' : World) : Prop :=
  Fr (one c) w w' ∧ match singleR (s.data.toList.drop i) with
    | some q => e = .returned (.tuple #[.string ⟨q.1.toArray⟩, .bool true]) ∧ ∃ j, j ≤ s.size ∧ CurAt w' c s j ∧ s.data.toList.drop j = q.2
    | none => e = .returned (.tuple #[.string ⟨#[]⟩, .bool false]) ∧ CurAt w' c s i
theorem SinglePost.hit {c i j : Nat} {s : ByteArray} {w w' : World} {q : Bs × Bs} (h : singleR (s.data.toList.drop i) = some q) (hf : Fr (one c) w w') (hj : j ≤ s.size) (hc : CurAt w' c s j) (hd : s.data.toList.drop j = q.2) :
    SinglePost c i s w (.returned (.tuple #[.string ⟨q.1.toArray⟩, .bool true])) w' := by
  refine ⟨hf, ?_⟩
  rw [h]; exact ⟨rfl, j, hj, hc, hd⟩
theorem SinglePost.no {c i : Nat} {s : ByteArray} {w w' : World} (h : singleR (s.data.toList.drop i) = none) (hf : Fr (one c) w w') (hc : CurAt w' c s i) :
    SinglePost c i s w (.returned (.tuple #[.string ⟨#[]⟩, .bool false])) w' := by
  refine ⟨hf, ?_⟩
  rw [h]; exact ⟨rfl, hc⟩
theorem Fr.ofNone {S : Nat → Prop} {w w' : World} (h : Fr noB w w') : Fr S w w' := h.mono (fun _ _ h => absurd h (fun h => h))

set_option maxRecDepth 100000 in
set_option maxHeartbeats 4000000 in
theorem single_any (b c i : Nat) (s : ByteArray) (v : Value) (w : World) (hr : RdrAt w b c s v) (h : CurAt w c s i) (hs : s.size < 100000) (hi : i ≤ s.size) :
    Calls Tryz.prog 114 #[.pointer (some ⟨b, 0, none⟩)] w (SinglePost c i s w) := by
  have hm : s.size ≤ maxLen := by unfold maxLen; omega
  have q0 := hr.cell0
  have q1 := hr.cell1
  have hle := sg_le s hi
  have HD1 := Lib.hid (sg_drop1 s i)
  have HD2 := Lib.hid (sg_drop2 s i)
  have HT := Lib.hid (sg_text s i)
  have HR := Lib.hid (show singleR (s.data.toList.drop i) = if decide (0 < sgN s i) && overB (s.data.toList.drop (i + sgN s i + sgM s i)) then some (singleN (s.data.toList.drop i) ++ singleM (s.data.toList.drop i), blanksR (s.data.toList.drop (i + sgN s i + sgM s i))) else none by
    unfold singleR
    rw [sg_drop2]
    have : (!(singleN (s.data.toList.drop i)).isEmpty) = decide (0 < sgN s i) := by
      unfold sgN
      cases singleN (s.data.toList.drop i) <;> simp
    rw [this])
  have T1 := Lib.hid (show ∀ U, Calls Tryz.prog 156 #[.string (s.extract i s.size), .string tokA] U fun e w' => e = .returned (.string (s.extract (i + sgN s i) s.size)) ∧ Fr noB U w' from fun U => by
    have e1 : s.extract (i + sgN s i) s.size = ⟨((s.extract i s.size).data.toList.dropWhile (tokA.data.toList.contains ·)).toArray⟩ := by
      apply Go.WideShapes.bytes_inj
      rw [ext_data, ext_data, sg_drop1]
      rfl
    rw [e1]
    exact TrimL_any _ _ U (by decide) tok_ascii)
  have T2 := Lib.hid (show ∀ U, Calls Tryz.prog 156 #[.string (s.extract (i + sgN s i) s.size), .string ⟨#[61]⟩] U fun e w' => e = .returned (.string (s.extract (i + sgN s i + sgM s i) s.size)) ∧ Fr noB U w' from fun U => by
    have e1 : s.extract (i + sgN s i + sgM s i) s.size = ⟨((s.extract (i + sgN s i) s.size).data.toList.dropWhile ((⟨#[61]⟩ : ByteArray).data.toList.contains ·)).toArray⟩ := by
      apply Go.WideShapes.bytes_inj
      rw [ext_data, ext_data, sg_drop1, sg_drop2]
      rfl
    rw [e1]
    exact TrimL_any _ _ U (by decide) (by decide))
  generalize hN : sgN s i = N at *
  generalize hM : sgM s i = M at *
  clear hN hM
  generalize singleN (s.data.toList.drop i) ++ singleM (s.data.toList.drop i) = TX at *
  have hJ1 : i ≤ i + N := by omega
  have hJ2 : i + N ≤ i + N + M := by omega
  have hJN : i + N - i = N := by omega
  have hLM : i + N + M - (i + N) = M := by omega
  generalize hL : i + N + M = L at *
  generalize hJ : i + N = J at *
  have E1 := Lib.hid hJ
  have E2 := Lib.hid hL
  clear hL hJ
  have HNM := Lib.hid (And.intro hJN hLM)
  clear hJN hLM
  have hz1 : (s.extract i s.size).size = s.size - i := by rw [ByteArray.size_extract]; omega
  have hz2 : (s.extract J s.size).size = s.size - J := by rw [ByteArray.size_extract]; omega
  have hz3 : (s.extract L s.size).size = s.size - L := by rw [ByteArray.size_extract]; omega
  have W1 := Lib.hid (show IntKind.i64.wrap (((s.size - i : Nat) : Int) - ((s.size - J : Nat) : Int)) = (N : Int) by
    have e := HNM.out.1
    rw [show (((s.size - i : Nat) : Int) - ((s.size - J : Nat) : Int)) = (N : Int) from by omega]
    exact wrap_in (by omega) (by omega))
  have W2 := Lib.hid (show IntKind.i64.wrap (((s.size - J : Nat) : Int) - ((s.size - L : Nat) : Int)) = (M : Int) by
    have e := HNM.out.2
    rw [show (((s.size - J : Nat) : Int) - ((s.size - L : Nat) : Int)) = (M : Int) from by omega]
    exact wrap_in (by omega) (by omega))
  have W3 := Lib.hid (show IntKind.i64.wrap ((i : Int) + (N : Int)) = (J : Int) by
    have e := HNM.out.1
    rw [show ((i : Int) + (N : Int)) = (J : Int) from by omega]
    exact wrap_in (by omega) (by omega))
  have W4 := Lib.hid (show IntKind.i64.wrap ((J : Int) + (M : Int)) = (L : Int) by
    have e := HNM.out.2
    rw [show ((J : Int) + (M : Int)) = (L : Int) from by omega]
    exact wrap_in (by omega) (by omega))
  have HRC := Lib.hid (show ∀ U, Fr noB w U → RdrAt U b c s v ∧ CurAt U c s i from fun U hU => ⟨hr.fr hU (fun h => h), h.fr hU (fun h => h)⟩)
  go_enter Tryz.func114, Tryz.ntmps114
  go_wp2_with fail
  refine (At_any c s i w h).mono ?_
  rintro e w0 ⟨rfl, rfl⟩
  have b1 : (0 : Int) ≤ (i : Int) := by omega
  have b2 : (i : Int) ≤ (s.size : Int) := by omega
  go_wp2_with fail
  go_region_held3 (fun U => U.cell? ⟨b, 1, none⟩ = some (.string s)) ((refine (HRC.out _ ?_).1.cell1; repeat (first | exact Fr.refl _ _ | apply Fr.alloc | apply Fr.drew | refine Fr.trans ?_ (by assumption)))) ((go_at_call 156; refine (T1.out _).mono ?_; rintro e v1 ⟨rfl, hv1⟩))
  rw [W1.out]
  obtain ⟨hr1, hc1⟩ := HRC.out v1 (by repeat (first | exact Fr.refl _ _ | apply Fr.alloc | apply Fr.drew | apply Fr.drewN | refine Fr.trans ?_ (by assumption)))
  have HF1 := Lib.hid (show Fr noB w v1 from (by repeat (first | exact Fr.refl _ _ | apply Fr.alloc | apply Fr.drew | apply Fr.drewN | refine Fr.trans ?_ (by assumption))))
  clear hv1
  have q1 := hr1.cell1
  have b3 : (0 : Int) ≤ (J : Int) := by omega
  have b4 : (J : Int) ≤ (s.size : Int) := by omega
  have w3 := W3.out
  go_wp2_with fail
  go_region_held3 (fun U => U.cell? ⟨b, 1, none⟩ = some (.string s)) ((refine (HRC.out _ ?_).1.cell1; repeat (first | exact Fr.refl _ _ | exact HF1.out | apply Fr.alloc | apply Fr.drew | refine Fr.trans ?_ (by assumption)))) ((go_at_call 156; refine (T2.out _).mono ?_; rintro e v2 ⟨rfl, hv2⟩))
  rw [W2.out]
  obtain ⟨hr2, hc2⟩ := HRC.out v2 (by repeat (first | exact Fr.refl _ _ | exact HF1.out | apply Fr.alloc | apply Fr.drew | apply Fr.drewN | refine Fr.trans ?_ (by assumption)))
  have HF2 := Lib.hid (show Fr noB w v2 from (by repeat (first | exact Fr.refl _ _ | exact HF1.out | apply Fr.alloc | apply Fr.drew | apply Fr.drewN | refine Fr.trans ?_ (by assumption))))
  clear hv2 q1 hr1 hc1
  have q0 := hr2.cell0
  have q1 := hr2.cell1
  have w4 := W4.out
  go_wp2_with fail
  refine (Go_any c s i L v2 hc2 hm).mono ?_
  rintro e v3 ⟨rfl, hc3, hf3⟩
  rw [goTo_at hle] at hc3
  have hr3 := hr2.one hc2 hf3
  have HF3 := Lib.hid (HF2.out.ofNone.trans hf3)
  have q0 := hr3.cell0
  have q1 := hr3.cell1
  by_cases hn0 : 0 < N
  · have n0 : (0 : Int) < (N : Int) := by omega
    rw [decide_eq_true hn0, Bool.true_and] at HR
    go_wp2_with fail
    refine (over_any b c L s v v3 hr3 hc3 hm hle).mono ?_
    rintro e v4 ⟨rfl, hc4, hf4⟩
    have hr4 := hr3.one hc3 hf4
    have q0 := hr4.cell0
    have q1 := hr4.cell1
    have HBD := Lib.hid (blk_drop s L)
    have hbl := blk_le (s := s) hle
    cases ho : overB (s.data.toList.drop L)
    · rw [ho] at HR
      go_wp2_with fail
      refine (Go_any c s _ i v4 hc4 hm).mono ?_
      rintro e v5 ⟨rfl, hc5, hf5⟩
      rw [goTo_at hi] at hc5
      go_wp2
      go_ret2
      exact SinglePost.no (by rw [HR.out]; rfl) ((HF3.out.trans hf4).trans hf5) hc5
    · rw [ho] at HR
      have b5 : (i : Int) ≤ (L : Int) := by omega
      have b6 : (L : Int) ≤ (s.size : Int) := by omega
      have b7 : (0 : Int) ≤ (L : Int) := by omega
      go_wp2
      go_ret2
      rw [HT.out]
      exact SinglePost.hit (q := (TX, blanksR (s.data.toList.drop L))) (by rw [HR.out]; rfl) (HF3.out.trans hf4) hbl hc4 HBD.out
  · have n0 : ¬ (0 : Int) < (N : Int) := by omega
    rw [decide_eq_false hn0, Bool.false_and] at HR
    go_wp2_with fail
    refine (Go_any c s _ i v3 hc3 hm).mono ?_
    rintro e v5 ⟨rfl, hc5, hf5⟩
    rw [goTo_at hi] at hc5
    go_wp2
    go_ret2
    exact SinglePost.no (by rw [HR.out]; rfl) (HF3.out.trans hf5) hc5
end Go.Proofs.YtkoobhgedoanhaaGreatDoor

namespace Go.Proofs.YtkoobhgedoanhaaGreatDoor
open Go.RowKit

theorem drewN_fr {S : Nat → Prop} {a w w' : World} (h : Fr S a w) (hw : ∃ n, w' = w.drewN n) : Fr S a w' := by
  obtain ⟨n, rfl⟩ := hw
  exact h.drewN n

theorem ListPost.isOk {s : ByteArray} {w w' : World} {e : Ending} {ws : List (List UInt8)} (h : ListPost s w e w') (hl : listAll s.data.toList = .ok ws) (hn : ws.length ≤ 40) :
    ∃ v, e = .returned (.tuple #[v, .nilIface]) ∧ Strs w.heap.size w' v (wordsB ws) ∧ Fr noB w w' := by
  obtain ⟨v, er, he, hf, hm⟩ := h
  rw [hl] at hm
  have hm' : if 40 < ws.length then v = .slice none 0 0 ∧ ErrIs w' er (some (4, none)) else Strs w.heap.size w' v (wordsB ws) ∧ er = .nilIface := hm
  rw [if_neg (show ¬ 40 < ws.length by omega)] at hm'
  obtain ⟨hv, hr⟩ := hm'
  exact ⟨v, by rw [he, hr], hv, hf⟩
theorem QuotePost.isOk {s : ByteArray} {w w' : World} {e : Ending} (h : QuotePost s w e w') (ht : textL s.data.toList = true) :
    e = .returned (.tuple #[.string ⟨(quoteL s.data.toList).toArray⟩, .nilIface]) ∧ Fr noB w w' := by
  obtain ⟨he, hf⟩ := h
  rw [if_pos ht] at he
  exact ⟨he, hf⟩
theorem QuotePost.isBad {s : ByteArray} {w w' : World} {e : Ending} (h : QuotePost s w e w') (ht : textL s.data.toList = false) :
    e = .returned (.tuple #[.string ⟨#[]⟩, .iface 93 (.int .i64 3)]) ∧ Fr noB w w' := by
  obtain ⟨he, hf⟩ := h
  rw [ht] at he
  exact ⟨he, hf⟩

theorem QuotedPost.isOk {b i j : Nat} {s : ByteArray} {w w' : World} {e : Ending} {a : List UInt8} (h : QuotedPost b s i w e w') (hq : quotedAt s.data.toList i = Option.some (a, j)) :
    e = .returned (.tuple #[.string ⟨a.toArray⟩, .bool true]) ∧ CurAt w' b s j ∧ Fr (one b) w w' := by
  obtain ⟨he, hc, hf⟩ := h
  rw [hq] at he
  have h1 : quotedText s.data.toList i = a := by simp [quotedText, hq]
  have h2 : quotedEnd s.data.toList i = j := by simp [quotedEnd, hq]
  rw [h1] at he
  rw [h2] at hc
  exact ⟨he, hc, hf⟩
theorem QuotedPost.isNone {b i : Nat} {s : ByteArray} {w w' : World} {e : Ending} (h : QuotedPost b s i w e w') (hq : quotedAt s.data.toList i = Option.none) :
    e = .returned (.tuple #[.string ⟨#[]⟩, .bool false]) ∧ CurAt w' b s i ∧ Fr (one b) w w' := by
  obtain ⟨he, hc, hf⟩ := h
  rw [hq] at he
  have h1 : quotedText s.data.toList i = [] := by simp [quotedText, hq]
  have h2 : quotedEnd s.data.toList i = i := by simp [quotedEnd, hq]
  rw [h1] at he
  rw [h2] at hc
  exact ⟨he, hc, hf⟩
/-- []string{a, b} in a new block -/
theorem strs_new2 (w : World) (x y : ByteArray) : StrsAt (w.alloc (.cells #[.string x, .string y] 9)) (.slice (some ⟨w.heap.size, 0, none⟩) 2 2) [x, y] := by
  refine Or.inr ⟨w.heap.size, 0, 2, rfl, Nat.le_refl _, by simp [maxLen], by simp, fun j z hj => ?_⟩
  rw [Nat.zero_add, World.cell?_alloc_mark]
  match j, hj with
  | 0, hj => simp at hj; subst hj; rfl
  | 1, hj => simp at hj; subst hj; rfl
theorem CurAt.frN {w w' : World} {b i : Nat} {s : ByteArray} (h : CurAt w b s i) (hf : Fr noB w w') : CurAt w' b s i := h.fr hf (fun h => h)

set_option maxRecDepth 100000 in
set_option maxHeartbeats 1000000 in
theorem worded_any (w : World) :
    Calls Tryz.prog 14 #[] w fun e w' => e = .returned (.bool true) ∧ Fr noB w w' := by
  go_enter Tryz.func14, Tryz.ntmps14
  go_wp2_with fail
  refine (List_any _ w (by decide)).mono ?_
  intro e w1 hp
  obtain ⟨v, rfl, hv, hf1⟩ := hp.isOk (ws := [[97], [98]]) (by kernel_rfl) (by decide)
  clear hp
  go_wp2_with fail
  refine (Quote_any _ w1 (by decide)).mono ?_
  intro e w2 hp
  obtain ⟨rfl, hf2⟩ := hp.isOk (by kernel_rfl)
  clear hp
  rw [show quoteL (ByteArray.mk #[97, 34, 98]).data.toList = [34, 97, 92, 34, 98, 34] from by kernel_rfl]
  go_wp2_with fail
  refine (On_any _ w2).mono ?_
  rintro e w3 ⟨rfl, hw3⟩
  have hc3 : CurAt w3 w2.heap.size ⟨#[34, 120, 92, 121, 34, 122]⟩ 0 := by rw [hw3]; exact new_block w2 _
  have hf3 : Fr noB w w3 := by rw [hw3]; exact (hf1.trans hf2).alloc _
  have hv2 := (hv.at).frNone hf2
  have hf23 : Fr noB w2 w3 := by rw [hw3]; exact (Fr.refl _ _).alloc _
  have hz := Lib.hid (show w.heap.size ≤ w2.heap.size from (hf1.trans hf2).size)
  clear hw3 hf1 hf2 hv
  go_wp2_with fail
  refine (Quoted_any _ _ _ w3 hc3 (by decide)).mono ?_
  intro e w4 hp
  obtain ⟨rfl, hc4, hf4⟩ := hp.isOk (a := [120, 121]) (j := 5) (by kernel_rfl)
  clear hp hc3
  have HF4 := hf3.newOne hf4 hz.out
  have hv4 := hv2.frNone (hf23.newOne hf4 (Nat.le_refl _))
  clear hf3 hf4 hv2 hf23
  go_wp2_with fail
  refine (EqualS_any _ _ _ _ _ (hv4.frNone ((Fr.refl _ _).alloc _)) (strs_new2 _ _ _) (by decide)).mono ?_
  rintro e w5 ⟨rfl, n5, hw5⟩
  rw [show decide (wordsB [[97], [98]] = [⟨#[97]⟩, ⟨#[98]⟩]) = true from by decide]
  have HF5 : Fr noB w w5 := by rw [hw5]; exact (HF4.alloc _).drewN _
  have hc5 : CurAt w5 w2.heap.size ⟨#[34, 120, 92, 121, 34, 122]⟩ 5 := by rw [hw5]; exact (hc4.alloc).drewN _
  clear hw5 hc4 HF4
  go_wp2_with fail
  refine (At_any _ _ _ w5 hc5).mono ?_
  rintro e w6 ⟨rfl, rfl⟩
  go_wp2_with fail
  refine (Same_any _ _ w5 (by decide) (by decide)).mono ?_
  rintro e w7 ⟨rfl, hf7⟩
  rw [show sameL (ByteArray.mk #[97, 66]).data.toList (ByteArray.mk #[65, 98]).data.toList = true from by kernel_rfl]
  go_wp2_with fail
  refine (Is_any _ w7 (by decide)).mono ?_
  rintro e w8 ⟨rfl, rfl⟩
  rw [show isL (ByteArray.mk #[120, 45, 49]).data.toList = true from by kernel_rfl]
  go_wp2
  go_ret
  exact ⟨rfl, HF5.trans hf7⟩
end Go.Proofs.YtkoobhgedoanhaaGreatDoor

namespace Go.Proofs.YtkoobhgedoanhaaGreatDoor
open Go.RowKit

/-- an error with a place -/
def AtErr (n p : Nat) (e : Ending) (w' : World) : Prop :=
  ∃ g, e = .returned (.iface 148 (.pointer (some ⟨g, 0, none⟩))) ∧ w'.heap[g]? = some (.cells #[.int .i64 n, .int .i64 p] 150 (0, 0))
theorem AtErr.new (n p : Nat) (w : World) : AtErr n p (.returned (.iface 148 (.pointer (some ⟨w.heap.size, 0, none⟩)))) (w.alloc (.cells #[.int .i64 n, .int .i64 p] 150 (0, 0))) := ⟨_, rfl, new_block _ _⟩
set_option maxHeartbeats 1000000 in
theorem fail_any (b c i n : Nat) (s : ByteArray) (v : Value) (w : World) (hr : RdrAt w b c s v) (h : CurAt w c s i) :
    Calls Tryz.prog 112 #[.pointer (some ⟨b, 0, none⟩), .int .i64 n] w fun e w' => AtErr n i e w' ∧ Fr noB w w' := by
  have q0 := hr.cell0
  go_enter Tryz.func112, Tryz.ntmps112
  go_wp2_with fail
  refine (At_any c s i w h).mono ?_
  rintro e w1 ⟨rfl, rfl⟩
  go_wp2
  go_ret
  exact ⟨AtErr.new n i w, (Fr.refl _ _).alloc _⟩

theorem bA_toList (l : Bs) : (bA l).toList = l := toList_mk l
def parC (p : Par) : List Value := [.string (bA p.1), .string (bA p.2)]
/-- a challenge's block -/
def ChaAt (w : World) (x : Nat) (sc tok : ByteArray) (pv : Value) : Prop := w.heap[x]? = some (.cells #[.string sc, .string tok, pv] 38 (0, 0))
section
variable {w w' : World} {x : Nat} {sc tok : ByteArray} {pv : Value}
theorem ChaAt.cell0 (h : ChaAt w x sc tok pv) : w.cell? ⟨x, 0, none⟩ = some (.string sc) := by simp [World.cell?, show w.heap[x]? = _ from h]
theorem ChaAt.cell1 (h : ChaAt w x sc tok pv) : w.cell? ⟨x, 1, none⟩ = some (.string tok) := by simp [World.cell?, show w.heap[x]? = _ from h]
theorem ChaAt.cell2 (h : ChaAt w x sc tok pv) : w.cell? ⟨x, 2, none⟩ = some pv := by simp [World.cell?, show w.heap[x]? = _ from h]
theorem ChaAt.free (h : ChaAt w x sc tok pv) (k : Nat) : w.frozen? ⟨x, k, none⟩ = false := by simp [World.frozen?, show w.heap[x]? = _ from h]
theorem ChaAt.fr {S : Nat → Prop} (h : ChaAt w x sc tok pv) (hf : Fr S w w') (hn : ¬ S x) : ChaAt w' x sc tok pv := hf.keep h hn
theorem ChaAt.lt (h : ChaAt w x sc tok pv) : x < w.heap.size := lt_of_some h
theorem ChaAt.ne {c i : Nat} {t : ByteArray} (h : ChaAt w x sc tok pv) (g : CurAt w c t i) : x ≠ c := by
  intro e
  subst e
  have h' : w.heap[x]? = _ := h
  have g' : w.heap[x]? = _ := g
  rw [h'] at g'
  simp at g'
theorem ChaAt.neR {b c : Nat} {t : ByteArray} {v : Value} (h : ChaAt w x sc tok pv) (g : RdrAt w b c t v) : x ≠ b := by
  intro e
  subst e
  have h' : w.heap[x]? = _ := h
  have g' : w.heap[x]? = _ := g
  rw [h'] at g'
  simp at g'
end
/-- a block of another type is not the row's -/
theorem OwnRows.kind {base k : Nat} {e : TypeId} {w : World} {v : Value} {xs : List (List Value)} {g : Nat} (h : OwnRows base e k w v xs) (hg : v.ownBlock = some g) : ∃ cur, w.heap[g]? = some (.cells cur e (0, 0)) := by
  rcases h.2.2 with ⟨hv, _⟩ | ⟨g', cap, cur, hv, _, hh, _⟩
  · rw [hv] at hg; simp [Value.ownBlock] at hg
  · rw [hv] at hg; simp [Value.ownBlock] at hg; subst hg; exact ⟨cur, hh⟩
theorem OwnRows.not {base k : Nat} {e t : TypeId} {w : World} {v : Value} {xs : List (List Value)} {g : Nat} {cs : Array Value} {f : Nat × Nat} (h : OwnRows base e k w v xs) (hb : w.heap[g]? = some (.cells cs t f)) (ht : t ≠ e) : v.ownBlock ≠ some g := by
  intro hg
  obtain ⟨cur, hc⟩ := h.kind hg
  rw [hc] at hb
  cases hb
  exact ht rfl
/-- a parameter's own block -/
def ParAt (w : World) (x : Nat) (a b : ByteArray) : Prop := w.heap[x]? = some (.cells #[.string a, .string b] 79 (0, 0))

/-- what param writes -/
def parS (c x : Nat) (pv : Value) : Nat → Prop := fun k => k = c ∨ k = x ∨ pv.ownBlock = some k
def ParamPost (base c x i : Nat) (s : ByteArray) (ps : List Par) (sc tok : ByteArray) (pv : Value) (w : World) (e : Ending) (w' : World) : Prop :=
  Fr (parS c x pv) w w' ∧ match paramR ps (s.data.toList.drop i) with
    | .error n => ∃ p, AtErr n p e w'
    | .ok q => e = .returned .nilIface ∧ ∃ j pv', j ≤ s.size ∧ CurAt w' c s j ∧ s.data.toList.drop j = q.2 ∧ ChaAt w' x sc tok pv' ∧ OwnRows base 79 2 w' pv' ((ps ++ [q.1]).map parC)
theorem ParamPost.bad {base c x i n p : Nat} {s : ByteArray} {ps : List Par} {sc tok : ByteArray} {pv : Value} {w w' : World} {e : Ending} (h : paramR ps (s.data.toList.drop i) = .error n) (hf : Fr (parS c x pv) w w') (he : AtErr n p e w') : ParamPost base c x i s ps sc tok pv w e w' := by
  refine ⟨hf, ?_⟩
  rw [h]; exact ⟨p, he⟩
/-- what a parameter is, place by place -/
theorem valueAt_drop (s : ByteArray) (i : Nat) : s.data.toList.drop (blk s (blk s (wrd s i) + 1)) = valueAt (s.data.toList.drop i) := by
  unfold valueAt
  rw [← wrd_drop, ← blk_drop s (wrd s i), List.drop_drop, blk_drop]
/-- behind the reading of a value -/
def ParMid (base b c x P i : Nat) (s : ByteArray) (v : Value) (ps : List Par) (sc tok : ByteArray) (pv : Value) (W : Bs) (w wx : World) : Prop :=
  ∃ val j, j ≤ s.size ∧ CurAt wx c s j ∧ ParAt wx P (bA W) (bA val) ∧ RdrAt wx b c s v ∧ ChaAt wx x sc tok pv ∧ OwnRows base 79 2 wx pv (ps.map parC) ∧ Fr (parS c x pv) w wx ∧
    paramR ps (s.data.toList.drop i) = (if twiceB ps W then .error 9 else if ps.length = 16 then .error 4 else .ok ((W, val), s.data.toList.drop j))
theorem quoted_at (l : Bs) (k : Nat) : quotedAt l k = (quoteR (l.drop k)).map fun q => (q.1, l.length - q.2.length) := by
  unfold quotedAt
  rcases Nat.lt_or_ge k l.length with h | h
  · rw [List.getElem?_eq_getElem h, List.drop_eq_getElem_cons h]
    show _ = Option.map _ (if l[k] == 34 then qgo (l.drop (k + 1)) else none)
    by_cases hq : l[k] = 34
    · rw [hq, if_pos rfl, if_pos (by rfl)]
      unfold qres
      simp
    · rw [if_neg (by simpa using hq), if_neg (by simpa using hq)]; rfl
  · rw [List.getElem?_eq_none h, List.drop_eq_nil_of_le h, if_neg (by simp)]; rfl
theorem bA_size (l : Bs) : (bA l).size = l.length := rfl
def PaRel (ps : List Par) (W : Bs) (w : World) (t : Value) (wr : World) : Prop := ∃ k : Nat, k ≤ ps.length ∧ t = .int .i64 k ∧ (ps.take k).any (fun q => sameL q.1 W) = false ∧ Fr noB w wr
theorem any_take_succP {ps : List Par} {k : Nat} {n v W : Bs} (h : ps[k]? = some (n, v)) (hn : (ps.take k).any (fun q => sameL q.1 W) = false) (hp : sameL n W = false) : (ps.take (k + 1)).any (fun q => sameL q.1 W) = false := by
  rw [List.take_add_one, h]; simp only [List.any_append, hn, Option.toList_some, List.any_cons, hp, List.any_nil, Bool.or_false]
theorem twice_of {ps : List Par} {k : Nat} {n v W : Bs} (h : ps[k]? = some (n, v)) (hp : sameL n W = true) : twiceB ps W = true := by
  unfold twiceB
  rw [List.any_eq_true]
  exact ⟨_, List.mem_of_getElem? h, hp⟩
theorem info_par : (Tryz.prog.info? 79).map (fun i => (i.zero, i.size, i.bytes)) = some (some (.agg #[.string ⟨#[]⟩, .string ⟨#[]⟩]), 2, 32) := by kernel_rfl
theorem par_one (p : Par) : ∀ u ∈ parC p, u.oneCell' = true := by
  intro u hu
  simp only [parC, List.mem_cons, List.not_mem_nil, or_false] at hu
  rcases hu with rfl | rfl <;> rfl
theorem par_rows (ps : List Par) : ∀ x ∈ ps.map parC, x.length = 2 ∧ ∀ u ∈ x, u.oneCell' = true := by
  intro x hx
  obtain ⟨p, _, rfl⟩ := List.mem_map.1 hx
  exact ⟨rfl, par_one p⟩
theorem qgo_suffix : ∀ (f : Nat) (r a z : Bs), r.length ≤ f → qgo r = some (a, z) → z <:+ r
  | 0, r, a, z, hf, h => by
    have : r = [] := List.eq_nil_of_length_eq_zero (by omega)
    subst this; rw [qgo.eq_def] at h; simp at h
  | f + 1, [], a, z, hf, h => by rw [qgo.eq_def] at h; simp at h
  | f + 1, x :: r, a, z, hf, h => by
    rw [qgo.eq_def] at h
    simp only at h
    by_cases h1 : (x == 34) = true
    · rw [if_pos h1] at h; cases h; exact List.suffix_cons _ _
    · rw [if_neg h1] at h
      by_cases h2 : (x == 92) = true
      · rw [if_pos h2] at h
        cases r with
        | nil => simp at h
        | cons y r' =>
          simp only at h
          by_cases h3 : textB y = true
          · rw [if_pos h3] at h
            cases hq : qgo r' with
            | none => rw [hq] at h; simp at h
            | some p =>
              rw [hq] at h; simp at h
              obtain ⟨rfl, rfl⟩ := h
              have := qgo_suffix f r' p.1 p.2 (by simp at hf; omega) hq
              exact (this.trans (List.suffix_cons _ _)).trans (List.suffix_cons _ _)
          · rw [if_neg h3] at h; simp at h
      · rw [if_neg h2] at h
        by_cases h3 : textB x = true
        · rw [if_pos h3] at h
          cases hq : qgo r with
          | none => rw [hq] at h; simp at h
          | some p =>
            rw [hq] at h; simp at h
            obtain ⟨rfl, rfl⟩ := h
            have := qgo_suffix f r p.1 p.2 (by simp at hf; omega) hq
            exact this.trans (List.suffix_cons _ _)
        · rw [if_neg h3] at h; simp at h
theorem suffix_drop {z l : Bs} (h : z <:+ l) : l.drop (l.length - z.length) = z := by
  obtain ⟨t, rfl⟩ := h
  rw [List.length_append, Nat.add_sub_cancel, List.drop_left']
  rfl
theorem quoteR_drop {l a z : Bs} {k : Nat} (h : quoteR (l.drop k) = some (a, z)) : l.drop (l.length - z.length) = z := by
  refine suffix_drop (List.IsSuffix.trans ?_ (List.drop_suffix k l))
  cases hd : l.drop k with
  | nil => rw [hd] at h; cases h
  | cons c t =>
    rw [hd] at h
    have h' : (if c == 34 then qgo t else none) = some (a, z) := h
    by_cases hc : (c == 34) = true
    · rw [if_pos hc] at h'
      exact (qgo_suffix _ t a z (Nat.le_refl _) h').trans (List.suffix_cons _ _)
    · rw [if_neg hc] at h'; cases h'
set_option maxRecDepth 100000 in
set_option maxHeartbeats 4000000 in
theorem param_any (base b c x i : Nat) (s : ByteArray) (v : Value) (ps : List Par) (sc tok : ByteArray) (pv : Value) (w : World) (hr : RdrAt w b c s v) (h : CurAt w c s i) (hx : ChaAt w x sc tok pv) (ho : OwnRows base 79 2 w pv (ps.map parC)) (hb : base ≤ w.heap.size)
    (hs : s.size < 100000) (hi : i ≤ s.size) (hl : ps.length ≤ 16) (hz : ∀ p ∈ ps, p.1.length < 100000) :
    Calls Tryz.prog 115 #[.pointer (some ⟨b, 0, none⟩), .pointer (some ⟨x, 0, none⟩)] w (ParamPost base c x i s ps sc tok pv w) := by
  have hm : s.size ≤ maxLen := by unfold maxLen; omega
  have hbc := hr.ne h
  have hxc := hx.ne h
  have hxb := hx.neR hr
  have hoc : pv.ownBlock ≠ some c := ho.not h (by decide)
  have hox : pv.ownBlock ≠ some x := ho.not hx (by decide)
  have hob : pv.ownBlock ≠ some b := ho.not hr (by decide)
  have q0 := hr.cell0
  have HN := Lib.hid (named_at s i)
  have HV := Lib.hid (valueAt_drop s i)
  have hw := wrd_le hi
  have hk := blk_le hw
  have hPR0 := (show paramR ps (s.data.toList.drop i) = if !namedB (s.data.toList.drop i) then .error 3 else
      match valueR (valueAt (s.data.toList.drop i)) with
      | none => .error 3
      | some q => if twiceB ps (wordR (s.data.toList.drop i)) then .error 9 else if ps.length = 16 then .error 4 else .ok ((wordR (s.data.toList.drop i), q.1), q.2) from rfl)
  have hPR := Lib.hid hPR0
  clear hPR0
  have hwl : (wordR (s.data.toList.drop i)).length ≤ s.size := by
    have := wordR_len (s.data.toList.drop i)
    simp at this; omega
  go_enter Tryz.func115, Tryz.ntmps115
  go_wp2_with fail
  refine (At_any c s i w h).mono ?_
  rintro e w0 ⟨rfl, rfl⟩
  go_wp2_with fail
  refine (Word_any c s i w h hm hi).mono ?_
  rintro e w1 ⟨rfl, hc1, hf1⟩
  replace hc1 : CurAt w1 c s (wrd s i) := hc1
  rw [show s.extract i (spanEnd byteB s.data.toList i) = bA (wordR (s.data.toList.drop i)) from wrd_text s i]
  generalize wordR (s.data.toList.drop i) = W at *
  generalize wrd s i = K1 at *
  have hr1 := hr.one h hf1
  have hx1 := hx.fr hf1 hxc
  have ho1 := ho.fr hf1 (fun k hk e => hoc (by rw [hk]; exact congrArg some e))
  have HF1 := Lib.hid (show Fr (parS c x pv) w w1 from hf1.mono (fun k _ e => Or.inl e))
  have q1 := hr1.cell0
  have q1a : ∀ o : Obj, (w1.alloc o).cell? ⟨b, 0, none⟩ = some (.pointer (some ⟨c, 0, none⟩)) := fun o => (hr1.fr ((Fr.refl noB w1).alloc o) (fun h => h)).cell0
  clear q0 hf1
  go_wp2_with fail
  obtain ⟨wp, hwp⟩ : ∃ wp, wp = w1.alloc (.cells #[.string (bA W), .string ⟨#[]⟩] 79) := ⟨_, rfl⟩
  have hpp : ParAt wp w1.heap.size (bA W) ⟨#[]⟩ := by rw [hwp]; exact new_block _ _
  have hf2 : Fr noB w1 wp := by rw [hwp]; exact (Fr.refl _ _).alloc _
  have hr2 := hr1.fr hf2 (fun h => h)
  have hc2 := hc1.fr hf2 (fun h => h)
  have hx2 := hx1.fr hf2 (fun h => h)
  have ho2 := ho1.fr hf2 (fun _ _ h => h)
  have HF2 := Lib.hid (HF1.out.trans hf2.ofNone)
  have q2 := hr2.cell0
  rw [← hwp]
  generalize hP : w1.heap.size = P at *
  have hPc : P ≠ c := by intro e; have := hc1.lt; omega
  have hPx : P ≠ x := by intro e; have := hx1.lt; omega
  have hPb : P ≠ b := by intro e; have := hr1.lt; omega
  have hPw : w.heap.size ≤ P := by have := HF1.out.size; omega
  have hx2z : P < wp.heap.size := lt_of_some hpp
  have hoP : pv.ownBlock ≠ some P := fun e => by have := ho1.lt P e; omega
  clear q1 q1a hwp hf2
  refine (Blanks_any c s K1 wp hc2 hm hw).mono ?_
  rintro e w3 ⟨rfl, hc3, hf3⟩
  replace hc3 : CurAt w3 c s (blk s K1) := hc3
  generalize blk s K1 = K2 at *
  have hr3 := hr2.one hc2 hf3
  have hx3 := hx2.fr hf3 hxc
  have ho3 := ho2.fr hf3 (fun k hk e => hoc (by rw [hk]; exact congrArg some e))
  have hp3 : ParAt w3 P (bA W) ⟨#[]⟩ := hf3.keep hpp hPc
  have HF3 := Lib.hid (HF2.out.trans (hf3.mono (fun k _ e => Or.inl e)))
  have q3 := hr3.cell0
  have p0 : w3.cell? ⟨P, 0, none⟩ = some (.string (bA W)) := by simp [World.cell?, show w3.heap[P]? = _ from hp3]
  clear q2 hf3 hr1 hx1 ho1 hr2 hx2 ho2 hpp hc1 hc2
  cases hWe : W.isEmpty
  case true =>
    have hnn : (bA W).toList = [] := by rw [bA_toList]; exact List.isEmpty_iff.1 hWe
    have hnb : ((bA W).toList == []) = true := beq_iff_eq.2 hnn
    rw [hWe] at HN
    have HE := Lib.hid (show paramR ps (s.data.toList.drop i) = .error 3 by rw [hPR.out, HN.out]; rfl)
    go_wp2_with fail
    refine (fail_any b c K2 3 s v w3 hr3 hc3).mono ?_
    rintro e w4 ⟨⟨g, rfl, hg⟩, hf4⟩
    go_wp2
    go_ret
    exact ParamPost.bad HE.out (HF3.out.trans hf4.ofNone) ⟨g, rfl, hg⟩
  case false =>
    have hnn : ¬ (bA W).toList = [] := by rw [bA_toList]; intro e; rw [e] at hWe; cases hWe
    have hnb : ((bA W).toList == []) = false := beq_eq_false_iff_ne.2 hnn
    have HN2 := Lib.hid (show namedB (s.data.toList.drop i) = markB s K2 61 by rw [HN.out, hWe]; rfl)
    clear HN hWe
    go_wp2_with fail
    refine (Mark_any c s K2 61 w3 hc3 hm).mono ?_
    rintro e w4 ⟨rfl, hc4, hf4⟩
    have hr4 := hr3.one hc3 hf4
    have hx4 := hx3.fr hf4 hxc
    have ho4 := ho3.fr hf4 (fun k hk e => hoc (by rw [hk]; exact congrArg some e))
    have hp4 : ParAt w4 P (bA W) ⟨#[]⟩ := hf4.keep hp3 hPc
    have HF4 := Lib.hid (HF3.out.trans (hf4.mono (fun k _ e => Or.inl e)))
    have q4 := hr4.cell0
    have p0 : w4.cell? ⟨P, 0, none⟩ = some (.string (bA W)) := by simp [World.cell?, show w4.heap[P]? = _ from hp4]
    clear q3 hf4 hr3 hx3 ho3 hp3 hc3
    cases hmk : markB s K2 61
    · have HE := Lib.hid (show paramR ps (s.data.toList.drop i) = .error 3 by rw [hPR.out, HN2.out, hmk]; rfl)
      rw [markTo_no hmk] at hc4
      go_wp2_with fail
      refine (fail_any b c K2 3 s v w4 hr4 hc4).mono ?_
      rintro e w5 ⟨⟨g, rfl, hg⟩, hf5⟩
      go_wp2
      go_ret
      exact ParamPost.bad HE.out (HF4.out.trans hf5.ofNone) ⟨g, rfl, hg⟩
    · rw [markTo_yes hmk] at hc4
      rw [HN2.out, hmk] at hPR
      have hk2 : K2 + 1 ≤ s.size := by
        have := (List.getElem?_eq_some_iff.1 ((markB_iff s K2 61).1 hmk)).1
        have h2 : K2 < s.size := by simpa using this
        omega
      go_wp2_with fail
      refine (Blanks_any c s (K2 + 1) w4 hc4 hm hk2).mono ?_
      rintro e w5 ⟨rfl, hc5, hf5⟩
      replace hc5 : CurAt w5 c s (blk s (K2 + 1)) := hc5
      have hk3 := blk_le hk2
      generalize blk s (K2 + 1) = K3 at *
      rw [← HV.out] at hPR
      have hr5 := hr4.one hc4 hf5
      have hx5 := hx4.fr hf5 hxc
      have ho5 := ho4.fr hf5 (fun k hk e => hoc (by rw [hk]; exact congrArg some e))
      have hp5 : ParAt w5 P (bA W) ⟨#[]⟩ := hf5.keep hp4 hPc
      have HF5 := Lib.hid (HF4.out.trans (hf5.mono (fun k _ e => Or.inl e)))
      have q5 := hr5.cell0
      clear q4 p0 hf5 hr4 hx4 ho4 hp4 hc4
      go_wp2_with fail
      refine (Word_any c s K3 w5 hc5 hm hk3).mono ?_
      rintro e w6 ⟨rfl, hc6, hf6⟩
      replace hc6 : CurAt w6 c s (wrd s K3) := hc6
      rw [show s.extract K3 (spanEnd byteB s.data.toList K3) = bA (wordR (s.data.toList.drop K3)) from wrd_text s K3]
      have hk4 := wrd_le hk3
      have HVR := Lib.hid (show valueR (s.data.toList.drop K3) = if (wordR (s.data.toList.drop K3)).isEmpty then quoteR (s.data.toList.drop K3) else some (wordR (s.data.toList.drop K3), s.data.toList.drop (wrd s K3)) by unfold valueR; rw [wrd_drop])
      have HK4 := Lib.hid (show (wordR (s.data.toList.drop K3)).isEmpty = true → wrd s K3 = K3 from fun e => by
        unfold wrd spanEnd
        have e2 : (List.takeWhile byteB (s.data.toList.drop K3)) = [] := List.isEmpty_iff.1 e
        rw [e2]; rfl)
      generalize wordR (s.data.toList.drop K3) = V at *
      generalize wrd s K3 = K4 at *
      have hr6 := hr5.one hc5 hf6
      have hx6 := hx5.fr hf6 hxc
      have ho6 := ho5.fr hf6 (fun k hk e => hoc (by rw [hk]; exact congrArg some e))
      have hp6 : ParAt w6 P (bA W) ⟨#[]⟩ := hf6.keep hp5 hPc
      have HF6 := Lib.hid (HF5.out.trans (hf6.mono (fun k _ e => Or.inl e)))
      have p1 : w6.cell? ⟨P, 1, none⟩ = some (.string ⟨#[]⟩) := by simp [World.cell?, show w6.heap[P]? = _ from hp6]
      have f1 : w6.frozen? ⟨P, 1, none⟩ = false := by simp [World.frozen?, show w6.heap[P]? = _ from hp6]
      clear q5 hf6 hr5 hx5 ho5 hp5 hc5
      go_upto_if 52 with fail
      have hpv : ∀ u : ByteArray, ParAt (w6.setCell ⟨P, 1, none⟩ (.string u)) P (bA W) u := fun u => setCell_heap hp6 1 (.string u)
      have hfv : ∀ u : Value, Fr (one P) w6 (w6.setCell ⟨P, 1, none⟩ u) := fun u => (Fr.refl (one P) w6).setCell (p := ⟨P, 1, none⟩) (fun _ => rfl) u
      have HF7 := Lib.hid (show ∀ u : Value, Fr (parS c x pv) w (w6.setCell ⟨P, 1, none⟩ u) from fun u => HF6.out.step (hfv u) (fun k hk e => by have e' : k = P := e; omega))
      have HS := Lib.hid (show ∀ u : Value, RdrAt (w6.setCell ⟨P, 1, none⟩ u) b c s v ∧ CurAt (w6.setCell ⟨P, 1, none⟩ u) c s K4 ∧ ChaAt (w6.setCell ⟨P, 1, none⟩ u) x sc tok pv ∧ OwnRows base 79 2 (w6.setCell ⟨P, 1, none⟩ u) pv (ps.map parC) from fun u =>
        ⟨hr6.fr (hfv u) (fun e => hPb (show b = P from e).symm), hc6.fr (hfv u) (fun e => hPc (show c = P from e).symm), hx6.fr (hfv u) (fun e => hPx (show x = P from e).symm), ho6.fr (hfv u) (fun k hk e => hoP (by rw [hk]; exact congrArg some e))⟩)
      go_cut [] (fun wx => ParMid base b c x P i s v ps sc tok pv W w wx)
      case first =>
        obtain ⟨hr7, hc7, hx7, ho7⟩ := HS.out (.string (bA V))
        have hp7 := hpv (bA V)
        cases hVe : V.isEmpty
        case false =>
          have hv1 : ¬ (bA V).toList = [] := by rw [bA_toList]; intro e; rw [e] at hVe; cases hVe
          have hv2 : ((bA V).toList == []) = false := beq_eq_false_iff_ne.2 hv1
          have hv3 : (bA V).toList.isEmpty = false := by rw [bA_toList]; exact hVe
          have HVR2 := Lib.hid (show valueR (s.data.toList.drop K3) = some (V, s.data.toList.drop K4) by rw [HVR.out, hVe]; rfl)
          rw [hv3]
          go_wp2_with fail
          go_meet
          refine ⟨V, K4, hk4, hc7, hp7, hr7, hx7, ho7, HF7.out _, ?_⟩
          rw [hPR.out, HVR2.out]
          rfl
        case true =>
          have hv3 : (bA V).toList.isEmpty = true := by rw [bA_toList]; exact hVe
          have hK4 := HK4.out hVe
          subst hK4
          have q7 := hr7.cell0
          have p71 : (w6.setCell ⟨P, 1, none⟩ (.string (bA V))).cell? ⟨P, 1, none⟩ = some (.string (bA V)) := by simp [World.cell?, show (w6.setCell ⟨P, 1, none⟩ (.string (bA V))).heap[P]? = _ from hp7]
          rw [hv3]
          go_wp2_with fail
          refine (Quoted_any c s K4 _ hc7 (by omega)).mono ?_
          intro e w8 hq
          have HQA := Lib.hid (quoted_at s.data.toList K4)
          cases hqr : quoteR (s.data.toList.drop K4) with
          | none =>
            have hqa : quotedAt s.data.toList K4 = none := by rw [HQA.out, hqr]; rfl
            obtain ⟨rfl, hc8, hf8⟩ := hq.isNone hqa
            have HVR2 := Lib.hid (show valueR (s.data.toList.drop K4) = none by rw [HVR.out, hVe]; exact hqr)
            have hr8 := hr7.one hc7 hf8
            have hp8 : ParAt w8 P (bA W) (bA V) := hf8.keep hp7 hPc
            have HF8 := Lib.hid ((HF7.out (.string (bA V))).trans (hf8.mono (fun k _ e => Or.inl e)))
            have hfv8 : Fr (one P) w8 (w8.setCell ⟨P, 1, none⟩ (.string ⟨#[]⟩)) := (Fr.refl (one P) w8).setCell (p := ⟨P, 1, none⟩) (fun _ => rfl) _
            have hr9 := hr8.fr hfv8 (fun e => hPb (show b = P from e).symm)
            have hc9 := hc8.fr hfv8 (fun e => hPc (show c = P from e).symm)
            have HF9 := Lib.hid (show Fr (parS c x pv) w (w8.setCell ⟨P, 1, none⟩ (.string ⟨#[]⟩)) from HF8.out.step hfv8 (fun k hk e => by have e' : k = P := e; omega))
            have q8 := hr8.cell0
            have q9 := hr9.cell0
            have p8 : w8.cell? ⟨P, 1, none⟩ = some (.string (bA V)) := by simp [World.cell?, show w8.heap[P]? = _ from hp8]
            have f8 : w8.frozen? ⟨P, 1, none⟩ = false := by simp [World.frozen?, show w8.heap[P]? = _ from hp8]
            clear q7 p71 hq hf8 hfv8
            go_wp2_with fail
            refine (fail_any b c K4 3 s v _ hr9 hc9).mono ?_
            rintro e w10 ⟨⟨g, rfl, hg⟩, hf10⟩
            go_wp2
            go_ret
            exact ParamPost.bad (by rw [hPR.out, HVR2.out]; rfl) (HF9.out.trans hf10.ofNone) ⟨g, rfl, hg⟩
          | some q =>
            obtain ⟨a, z⟩ := q
            have hqa : quotedAt s.data.toList K4 = some (a, s.data.toList.length - z.length) := by rw [HQA.out, hqr]; rfl
            obtain ⟨rfl, hc8, hf8⟩ := hq.isOk hqa
            have HVR2 := Lib.hid (show valueR (s.data.toList.drop K4) = some (a, z) by rw [HVR.out, hVe]; exact hqr)
            have hzd := Lib.hid (quoteR_drop hqr)
            have hr8 := hr7.one hc7 hf8
            have hx8 := hx7.fr hf8 hxc
            have ho8 := ho7.fr hf8 (fun k hk e => hoc (by rw [hk]; exact congrArg some e))
            have hp8 : ParAt w8 P (bA W) (bA V) := hf8.keep hp7 hPc
            have HF8 := Lib.hid ((HF7.out (.string (bA V))).trans (hf8.mono (fun k _ e => Or.inl e)))
            have hfv8 : Fr (one P) w8 (w8.setCell ⟨P, 1, none⟩ (.string (bA a))) := (Fr.refl (one P) w8).setCell (p := ⟨P, 1, none⟩) (fun _ => rfl) _
            have hr9 := hr8.fr hfv8 (fun e => hPb (show b = P from e).symm)
            have hc9 := hc8.fr hfv8 (fun e => hPc (show c = P from e).symm)
            have hx9 := hx8.fr hfv8 (fun e => hPx (show x = P from e).symm)
            have ho9 := ho8.fr hfv8 (fun k hk e => hoP (by rw [hk]; exact congrArg some e))
            have hp9 : ParAt (w8.setCell ⟨P, 1, none⟩ (.string (bA a))) P (bA W) (bA a) := setCell_heap hp8 1 (.string (bA a))
            have HF9 := Lib.hid (show Fr (parS c x pv) w (w8.setCell ⟨P, 1, none⟩ (.string (bA a))) from HF8.out.step hfv8 (fun k hk e => by have e' : k = P := e; omega))
            have p8 : w8.cell? ⟨P, 1, none⟩ = some (.string (bA V)) := by simp [World.cell?, show w8.heap[P]? = _ from hp8]
            have f8 : w8.frozen? ⟨P, 1, none⟩ = false := by simp [World.frozen?, show w8.heap[P]? = _ from hp8]
            clear q7 p71 hq hf8 hfv8
            go_wp2_with fail
            go_meet
            refine ⟨a, _, ?_, hc9, hp9, hr9, hx9, ho9, HF9.out, ?_⟩
            · simp
            · rw [hPR.out, HVR2.out, show s.data.toList.drop (s.data.toList.length - z.length) = z from hzd.out]
              rfl
      case rest =>
      obtain ⟨val, j, hj, hc7, hp7, hr7, hx7, ho7, hf7, hpr⟩ := hcut
      have HPR := Lib.hid hpr
      have HF7' := Lib.hid hf7
      clear hPR hpr hf7 HVR HK4 hpv hfv HF7 HS hr6 hx6 ho6 hp6 hc6 p1 f1
      have hsw : w.heap.size ≤ wc.heap.size := HF7'.out.size
      have hbase : base ≤ wc.heap.size := Nat.le_trans hb hsw
      have hol := ho7.form
      obtain ⟨av, cv, hpvv⟩ := hol
      rw [List.length_map] at hpvv
      subst hpvv
      have hrow := ho7.at
      have x2 := hx7.cell2
      have xf2 := hx7.free 2
      have p0 : wc.cell? ⟨P, 0, none⟩ = some (.string (bA W)) := by simp [World.cell?, show wc.heap[P]? = _ from hp7]
      have p1 : wc.cell? ⟨P, 1, none⟩ = some (.string (bA val)) := by simp [World.cell?, show wc.heap[P]? = _ from hp7]
      have HPA := Lib.hid (show ∀ U, Fr noB wc U → U.cell? ⟨P, 0, none⟩ = some (.string (bA W)) ∧ U.cell? ⟨P, 1, none⟩ = some (.string (bA val)) ∧ U.cell? ⟨x, 2, none⟩ = some (.slice av ps.length cv) ∧ U.frozen? ⟨x, 2, none⟩ = false from fun U hU => by
        have j1 := hU.keep hp7 (fun h => h)
        have j2 := hx7.fr hU (fun h => h)
        exact ⟨by simp [World.cell?, j1], by simp [World.cell?, j1], j2.cell2, j2.free 2⟩)
      go_wp2_with fail
      go_loopw [71] (PaRel ps W wc) (fun t _ => ps.length - (intOf t).toNat)
      case atStart => exact ⟨0, Nat.zero_le _, rfl, rfl, Fr.refl _ _⟩
      case round =>
        obtain ⟨k, hkl, rfl, hn, hfr⟩ := hrel
        have HN := Lib.hid hn
        clear hn p0 p1 x2 xf2
        obtain ⟨p0, p1, x2, xf2⟩ := HPA.out wr hfr
        by_cases hks : k < ps.length
        · have hki : (k : Int) < (ps.length : Int) := by omega
          have hat := Lib.hid (List.getElem?_eq_getElem hks)
          have hzk := hz _ (List.getElem_mem hks)
          generalize ps[k] = q at hat hzk
          obtain ⟨nm, vl⟩ := q
          rcases (RowsAt.frNone hrow hfr).2 with ⟨_, _, _, e, _⟩ | ⟨bk, of, c', hf1, h1, h2, h3, h4⟩
          · have : ps.length = 0 := by have := congrArg List.length e; simpa using this
            omega
          rw [List.length_map] at hf1 h1
          cases hf1
          unfold maxLen at h2
          have hcell := h4 k (parC (nm, vl)) (by rw [List.getElem?_map, hat.out]; rfl)
          have c0 : wr.cell? ⟨bk, of + k * 2, none⟩ = some (.string (bA nm)) := hcell 0 _ rfl
          have c1 : wr.cell? ⟨bk, of + k * 2 + 1, none⟩ = some (.string (bA vl)) := hcell 1 _ rfl
          clear hcell h4
          obtain ⟨wb, hwb⟩ : ∃ wb, wb = wr.alloc (.cells #[.string (bA nm), .string (bA vl)] 79) := ⟨_, rfl⟩
          have hfb : Fr noB wr wb := by rw [hwb]; exact (Fr.refl noB wr).alloc _
          have p0a : ∀ o : Obj, (wr.alloc o).cell? ⟨P, 0, none⟩ = some (.string (bA W)) := fun o => (HPA.out _ (hfr.alloc o)).1
          have HWB := Lib.hid hwb
          have HFB := Lib.hid (hfr.trans hfb)
          clear hwb hfb
          go_wp2_with fail
          rw [← HWB.out]
          refine (Same_any (bA nm) (bA W) wb (by rw [bA_size]; have hzk' : nm.length < 100000 := hzk; omega) (by rw [bA_size]; omega)).mono ?_
          rintro e w8 ⟨rfl, hf8⟩
          rw [bA_data, bA_data]
          have HF8 := Lib.hid (HFB.out.trans hf8)
          cases hsm : sameL nm W
          · have hnx := Lib.hid (show (ps.take (k + 1)).any (fun q => sameL q.1 W) = false from any_take_succP hat.out HN.out hsm)
            go_wp2
            go_roundw
            case rel => exact ⟨k + 1, by omega, by go_num, hnx.out, HF8.out⟩
            case measure => simp [intOf]; omega
          · have HE := Lib.hid (show paramR ps (s.data.toList.drop i) = .error 9 by rw [HPR.out, if_pos (twice_of hat.out hsm)])
            go_wp2
            go_ret
            exact ParamPost.bad HE.out ((HF7'.out.trans HF8.out.ofNone).alloc _) (AtErr.new 9 i w8)
        · have hki : ¬ (k : Int) < (ps.length : Int) := by omega
          have HT := Lib.hid (show twiceB ps W = false by have h := HN.out; rw [List.take_of_length_le (by omega)] at h; exact h)
          rw [HT.out] at HPR
          by_cases h16 : ps.length = 16
          · have h16' : ((ps.length : Int) == 16) = true := by rw [h16]; rfl
            have HE := Lib.hid (show paramR ps (s.data.toList.drop i) = .error 4 by rw [HPR.out, if_pos h16]; rfl)
            clear h16
            go_wp2
            go_ret
            exact ParamPost.bad HE.out ((HF7'.out.trans hfr.ofNone).alloc _) (AtErr.new 4 i wr)
          · have h16' : ((ps.length : Int) == 16) = false := beq_eq_false_iff_ne.2 (by omega)
            have HE := Lib.hid (show paramR ps (s.data.toList.drop i) = .ok ((W, val), s.data.toList.drop j) by rw [HPR.out, if_neg h16]; rfl)
            have hF0 := HF7'.out.trans (hfr.ofNone (S := parS c x (.slice av ps.length cv)))
            have hcr := hc7.fr hfr (fun h => h)
            have hxr := hx7.fr hfr (fun h => h)
            have hor := ho7.fr hfr (fun _ _ h => h)
            have hbr : base ≤ wr.heap.size := Nat.le_trans hbase hfr.size
            have hown : wr.ownsRow base 79 2 (.slice av ps.length cv) ps.length (ps.map parC).flatten := by
              have hh := hor.2
              rw [List.length_map] at hh
              exact hh
            have hPl : P < wr.heap.size := Nat.lt_of_lt_of_le (lt_of_some hp7) hfr.size
            have hxl : x < wr.heap.size := hxr.lt
            have hcl : c < wr.heap.size := hcr.lt
            obtain ⟨i0, hi0, hz0, hz1, hz2⟩ := info_parts info_par
            have HONE := Lib.hid (show ∀ u ∈ parC (W, val), u.oneCell' = true from par_one _)
            have hps : ps.length < 16 := by omega
            clear h16' hrow hz HN
            go_wp2_with fail
            go_region_law ((with_reducible refine step_at ⟨some 102, _, _, _, _, _⟩ ?_)
                           refine step_append_lies _ (by rfl) _ _ _ (by rfl) base 79 i0 _ 2 32 Tryz.underlying36 hi0 hz0 hz1 hz2 rfl (by omega) (.slice av ps.length cv) ps.length _ (by rfl) (by repeat (first | exact hown | apply World.ownsRow.alloc | apply World.ownsRow.drew)) ⟨wr.heap.size, 0, none⟩ 1 1 (parC (W, val)) (by rfl) (by rfl) (new_cells wr (parC (W, val)) _) HONE.out (by omega) (by unfold maxLen; omega) (by omega) (by simp; omega) (wr.heap.size + 1) (by simp) ?_
                           intro gg cap w5 hown6 hgrow hatg hlt5
                           have HF45 : Fr (fun k => (Value.slice av ps.length cv).ownBlock = some k) wr w5 := Fr.grown (by repeat (first | exact Fr.refl _ _ | apply Fr.drew | apply Fr.alloc)) hgrow (fun _ hk _ => hk)
                           have k4 : w5.cell? ⟨x, 2, none⟩ = some (.slice av ps.length cv) := (HF45.cell (p := ⟨x, 2, none⟩) hxl hox).trans x2
                           have e4 : w5.frozen? ⟨x, 2, none⟩ = false := (HF45.frozen (p := ⟨x, 2, none⟩) hxl hox).trans xf2)
            all_goals
              have hx5 : ChaAt w5 x sc tok (.slice av ps.length cv) := hxr.fr HF45 hox
              have hc5 : CurAt w5 c s j := hcr.fr HF45 hoc
              have hfx : Fr (one x) w5 (w5.setCell ⟨x, 2, none⟩ (.slice (some ⟨gg, 0, none⟩) (ps.length + 1) cap)) := (Fr.refl (one x) w5).setCell (p := ⟨x, 2, none⟩) (fun _ => rfl) _
              have hx6 : ChaAt (w5.setCell ⟨x, 2, none⟩ (.slice (some ⟨gg, 0, none⟩) (ps.length + 1) cap)) x sc tok (.slice (some ⟨gg, 0, none⟩) (ps.length + 1) cap) := setCell_heap hx5 2 _
              have hc6 := hc5.fr hfx (fun e => hxc (show c = x from e).symm)
              have hgx : gg ≠ x := by
                rintro rfl
                rcases hatg with e | e
                · exact hox e
                · omega
              have ho5 : OwnRows base 79 2 w5 (.slice (some ⟨gg, 0, none⟩) (ps.length + 1) cap) ((ps ++ [(W, val)]).map parC) := by
                refine ⟨par_rows _, ?_⟩
                have e1 : ((ps ++ [(W, val)]).map parC).length = ps.length + 1 := by simp
                have e2 : ((ps ++ [(W, val)]).map parC).flatten = (ps.map parC).flatten ++ parC (W, val) := by simp
                rw [e1, e2]; exact hown6
              have ho6 := ho5.fr hfx (fun k hk e => hgx (by
                simp only [Value.ownBlock, Option.some.injEq] at hk
                rw [hk]; exact e))
              have HFF := Lib.hid (show Fr (parS c x (.slice av ps.length cv)) w (w5.setCell ⟨x, 2, none⟩ (.slice (some ⟨gg, 0, none⟩) (ps.length + 1) cap)) from
                (hF0.trans (HF45.mono (fun k _ e => Or.inr (Or.inr e)))).trans (hfx.mono (fun k _ e => Or.inr (Or.inl e))))
              clear k4 e4 hgrow hown6 hown HF45
              go_wp2
              go_ret
              refine ⟨HFF.out, ?_⟩
              rw [HE.out]
              exact ⟨rfl, j, _, hj, hc6, rfl, hx6, ho6⟩
end Go.Proofs.YtkoobhgedoanhaaGreatDoor
