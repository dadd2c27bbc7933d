/- Package ask: the reader: single. -/
import Derived.Test.YtegbacpenolehaaGreatDoorRdr1
import Derived.Test.YtegbacpenolehaaGreatDoorShelf
import Derived.Lib.SlTrimSet
import Derived.Shelf.Strings.SlTrimAscii
import Derived.Deep.RegionHeld3
namespace Go.Proofs.YtegbacpenolehaaGreatDoor
open Go.RowKit

/-- strings.TrimLeft by ASCII bytes -/
theorem TrimL_any (s cs : ByteArray) (w : World) (hcs : cs.size < 4294967281) (hascii : ∀ b ∈ cs.data.toList, b.toNat < 128) :
    Calls Tryz.prog 135 #[.string s, .string cs] w fun e w' => e = .returned (.string ⟨(s.data.toList.dropWhile (cs.data.toList.contains ·)).toArray⟩) ∧ Fr noB w w' := by
  refine (Any.strings_TrimLeft_laid Tryz.lays161 (by kernel_rfl) s cs w hcs (fun j b hj => hascii b (List.mem_of_getElem? hj))).mono ?_
  rintro e w' ⟨he, hb⟩
  exact ⟨he, Fr.of_below hb⟩
theorem wrap_in {x : Int} (h : -9223372036854775808 ≤ x) (h2 : x < 9223372036854775808) : IntKind.i64.wrap x = x := by
  simp [IntKind.wrap, IntKind.signed, IntKind.bits]; omega
def tokA : ByteArray := ⟨tokSet.toArray⟩
theorem tok_ascii : ∀ b ∈ tokA.data.toList, b.toNat < 128 := by decide +kernel

/-- how far the signs of a token reach; and the = behind -/
def sgN (s : ByteArray) (i : Nat) : Nat := (singleN (s.data.toList.drop i)).length
def sgM (s : ByteArray) (i : Nat) : Nat := (singleM (s.data.toList.drop i)).length
theorem sg_le (s : ByteArray) {i : Nat} (h : i ≤ s.size) : i + sgN s i + sgM s i ≤ s.size := by
  have h1 := split_len tokB (s.data.toList.drop i)
  have h2 := split_len eqB ((s.data.toList.drop i).dropWhile tokB)
  unfold sgN sgM singleN singleM
  simp at h1; omega
theorem drop_take {p : UInt8 → Bool} (l : Bs) (i : Nat) : l.drop (i + ((l.drop i).takeWhile p).length) = (l.drop i).dropWhile p := by
  rw [← List.drop_drop, ← dropWhile_eq_drop]
theorem sg_drop1 (s : ByteArray) (i : Nat) : s.data.toList.drop (i + sgN s i) = (s.data.toList.drop i).dropWhile tokB := drop_take _ _
theorem sg_drop2 (s : ByteArray) (i : Nat) : s.data.toList.drop (i + sgN s i + sgM s i) = singleZ (s.data.toList.drop i) := by
  unfold sgM singleM singleZ
  rw [← sg_drop1]
  exact drop_take _ _
theorem ext_data (s : ByteArray) (i : Nat) : (s.extract i s.size).data.toList = s.data.toList.drop i := by
  rw [Lib.extract_data, List.take_of_length_le (by simp)]
theorem sg_text (s : ByteArray) (i : Nat) : s.extract i (i + sgN s i + sgM s i) = ⟨(singleN (s.data.toList.drop i) ++ singleM (s.data.toList.drop i)).toArray⟩ := by
  apply Go.WideShapes.bytes_inj
  rw [Lib.extract_data]
  show _ = singleN (s.data.toList.drop i) ++ singleM (s.data.toList.drop i)
  have e1 : singleN (s.data.toList.drop i) ++ (singleM (s.data.toList.drop i) ++ singleZ (s.data.toList.drop i)) = s.data.toList.drop i := by
    unfold singleN singleM singleZ
    rw [List.takeWhile_append_dropWhile, List.takeWhile_append_dropWhile]
  have e2 : i + sgN s i + sgM s i - i = (singleN (s.data.toList.drop i) ++ singleM (s.data.toList.drop i)).length := by
    unfold sgN sgM; rw [List.length_append]; omega
  have key : ∀ (A B Z D : Bs), A ++ (B ++ Z) = D → D.take (A ++ B).length = A ++ B := by
    intro A B Z D h
    subst h
    rw [← List.append_assoc, List.take_left' rfl]
  rw [e2]
  exact key _ _ _ _ e1
def SinglePost (c i : Nat) (s : ByteArray) (w : World) (e : Ending) (w' : World) : Prop :=
  Fr (one c) w w' ∧ match singleR (s.data.toList.drop i) with
    | some q => e = .returned (.tuple #[.string ⟨q.1.toArray⟩, .bool true]) ∧ ∃ j, j ≤ s.size ∧ CurAt w' c s j ∧ s.data.toList.drop j = q.2
    | none => e = .returned (.tuple #[.string ⟨#[]⟩, .bool false]) ∧ CurAt w' c s i
theorem SinglePost.hit {c i j : Nat} {s : ByteArray} {w w' : World} {q : Bs × Bs} (h : singleR (s.data.toList.drop i) = some q) (hf : Fr (one c) w w') (hj : j ≤ s.size) (hc : CurAt w' c s j) (hd : s.data.toList.drop j = q.2) :
    SinglePost c i s w (.returned (.tuple #[.string ⟨q.1.toArray⟩, .bool true])) w' := by
  refine ⟨hf, ?_⟩
  rw [h]; exact ⟨rfl, j, hj, hc, hd⟩
theorem SinglePost.no {c i : Nat} {s : ByteArray} {w w' : World} (h : singleR (s.data.toList.drop i) = none) (hf : Fr (one c) w w') (hc : CurAt w' c s i) :
    SinglePost c i s w (.returned (.tuple #[.string ⟨#[]⟩, .bool false])) w' := by
  refine ⟨hf, ?_⟩
  rw [h]; exact ⟨rfl, hc⟩
theorem Fr.ofNone {S : Nat → Prop} {w w' : World} (h : Fr noB w w') : Fr S w w' := h.mono (fun _ _ h => absurd h (fun h => h))

set_option maxRecDepth 100000 in
set_option maxHeartbeats 4000000 in
theorem single_any (b c i : Nat) (s : ByteArray) (v : Value) (w : World) (hr : RdrAt w b c s v) (h : CurAt w c s i) (hs : s.size < 100000) (hi : i ≤ s.size) :
    Calls Tryz.prog 96 #[.pointer (some ⟨b, 0, none⟩)] w (SinglePost c i s w) := by
  have hm : s.size ≤ maxLen := by unfold maxLen; omega
  have q0 := hr.cell0
  have q1 := hr.cell1
  have hle := sg_le s hi
  have HD1 := Lib.hid (sg_drop1 s i)
  have HD2 := Lib.hid (sg_drop2 s i)
  have HT := Lib.hid (sg_text s i)
  have HR := Lib.hid (show singleR (s.data.toList.drop i) = if decide (0 < sgN s i) && overB (s.data.toList.drop (i + sgN s i + sgM s i)) then some (singleN (s.data.toList.drop i) ++ singleM (s.data.toList.drop i), blanksR (s.data.toList.drop (i + sgN s i + sgM s i))) else none by
    unfold singleR
    rw [sg_drop2]
    have : (!(singleN (s.data.toList.drop i)).isEmpty) = decide (0 < sgN s i) := by
      unfold sgN
      cases singleN (s.data.toList.drop i) <;> simp
    rw [this])
  have T1 := Lib.hid (show ∀ U, Calls Tryz.prog 135 #[.string (s.extract i s.size), .string tokA] U fun e w' => e = .returned (.string (s.extract (i + sgN s i) s.size)) ∧ Fr noB U w' from fun U => by
    have e1 : s.extract (i + sgN s i) s.size = ⟨((s.extract i s.size).data.toList.dropWhile (tokA.data.toList.contains ·)).toArray⟩ := by
      apply Go.WideShapes.bytes_inj
      rw [ext_data, ext_data, sg_drop1]
      rfl
    rw [e1]
    exact TrimL_any _ _ U (by decide) tok_ascii)
  have T2 := Lib.hid (show ∀ U, Calls Tryz.prog 135 #[.string (s.extract (i + sgN s i) s.size), .string ⟨#[61]⟩] U fun e w' => e = .returned (.string (s.extract (i + sgN s i + sgM s i) s.size)) ∧ Fr noB U w' from fun U => by
    have e1 : s.extract (i + sgN s i + sgM s i) s.size = ⟨((s.extract (i + sgN s i) s.size).data.toList.dropWhile ((⟨#[61]⟩ : ByteArray).data.toList.contains ·)).toArray⟩ := by
      apply Go.WideShapes.bytes_inj
      rw [ext_data, ext_data, sg_drop1, sg_drop2]
      rfl
    rw [e1]
    exact TrimL_any _ _ U (by decide) (by decide))
  generalize hN : sgN s i = N at *
  generalize hM : sgM s i = M at *
  clear hN hM
  generalize singleN (s.data.toList.drop i) ++ singleM (s.data.toList.drop i) = TX at *
  have hJ1 : i ≤ i + N := by omega
  have hJ2 : i + N ≤ i + N + M := by omega
  have hJN : i + N - i = N := by omega
  have hLM : i + N + M - (i + N) = M := by omega
  generalize hL : i + N + M = L at *
  generalize hJ : i + N = J at *
  have E1 := Lib.hid hJ
  have E2 := Lib.hid hL
  clear hL hJ
  have HNM := Lib.hid (And.intro hJN hLM)
  clear hJN hLM
  have hz1 : (s.extract i s.size).size = s.size - i := by rw [ByteArray.size_extract]; omega
  have hz2 : (s.extract J s.size).size = s.size - J := by rw [ByteArray.size_extract]; omega
  have hz3 : (s.extract L s.size).size = s.size - L := by rw [ByteArray.size_extract]; omega
  have W1 := Lib.hid (show IntKind.i64.wrap (((s.size - i : Nat) : Int) - ((s.size - J : Nat) : Int)) = (N : Int) by
    have e := HNM.out.1
    rw [show (((s.size - i : Nat) : Int) - ((s.size - J : Nat) : Int)) = (N : Int) from by omega]
    exact wrap_in (by omega) (by omega))
  have W2 := Lib.hid (show IntKind.i64.wrap (((s.size - J : Nat) : Int) - ((s.size - L : Nat) : Int)) = (M : Int) by
    have e := HNM.out.2
    rw [show (((s.size - J : Nat) : Int) - ((s.size - L : Nat) : Int)) = (M : Int) from by omega]
    exact wrap_in (by omega) (by omega))
  have W3 := Lib.hid (show IntKind.i64.wrap ((i : Int) + (N : Int)) = (J : Int) by
    have e := HNM.out.1
    rw [show ((i : Int) + (N : Int)) = (J : Int) from by omega]
    exact wrap_in (by omega) (by omega))
  have W4 := Lib.hid (show IntKind.i64.wrap ((J : Int) + (M : Int)) = (L : Int) by
    have e := HNM.out.2
    rw [show ((J : Int) + (M : Int)) = (L : Int) from by omega]
    exact wrap_in (by omega) (by omega))
  have HRC := Lib.hid (show ∀ U, Fr noB w U → RdrAt U b c s v ∧ CurAt U c s i from fun U hU => ⟨hr.fr hU (fun h => h), h.fr hU (fun h => h)⟩)
  go_enter Tryz.func96, Tryz.ntmps96
  go_wp2_with fail
  refine (At_any c s i w h).mono ?_
  rintro e w0 ⟨rfl, rfl⟩
  have b1 : (0 : Int) ≤ (i : Int) := by omega
  have b2 : (i : Int) ≤ (s.size : Int) := by omega
  go_wp2_with fail
  go_region_held3 (fun U => U.cell? ⟨b, 1, none⟩ = some (.string s)) ((refine (HRC.out _ ?_).1.cell1; repeat (first | exact Fr.refl _ _ | apply Fr.alloc | apply Fr.drew | refine Fr.trans ?_ (by assumption)))) ((go_at_call 135; refine (T1.out _).mono ?_; rintro e v1 ⟨rfl, hv1⟩))
  rw [W1.out]
  obtain ⟨hr1, hc1⟩ := HRC.out v1 (by repeat (first | exact Fr.refl _ _ | apply Fr.alloc | apply Fr.drew | apply Fr.drewN | refine Fr.trans ?_ (by assumption)))
  have HF1 := Lib.hid (show Fr noB w v1 from (by repeat (first | exact Fr.refl _ _ | apply Fr.alloc | apply Fr.drew | apply Fr.drewN | refine Fr.trans ?_ (by assumption))))
  clear hv1
  have q1 := hr1.cell1
  have b3 : (0 : Int) ≤ (J : Int) := by omega
  have b4 : (J : Int) ≤ (s.size : Int) := by omega
  have w3 := W3.out
  go_wp2_with fail
  go_region_held3 (fun U => U.cell? ⟨b, 1, none⟩ = some (.string s)) ((refine (HRC.out _ ?_).1.cell1; repeat (first | exact Fr.refl _ _ | exact HF1.out | apply Fr.alloc | apply Fr.drew | refine Fr.trans ?_ (by assumption)))) ((go_at_call 135; refine (T2.out _).mono ?_; rintro e v2 ⟨rfl, hv2⟩))
  rw [W2.out]
  obtain ⟨hr2, hc2⟩ := HRC.out v2 (by repeat (first | exact Fr.refl _ _ | exact HF1.out | apply Fr.alloc | apply Fr.drew | apply Fr.drewN | refine Fr.trans ?_ (by assumption)))
  have HF2 := Lib.hid (show Fr noB w v2 from (by repeat (first | exact Fr.refl _ _ | exact HF1.out | apply Fr.alloc | apply Fr.drew | apply Fr.drewN | refine Fr.trans ?_ (by assumption))))
  clear hv2 q1 hr1 hc1
  have q0 := hr2.cell0
  have q1 := hr2.cell1
  have w4 := W4.out
  go_wp2_with fail
  refine (Go_any c s i L v2 hc2 hm).mono ?_
  rintro e v3 ⟨rfl, hc3, hf3⟩
  rw [goTo_at hle] at hc3
  have hr3 := hr2.one hc2 hf3
  have HF3 := Lib.hid (HF2.out.ofNone.trans hf3)
  have q0 := hr3.cell0
  have q1 := hr3.cell1
  by_cases hn0 : 0 < N
  · have n0 : (0 : Int) < (N : Int) := by omega
    rw [decide_eq_true hn0, Bool.true_and] at HR
    go_wp2_with fail
    refine (over_any b c L s v v3 hr3 hc3 hm hle).mono ?_
    rintro e v4 ⟨rfl, hc4, hf4⟩
    have hr4 := hr3.one hc3 hf4
    have q0 := hr4.cell0
    have q1 := hr4.cell1
    have HBD := Lib.hid (blk_drop s L)
    have hbl := blk_le (s := s) hle
    cases ho : overB (s.data.toList.drop L)
    · rw [ho] at HR
      go_wp2_with fail
      refine (Go_any c s _ i v4 hc4 hm).mono ?_
      rintro e v5 ⟨rfl, hc5, hf5⟩
      rw [goTo_at hi] at hc5
      go_wp2
      go_ret2
      exact SinglePost.no (by rw [HR.out]; rfl) ((HF3.out.trans hf4).trans hf5) hc5
    · rw [ho] at HR
      have b5 : (i : Int) ≤ (L : Int) := by omega
      have b6 : (L : Int) ≤ (s.size : Int) := by omega
      have b7 : (0 : Int) ≤ (L : Int) := by omega
      go_wp2
      go_ret2
      rw [HT.out]
      exact SinglePost.hit (q := (TX, blanksR (s.data.toList.drop L))) (by rw [HR.out]; rfl) (HF3.out.trans hf4) hbl hc4 HBD.out
  · have n0 : ¬ (0 : Int) < (N : Int) := by omega
    rw [decide_eq_false hn0, Bool.false_and] at HR
    go_wp2_with fail
    refine (Go_any c s _ i v3 hc3 hm).mono ?_
    rintro e v5 ⟨rfl, hc5, hf5⟩
    rw [goTo_at hi] at hc5
    go_wp2
    go_ret2
    exact SinglePost.no (by rw [HR.out]; rfl) (HF3.out.trans hf5) hc5
end Go.Proofs.YtegbacpenolehaaGreatDoor
