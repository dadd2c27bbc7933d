/- Walks: coding.Base64. -/
import Derived.Test.YtegbacpenolehaaDoorUnhex
namespace Go.Proofs.YtegbacpenolehaaDoor
open Go.RowKit

/-- a letter of base 64 -/
def letB (n : Nat) : UInt8 := if n < 26 then (n + 65).toUInt8 else if n < 52 then (n + 71).toUInt8 else if n < 62 then (n - 4).toUInt8 else if n = 62 then 43 else 47
def val3 (a b c : UInt8) : Nat := a.toNat * 65536 + b.toNat * 256 + c.toNat
def sixB (v i : Nat) : UInt8 := letB (v / 2 ^ (18 - 6 * i) % 64)
def b64L : List UInt8 → List UInt8
  | [] => []
  | [a] => [sixB (val3 a 0 0) 0, sixB (val3 a 0 0) 1, 61, 61]
  | [a, b] => [sixB (val3 a b 0) 0, sixB (val3 a b 0) 1, sixB (val3 a b 0) 2, 61]
  | a :: b :: c :: r => sixB (val3 a b c) 0 :: sixB (val3 a b c) 1 :: sixB (val3 a b c) 2 :: sixB (val3 a b c) 3 :: b64L r

/-- the first k bytes (noughts behind the last) as one number -/
def vpart (l : List UInt8) : Nat → Nat
  | 0 => 0
  | k + 1 => vpart l k * 256 + (l.getD k 0).toNat
theorem vpart_lt (l : List UInt8) : ∀ k, vpart l k < 256 ^ k
  | 0 => by simp [vpart]
  | k + 1 => by
    have h := vpart_lt l k
    have h2 := (l.getD k 0).toNat_lt
    rw [vpart, Nat.pow_succ]
    omega
theorem or_low (v x : Nat) (hv : v < 4294967296) (hx : x < 256) : bits .or .i64 ((v : Int) * 256) (x : Int) = ((v * 256 + x : Nat) : Int) := by
  have hm : ((v : Int) * 256) = ((v * 256 : Nat) : Int) := by omega
  rw [hm]
  have h1 : (BitVec.ofInt 64 ((v * 256 : Nat) : Int)).toNat = v * 256 := by
    rw [BitVec.ofInt_natCast, BitVec.toNat_ofNat]; exact Nat.mod_eq_of_lt (by omega)
  have h2 : (BitVec.ofInt 64 (x : Int)).toNat = x := by
    rw [BitVec.ofInt_natCast, BitVec.toNat_ofNat]; exact Nat.mod_eq_of_lt (by omega)
  show IntKind.i64.wrap ((BitVec.ofInt 64 ((v * 256 : Nat) : Int) ||| BitVec.ofInt 64 (x : Int)).toNat : Int) = _
  have h3 : v * 256 ||| x = v * 256 + x := by
    have h := Nat.shiftLeft_add_eq_or_of_lt (show x < 2 ^ 8 from hx) v
    rw [Nat.shiftLeft_eq] at h
    exact h.symm
  rw [BitVec.toNat_or, h1, h2, h3, IntWalk.i64_left]
  exact IntWalk.wrap64_in _ (by omega)
theorem vpart_at (r : ByteArray) (k : Nat) (h : k < r.size) : vpart r.data.toList (k + 1) = vpart r.data.toList k * 256 + r[k].toNat := by
  rw [vpart, List.getD_eq_getElem?_getD, byte_at r k h]; rfl
theorem vpart_off (r : ByteArray) (k : Nat) (h : ¬ k < r.size) : vpart r.data.toList (k + 1) = vpart r.data.toList k * 256 := by
  rw [vpart, List.getD_eq_getElem?_getD, byte_off r k h]; simp only [Option.getD_none]; exact Nat.add_zero _
theorem vpart_val (r : ByteArray) : vpart r.data.toList 3 = val3 (r.data.toList.getD 0 0) (r.data.toList.getD 1 0) (r.data.toList.getD 2 0) := by
  show ((0 * 256 + _) * 256 + _) * 256 + _ = _ * 65536 + _ * 256 + _
  rw [Nat.zero_mul, Nat.zero_add, Nat.add_mul, Nat.mul_assoc]
def outL (v n : Nat) : List UInt8 := [sixB v 0, sixB v 1, if 2 ≤ n then sixB v 2 else 61, if 3 ≤ n then sixB v 3 else 61]
def O4Rel (w : World) (acc : List UInt8) (v n : Nat) (i : Value) (wr : World) : Prop :=
  ∃ k : Nat, k ≤ 4 ∧ i = .int .i64 k ∧ Bld w.heap.size w.heap.size (acc ++ (outL v n).take k) wr ∧ Fr noB w wr ∧ w.heap.size ≤ wr.heap.size
set_option maxRecDepth 100000 in
theorem letterAt : ∀ n (h : n < 64), (⟨#[65, 66, 67, 68, 69, 70, 71, 72, 73, 74, 75, 76, 77, 78, 79, 80, 81, 82, 83, 84, 85, 86, 87, 88, 89, 90, 97, 98, 99, 100, 101, 102, 103, 104, 105, 106, 107, 108, 109, 110, 111, 112, 113, 114, 115, 116, 117, 118, 119, 120, 121, 122, 48, 49, 50, 51, 52, 53, 54, 55, 56, 57, 43, 47]⟩ : ByteArray)[n]'h = letB n := by decide +kernel
theorem and63 (v i : Nat) (hv : v < 16777216) : ∃ m : Nat, m < 64 ∧ letB m = sixB v i ∧ bits .and .i64 ((v / 2 ^ (18 - 6 * i) : Nat) : Int) 63 = (m : Int) := by
  refine ⟨v / 2 ^ (18 - 6 * i) % 64, Nat.mod_lt _ (by decide), rfl, ?_⟩
  have hx : v / 2 ^ (18 - 6 * i) < 16777216 := Nat.lt_of_le_of_lt (Nat.div_le_self _ _) hv
  generalize v / 2 ^ (18 - 6 * i) = x at hx
  have h1 : (BitVec.ofInt 64 (x : Int)).toNat = x := by
    rw [BitVec.ofInt_natCast, BitVec.toNat_ofNat]; exact Nat.mod_eq_of_lt (by omega)
  have h2 : (BitVec.ofInt 64 63).toNat = 63 := by decide
  show IntKind.i64.wrap ((BitVec.ofInt 64 (x : Int) &&& BitVec.ofInt 64 63).toNat : Int) = _
  rw [BitVec.toNat_and, h1, h2, Nat.and_two_pow_sub_one_eq_mod x 6, IntWalk.i64_left]
  exact IntWalk.wrap64_in _ (by omega)
theorem ext_list (r : ByteArray) (n : Nat) : (r.extract n r.size).data.toList = r.data.toList.drop n := by
  rw [ByteArray.data_extract, Array.toList_extract]
  show (r.data.toList.drop n).take (r.data.toList.length - n) = _
  rw [List.take_of_length_le (by simp)]
theorem b64L_list : ∀ (l : List UInt8) (n : Nat), 0 < n → n ≤ 3 → n ≤ l.length → (n < 3 → n = l.length) →
    b64L l = outL (val3 (l.getD 0 0) (l.getD 1 0) (l.getD 2 0)) n ++ b64L (l.drop n)
  | [], n, h0, _, hl, _ => by simp at hl; omega
  | [a], n, h0, _, hl, _ => by
    obtain rfl : n = 1 := by simp at hl; omega
    rfl
  | [a, b], n, h0, _, hl, h => by
    obtain rfl : n = 2 := by simp at hl h; omega
    rfl
  | a :: b :: c :: t, n, h0, h3, hl, h => by
    obtain rfl : n = 3 := by simp at hl h; omega
    rfl
theorem b64L_step (r : ByteArray) (v n : Nat) (hn0 : 0 < n) (hn3 : n ≤ 3) (hnr : n ≤ r.size) (hnk : n < 3 → n = r.size) (hv : v = val3 (r.data.toList.getD 0 0) (r.data.toList.getD 1 0) (r.data.toList.getD 2 0)) :
    b64L r.data.toList = outL v n ++ b64L (r.extract n r.size).data.toList := by
  rw [ext_list, hv]
  exact b64L_list _ n hn0 hn3 hnr hnk
theorem ext_size (r : ByteArray) (n : Nat) : (r.extract n r.size).size = r.size - n := by
  have h : (r.extract n r.size).data.toList.length = (r.data.toList.drop n).length := by rw [ext_list]
  rw [List.length_drop] at h
  exact h
def V3Rel (r : ByteArray) (w0 : World) (v i : Value) (wr : World) : Prop :=
  ∃ k : Nat, k ≤ 3 ∧ i = .int .i64 k ∧ v = .int .i64 (vpart r.data.toList k) ∧ wr = w0
def B64Rel (w : World) (s : ByteArray) (v : Value) (wr : World) : Prop :=
  ∃ (r : ByteArray) (acc : List UInt8), r.size ≤ s.size ∧ v = .string r ∧ acc.length ≤ 4 * (s.size - r.size) ∧ b64L s.data.toList = acc ++ b64L r.data.toList ∧ Bld w.heap.size w.heap.size acc wr ∧ Fr noB w wr ∧ w.heap.size ≤ wr.heap.size
def lenOf : Value → Nat
  | .string r => r.size
  | _ => 0
set_option maxRecDepth 100000 in
set_option maxHeartbeats 4000000 in
theorem Base64_any (s : ByteArray) (w : World) (hs : s.size < 4398046511104) :
    Calls Tryd.prog 122 #[.string s] w fun e w' => e = .returned (.string ⟨(b64L s.data.toList).toArray⟩) ∧ Fr noB w w' := by
  go_enter Tryd.func122, Tryd.ntmps122
  go_wp2
  go_loopw [0] (B64Rel w s) (fun v _ => lenOf v)
  case atStart => exact ⟨s, [], Nat.le_refl _, rfl, by simp, by simp, Bld.new w, (Fr.refl _ _).alloc _, by simp⟩
  case round =>
    obtain ⟨r, acc, hr, rfl, hal, hun, hb, hf, hz⟩ := hrel
    have HUN := Lib.hid hun
    clear hun
    by_cases hr0 : 0 < r.size
    · have hri : (0 : Int) < (r.size : Int) := by omega
      obtain ⟨n, hn0, hn3, hnr, hni, hnk⟩ : ∃ n : Nat, 0 < n ∧ n ≤ 3 ∧ n ≤ r.size ∧ min (3 : Int) (r.size : Int) = (n : Int) ∧ (n < 3 → n = r.size) := ⟨min 3 r.size, by omega, by omega, by omega, by omega, by omega⟩
      go_wp2_with fail
      go_loopw [5, 14] (V3Rel r wr) (fun _ i _ => 3 - (intOf i).toNat)
      case atStart => exact ⟨0, by omega, rfl, rfl, rfl⟩
      case round =>
        obtain ⟨k, hk, rfl, rfl, rfl⟩ := hrel
        by_cases hk3 : k < 3
        · have hki : (k : Int) < 3 := by omega
          have hvb := vpart_lt r.data.toList k
          have hvb2 : vpart r.data.toList k < 65536 := Nat.lt_of_lt_of_le hvb (Nat.le_trans (Nat.pow_le_pow_right (by omega) (show k ≤ 2 by omega)) (by decide))
          have hshl : ¬ (9223372036854775807 : Int) < (vpart r.data.toList k : Int) * 256 := by omega
          by_cases hkn : k < n
          · have hkn' : (k : Int) < (n : Int) := by omega
            have hkr' : k < r.size := by omega
            have hkr : (k : Int) < (r.size : Int) := by omega
            have hst := Lib.hid (vpart_at r k hkr')
            have hxl := r[k].toNat_lt
            go_wp2_with fail
            refine ⟨⟨k + 1, by omega, by go_num, ?_, rfl⟩, by simp [intOf]; omega⟩
            rw [or_low _ _ (Nat.lt_trans hvb2 (by decide)) hxl, hst.out]
          · have hkn' : ¬ (k : Int) < (n : Int) := by omega
            have hst := Lib.hid (vpart_off r k (by omega))
            go_wp2_with fail
            refine ⟨⟨k + 1, by omega, by go_num, ?_, rfl⟩, by simp [intOf]; omega⟩
            rw [hst.out]; rfl
        · have hki : ¬ (k : Int) < 3 := by omega
          have hk' : k = 3 := by omega
          subst hk'
          have hvb := vpart_lt r.data.toList 3
          have hvv := Lib.hid (vpart_val r)
          generalize vpart r.data.toList 3 = v at hvb hvv
          go_wp2_with fail
          go_loopw [29] (O4Rel w acc v n) (fun i _ => 4 - (intOf i).toNat)
          case atStart => exact ⟨0, by omega, rfl, by simpa using hb, hf, hz⟩
          case round =>
            obtain ⟨k, hk, rfl, hb1, hf1, hz1⟩ := hrel
            have hlo : ∀ j, (acc ++ (outL v n).take j).length ≤ 4 * s.size + 4 := by intro j; rw [List.length_append, List.length_take]; show _ + min j 4 ≤ _; omega
            match k, hk, hb1 with
            | 0, _, hb1 =>
              obtain ⟨m, hm, hl, hband⟩ := and63 v 0 hvb
              rw [show (((v / 2 ^ (18 - 6 * 0) : Nat) : Int)) = (v : Int) / 262144 from by omega] at hband
              have hkn : (0 : Int) ≤ (n : Int) := by omega
              have hq : (0 : Int) ≤ (m : Int) ∧ (m : Int) < 64 := by omega
              go_wp2_with fail
              rw [letterAt m hm, hl]
              refine (WriteByte_any _ _ _ (sixB v 0) wr hb1 (by have := hlo 0; omega) hz1).mono ?_
              rintro e w2 ⟨rfl, hb2, hf2⟩
              have hz2 : w.heap.size ≤ w2.heap.size := Nat.le_trans hz1 hf2.size
              have HB2 : Bld w.heap.size w.heap.size (acc ++ (outL v n).take (0 + 1)) w2 := by
                have e : (outL v n).take (0 + 1) = (outL v n).take 0 ++ [(sixB v 0)] := by simp [outL, *]
                rw [e, ← List.append_assoc]; exact hb2
              clear hb1 hb2
              go_wp2
              go_roundw
              case rel => exact ⟨0 + 1, by omega, by go_num, HB2, hf1.thenBelow hf2, hz2⟩
              case measure => simp [intOf]
            | 1, _, hb1 =>
              obtain ⟨m, hm, hl, hband⟩ := and63 v 1 hvb
              rw [show (((v / 2 ^ (18 - 6 * 1) : Nat) : Int)) = (v : Int) / 4096 from by omega] at hband
              have hkn : (1 : Int) ≤ (n : Int) := by omega
              have hq : (0 : Int) ≤ (m : Int) ∧ (m : Int) < 64 := by omega
              go_wp2_with fail
              rw [letterAt m hm, hl]
              refine (WriteByte_any _ _ _ (sixB v 1) wr hb1 (by have := hlo 1; omega) hz1).mono ?_
              rintro e w2 ⟨rfl, hb2, hf2⟩
              have hz2 : w.heap.size ≤ w2.heap.size := Nat.le_trans hz1 hf2.size
              have HB2 : Bld w.heap.size w.heap.size (acc ++ (outL v n).take (1 + 1)) w2 := by
                have e : (outL v n).take (1 + 1) = (outL v n).take 1 ++ [(sixB v 1)] := by simp [outL, *]
                rw [e, ← List.append_assoc]; exact hb2
              clear hb1 hb2
              go_wp2
              go_roundw
              case rel => exact ⟨1 + 1, by omega, by go_num, HB2, hf1.thenBelow hf2, hz2⟩
              case measure => simp [intOf]
            | 2, _, hb1 =>
              obtain ⟨m, hm, hl, hband⟩ := and63 v 2 hvb
              rw [show (((v / 2 ^ (18 - 6 * 2) : Nat) : Int)) = (v : Int) / 64 from by omega] at hband
              by_cases hnk2 : 2 ≤ n
              · have hkn : (2 : Int) ≤ (n : Int) := by omega
                have hq : (0 : Int) ≤ (m : Int) ∧ (m : Int) < 64 := by omega
                go_wp2_with fail
                rw [letterAt m hm, hl]
                refine (WriteByte_any _ _ _ (sixB v 2) wr hb1 (by have := hlo 2; omega) hz1).mono ?_
                rintro e w2 ⟨rfl, hb2, hf2⟩
                have hz2 : w.heap.size ≤ w2.heap.size := Nat.le_trans hz1 hf2.size
                have HB2 : Bld w.heap.size w.heap.size (acc ++ (outL v n).take (2 + 1)) w2 := by
                  have e : (outL v n).take (2 + 1) = (outL v n).take 2 ++ [(sixB v 2)] := by simp [outL, *]
                  rw [e, ← List.append_assoc]; exact hb2
                clear hb1 hb2
                go_wp2
                go_roundw
                case rel => exact ⟨2 + 1, by omega, by go_num, HB2, hf1.thenBelow hf2, hz2⟩
                case measure => simp [intOf]
              · have hkn : ¬ (2 : Int) ≤ (n : Int) := by omega
                go_wp2_with fail
                refine (WriteByte_any _ _ _ 61 wr hb1 (by have := hlo 2; omega) hz1).mono ?_
                rintro e w2 ⟨rfl, hb2, hf2⟩
                have hz2 : w.heap.size ≤ w2.heap.size := Nat.le_trans hz1 hf2.size
                have HB2 : Bld w.heap.size w.heap.size (acc ++ (outL v n).take (2 + 1)) w2 := by
                  have e : (outL v n).take (2 + 1) = (outL v n).take 2 ++ [61] := by simp [outL, *]
                  rw [e, ← List.append_assoc]; exact hb2
                clear hb1 hb2
                go_wp2
                go_roundw
                case rel => exact ⟨2 + 1, by omega, by go_num, HB2, hf1.thenBelow hf2, hz2⟩
                case measure => simp [intOf]
            | 3, _, hb1 =>
              obtain ⟨m, hm, hl, hband⟩ := and63 v 3 hvb
              rw [show (((v / 2 ^ (18 - 6 * 3) : Nat) : Int)) = (v : Int) from by omega] at hband
              by_cases hnk2 : 3 ≤ n
              · have hkn : (3 : Int) ≤ (n : Int) := by omega
                have hq : (0 : Int) ≤ (m : Int) ∧ (m : Int) < 64 := by omega
                go_wp2_with fail
                rw [letterAt m hm, hl]
                refine (WriteByte_any _ _ _ (sixB v 3) wr hb1 (by have := hlo 3; omega) hz1).mono ?_
                rintro e w2 ⟨rfl, hb2, hf2⟩
                have hz2 : w.heap.size ≤ w2.heap.size := Nat.le_trans hz1 hf2.size
                have HB2 : Bld w.heap.size w.heap.size (acc ++ (outL v n).take (3 + 1)) w2 := by
                  have e : (outL v n).take (3 + 1) = (outL v n).take 3 ++ [(sixB v 3)] := by simp [outL, *]
                  rw [e, ← List.append_assoc]; exact hb2
                clear hb1 hb2
                go_wp2
                go_roundw
                case rel => exact ⟨3 + 1, by omega, by go_num, HB2, hf1.thenBelow hf2, hz2⟩
                case measure => simp [intOf]
              · have hkn : ¬ (3 : Int) ≤ (n : Int) := by omega
                go_wp2_with fail
                refine (WriteByte_any _ _ _ 61 wr hb1 (by have := hlo 3; omega) hz1).mono ?_
                rintro e w2 ⟨rfl, hb2, hf2⟩
                have hz2 : w.heap.size ≤ w2.heap.size := Nat.le_trans hz1 hf2.size
                have HB2 : Bld w.heap.size w.heap.size (acc ++ (outL v n).take (3 + 1)) w2 := by
                  have e : (outL v n).take (3 + 1) = (outL v n).take 3 ++ [61] := by simp [outL, *]
                  rw [e, ← List.append_assoc]; exact hb2
                clear hb1 hb2
                go_wp2
                go_roundw
                case rel => exact ⟨3 + 1, by omega, by go_num, HB2, hf1.thenBelow hf2, hz2⟩
                case measure => simp [intOf]
            | 4, _, hb1 =>
              have hout : (outL v n).take 4 = outL v n := rfl
              have hstep := b64L_step r v n hn0 hn3 hnr hnk hvv.out
              go_wp2_with fail
              refine ⟨⟨r.extract n r.size, acc ++ outL v n, ?_, rfl, ?_, ?_, hb1, hf1, hz1⟩, ?_⟩
              · rw [ext_size]; omega
              · rw [ext_size, List.length_append]
                have hn4 : (outL v n).length = 4 := rfl
                omega
              · rw [HUN.out, hstep, List.append_assoc]
              · show (r.extract n r.size).size < r.size
                rw [ext_size]; omega
    · have hri : ¬ (0 : Int) < (r.size : Int) := by omega
      have hfin : b64L s.data.toList = acc := by rw [HUN.out, show r.data.toList = [] from List.eq_nil_of_length_eq_zero (show r.size = 0 by omega)]; simp [b64L]
      go_wp2_with fail
      refine (BString_any _ _ _ wr hb hz).mono ?_
      rintro e w1 ⟨rfl, hf1⟩
      go_wp2
      go_ret
      rw [hfin]
      exact ⟨rfl, hf.thenBelow hf1⟩
end Go.Proofs.YtegbacpenolehaaDoor
