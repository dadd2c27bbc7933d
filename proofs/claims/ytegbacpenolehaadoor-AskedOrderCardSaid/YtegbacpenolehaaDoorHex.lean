/- Walks: coding.Hex. -/
import Derived.Test.YtegbacpenolehaaDoorBuild
namespace Go.Proofs.YtegbacpenolehaaDoor
open Go.RowKit

/-- a small hexadecimal digit -/
def digB (n : UInt8) : UInt8 := if n < 10 then n + 48 else n + 87
def hexL (l : List UInt8) : List UInt8 := l.flatMap fun (c : UInt8) => [digB (c >>> 4), digB (c &&& 15)]
theorem hexL_len (l : List UInt8) : (hexL l).length = 2 * l.length := by
  unfold hexL
  induction l with
  | nil => rfl
  | cons c l ih => simp at ih ⊢; omega
theorem hexL_app (l m : List UInt8) : hexL (l ++ m) = hexL l ++ hexL m := by unfold hexL; exact List.flatMap_append
theorem hexL_snoc (s : ByteArray) (k : Nat) (hk : k < s.size) : hexL (s.data.toList.take (k + 1)) = hexL (s.data.toList.take k) ++ [digB (s[k] >>> 4), digB (s[k] &&& 15)] := by
  rw [List.take_add_one, byte_at s k hk, hexL_app]; rfl

theorem smallAt : ∀ n (h : n < 16), (⟨#[48, 49, 50, 51, 52, 53, 54, 55, 56, 57, 97, 98, 99, 100, 101, 102]⟩ : ByteArray)[n]'h = digB n.toUInt8 := by decide
theorem shr4 (c : UInt8) : (c.toNat / 16).toUInt8 = c >>> 4 := by
  apply UInt8.toNat_inj.1
  have := c.toNat_lt
  simp [UInt8.toNat_shiftRight, Nat.shiftRight_eq_div_pow]
  omega
theorem and15 (c : UInt8) : (c.toNat % 16).toUInt8 = c &&& 15 := by
  apply UInt8.toNat_inj.1
  have := c.toNat_lt
  have h := Nat.and_two_pow_sub_one_eq_mod c.toNat 4
  simp [UInt8.toNat_and] at h ⊢
  omega

def HexRel (w : World) (s : ByteArray) (i : Value) (wr : World) : Prop :=
  ∃ k : Nat, k ≤ s.size ∧ i = .int .i64 k ∧ Bld w.heap.size w.heap.size (hexL (s.data.toList.take k)) wr ∧ Fr noB w wr ∧ w.heap.size ≤ wr.heap.size
set_option maxRecDepth 100000 in
set_option maxHeartbeats 2000000 in
theorem Hex_any (s : ByteArray) (w : World) (hs : s.size < 4398046511104) :
    Calls Tryd.prog 121 #[.string s] w fun e w' => e = .returned (.string ⟨(hexL s.data.toList).toArray⟩) ∧ Fr noB w w' := by
  go_enter Tryd.func121, Tryd.ntmps121
  go_wp2
  go_loopw [7] (HexRel w s) (fun i _ => s.size - (intOf i).toNat)
  case atStart => exact ⟨0, Nat.zero_le _, rfl, Bld.new w, (Fr.refl _ _).alloc _, by simp⟩
  case round =>
    obtain ⟨k, hk, rfl, hb, hf, hz⟩ := hrel
    by_cases hks : k < s.size
    · have hki : (k : Int) < (s.size : Int) := by omega
      have hq1 : 0 ≤ (s[k].toNat : Int) / 16 ∧ (s[k].toNat : Int) / 16 < 16 := by have := s[k].toNat_lt; omega
      have hlen : (hexL (s.data.toList.take k)).length ≤ 2 * k := by rw [hexL_len, List.length_take]; omega
      go_wp2_with fail
      rw [smallAt, shr4]
      refine (WriteByte_any _ _ _ _ wr hb (by omega) hz).mono ?_
      rintro e w1 ⟨rfl, hb1, hf1⟩
      have hz1 := hf1.size
      go_wp2_with fail
      rw [smallAt, and15]
      refine (WriteByte_any _ _ _ _ w1 hb1 (by rw [List.length_append]; simp; omega) (by omega)).mono ?_
      rintro e w2 ⟨rfl, hb2, hf2⟩
      have hz2 := hf2.size
      have hsn := Lib.hid (hexL_snoc s k hks)
      rw [List.append_assoc] at hb2
      have HB2 : Bld w.heap.size w.heap.size (hexL (s.data.toList.take (k + 1))) w2 := by rw [hsn.out]; exact hb2
      clear hb hb1 hb2
      go_wp2
      go_roundw
      case rel => exact ⟨k + 1, by omega, by go_num, HB2, (hf.thenBelow hf1).thenBelow hf2, by omega⟩
      case measure => simp [intOf]; omega
    · have hki : ¬ (k : Int) < (s.size : Int) := by omega
      have hk2 : k = s.size := by omega
      have hfin := Lib.hid (show s.data.toList.take k = s.data.toList from List.take_of_length_le (by rw [hk2]; exact Nat.le_refl _))
      go_wp2_with fail
      refine (BString_any _ _ _ wr hb hz).mono ?_
      rintro e w1 ⟨rfl, hf1⟩
      rw [hfin.out]
      go_wp2
      go_ret
      exact ⟨rfl, hf.thenBelow hf1⟩
end Go.Proofs.YtegbacpenolehaaDoor
