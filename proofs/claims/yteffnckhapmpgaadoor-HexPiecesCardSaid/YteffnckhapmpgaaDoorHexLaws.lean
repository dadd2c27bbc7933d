/- The laws HexBack and HexPieces: their walks. -/
import Derived.Test.YteffnckhapmpgaaDoorCoded
namespace Go.Proofs.YteffnckhapmpgaaDoor
open Go.RowKit

theorem nib_dig_all : ∀ n : Fin 256, nibB (digB (n.val.toUInt8 >>> 4)) = some (n.val.toUInt8 >>> 4) ∧ nibB (digB (n.val.toUInt8 &&& 15)) = some (n.val.toUInt8 &&& 15) ∧ (n.val.toUInt8 >>> 4) * 16 + (n.val.toUInt8 &&& 15) = n.val.toUInt8 := by decide +kernel
theorem nib_dig (c : UInt8) : nibB (digB (c >>> 4)) = some (c >>> 4) ∧ nibB (digB (c &&& 15)) = some (c &&& 15) ∧ (c >>> 4) * 16 + (c &&& 15) = c := by
  have h := nib_dig_all ⟨c.toNat, c.toNat_lt⟩
  simpa using h
theorem dig_nib_all : ∀ n : Fin 256, (match nibB n.val.toUInt8 with | some x => digB x == n.val.toUInt8 && decide (x < 16) | none => true) = true := by decide +kernel
theorem dig_nib {c x : UInt8} (h : nibB c = some x) : digB x = c ∧ x < 16 := by
  have h1 := dig_nib_all ⟨c.toNat, c.toNat_lt⟩
  have hc : (c.toNat).toUInt8 = c := by simp
  rw [show (⟨c.toNat, c.toNat_lt⟩ : Fin 256).val.toUInt8 = c from hc, h] at h1
  simpa using h1
theorem pair_all : ∀ x y : Fin 16, ((x.val.toUInt8 * 16 + y.val.toUInt8) >>> 4 = x.val.toUInt8) ∧ ((x.val.toUInt8 * 16 + y.val.toUInt8) &&& 15 = y.val.toUInt8) := by decide +kernel
theorem pair_back {x y : UInt8} (hx : x < 16) (hy : y < 16) : (x * 16 + y) >>> 4 = x ∧ (x * 16 + y) &&& 15 = y := by
  have h := pair_all ⟨x.toNat, UInt8.lt_iff_toNat_lt.1 hx⟩ ⟨y.toNat, UInt8.lt_iff_toNat_lt.1 hy⟩
  simpa using h
theorem hexL_cons (c : UInt8) (l : List UInt8) : hexL (c :: l) = digB (c >>> 4) :: digB (c &&& 15) :: hexL l := rfl
theorem unhex_hex : ∀ l : List UInt8, unhexL (hexL l) = some l
  | [] => rfl
  | c :: l => by
    obtain ⟨h1, h2, h3⟩ := nib_dig c
    rw [hexL_cons, unhexL_cons2, h1, h2, unhex_hex l]
    show some _ = _
    rw [h3]
theorem hex_unhex : ∀ (t b : List UInt8), unhexL t = some b → hexL b = t
  | [], b, h => by cases h; rfl
  | [_], b, h => by cases h
  | a :: c :: r, b, h => by
    rw [unhexL_cons2] at h
    cases hx : nibB a with
    | none => rw [hx] at h; cases h
    | some x =>
      cases hy : nibB c with
      | none => rw [hx, hy] at h; cases h
      | some y =>
        rw [hx, hy] at h
        cases hr : unhexL r with
        | none => rw [hr] at h; cases h
        | some b' =>
          rw [hr] at h
          have hb : (x * 16 + y) :: b' = b := by simpa using h
          subst hb
          obtain ⟨d1, l1⟩ := dig_nib hx
          obtain ⟨d2, l2⟩ := dig_nib hy
          obtain ⟨p1, p2⟩ := pair_back l1 l2
          rw [hexL_cons, p1, p2, d1, d2, hex_unhex r b' hr]

theorem strBack (a : ByteArray) : (⟨a.data.toList.toArray⟩ : ByteArray) = a := by cases a; simp

set_option maxRecDepth 100000 in
set_option maxHeartbeats 2000000 in
theorem HexBack_walk (a0 a1 : ByteArray) (z0 : a0.size ≤ 140737488351232) (z1 : a1.size ≤ 140737488351232) (w : World) :
    Calls Tryd.prog 4 #[.string a0, .string a1] w fun e w' => e = .returned (.bool true) ∧ Below w.heap.size w w' := by
  go_enter Tryd.func4, Tryd.ntmps4
  go_wp2_with fail
  refine (coded_any w).mono ?_
  rintro e u1 ⟨rfl, hf1⟩
  by_cases hlen : 400 < a0.size + a1.size
  · have hlen' : (400 : Int) < (a0.size : Int) + (a1.size : Int) := by omega
    go_wp2
    go_ret
    exact ⟨rfl, hf1.none_below⟩
  · have hlen' : ¬ (400 : Int) < (a0.size : Int) + (a1.size : Int) := by omega
    go_wp2_with fail
    refine (Hex_any a0 u1 (by omega)).mono ?_
    rintro e u2 ⟨rfl, hf2⟩
    have hhl : (⟨(hexL a0.data.toList).toArray⟩ : ByteArray).size < 4398046511104 := by
      show (hexL a0.data.toList).toArray.size < _
      have : a0.data.toList.length = a0.size := rfl
      simp [hexL_len]; omega
    go_wp2_with fail
    refine (Unhex_any _ u2 hhl).mono ?_
    intro e u3 hp
    obtain ⟨rfl, hf3⟩ := hp.ok (show unhexL (hexL a0.data.toList) = some _ from unhex_hex _)
    rw [strBack]
    clear hp
    go_wp2_with fail
    refine (Unhex_any a1 u3 (by omega)).mono ?_
    intro e u4 hp
    have HF3 := (hf1.trans hf2).trans hf3
    cases hu : unhexL a1.data.toList with
    | none =>
      obtain ⟨rfl, hf4⟩ := hp.bad hu
      clear hp
      go_wp2
      go_ret
      exact ⟨rfl, (HF3.trans hf4).none_below⟩
    | some b =>
      obtain ⟨rfl, hf4⟩ := hp.ok hu
      have hb := hex_unhex _ _ hu
      have hbl := congrArg List.length hb
      rw [hexL_len] at hbl
      have ha1 : a1.data.toList.length = a1.size := rfl
      have hbz : (⟨b.toArray⟩ : ByteArray).size < 4398046511104 := by show b.toArray.size < _; simp; omega
      have HB := Lib.hid hb
      clear hp hb hbl
      go_wp2_with fail
      refine (Hex_any ⟨b.toArray⟩ u4 hbz).mono ?_
      rintro e u5 ⟨rfl, hf5⟩
      rw [HB.out, strBack]
      go_wp2
      go_ret
      exact ⟨rfl, ((HF3.trans hf4).trans hf5).none_below⟩

set_option maxRecDepth 100000 in
set_option maxHeartbeats 2000000 in
theorem HexPieces_walk (a0 a1 : ByteArray) (z0 : a0.size ≤ 140737488351232) (z1 : a1.size ≤ 140737488351232) (w : World) :
    Calls Tryd.prog 5 #[.string a0, .string a1] w fun e w' => e = .returned (.bool true) ∧ Below w.heap.size w w' := by
  go_enter Tryd.func5, Tryd.ntmps5
  go_wp2_with fail
  refine (coded_any w).mono ?_
  rintro e u1 ⟨rfl, hf1⟩
  by_cases hlen : 400 < a0.size + a1.size
  · have hlen' : (400 : Int) < (a0.size : Int) + (a1.size : Int) := by omega
    go_wp2
    go_ret
    exact ⟨rfl, hf1.none_below⟩
  · have hlen' : ¬ (400 : Int) < (a0.size : Int) + (a1.size : Int) := by omega
    go_wp2_with fail
    have hd01 : (a0 ++ a1).data.toList = a0.data.toList ++ a1.data.toList := by simp [ByteArray.data_append]
    have hz01 : (a0 ++ a1).size < 4398046511104 := by rw [ByteArray.size_append]; omega
    refine (Hex_any (a0 ++ a1) u1 hz01).mono ?_
    rintro e u2 ⟨rfl, hf2⟩
    rw [hd01, hexL_app]
    clear hd01 hz01
    go_wp2_with fail
    refine (Hex_any a0 u2 (by omega)).mono ?_
    rintro e u3 ⟨rfl, hf3⟩
    go_wp2_with fail
    refine (Hex_any a1 u3 (by omega)).mono ?_
    rintro e u4 ⟨rfl, hf4⟩
    have HF4 := ((hf1.trans hf2).trans hf3).trans hf4
    have hl0 : (hexL a0.data.toList).length = 2 * a0.size := hexL_len _
    have hl1 : (hexL a1.data.toList).length = 2 * a1.size := hexL_len _
    generalize hexL a1.data.toList = y at hl1
    have hsum : ¬ (9223372036854775807 : Int) < ((hexL a0.data.toList).length : Int) + (y.length : Int) := by omega
    have hbq : (hexL a0.data.toList ++ y == ((⟨(hexL a0.data.toList).toArray⟩ : ByteArray) ++ ⟨y.toArray⟩).toList) = true := by
      rw [Go.ByteArray.toList_eq, beq_iff_eq]; simp [ByteArray.data_append]
    go_wp2_with fail
    refine (Hex_any a0 u4 (by omega)).mono ?_
    rintro e u5 ⟨rfl, hf5⟩
    go_wp2
    trace_state
    go_ret
    exact ⟨rfl, (HF4.trans hf5).none_below⟩
end Go.Proofs.YteffnckhapmpgaaDoor
