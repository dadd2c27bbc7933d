/- Digits and bytes: what is written is read. -/
import Derived.Test.YtghimbpihmehoaaDoorCoded
namespace Go.Proofs.YtghimbpihmehoaaDoor
open Go.RowKit

theorem nib_dig_all : ∀ n : Fin 256, nibB (digB (n.val.toUInt8 >>> 4)) = some (n.val.toUInt8 >>> 4) ∧ nibB (digB (n.val.toUInt8 &&& 15)) = some (n.val.toUInt8 &&& 15) ∧ (n.val.toUInt8 >>> 4) * 16 + (n.val.toUInt8 &&& 15) = n.val.toUInt8 := by decide +kernel
theorem nib_dig (c : UInt8) : nibB (digB (c >>> 4)) = some (c >>> 4) ∧ nibB (digB (c &&& 15)) = some (c &&& 15) ∧ (c >>> 4) * 16 + (c &&& 15) = c := by
  have h := nib_dig_all ⟨c.toNat, c.toNat_lt⟩
  simpa using h
theorem dig_nib_all : ∀ n : Fin 256, (match nibB n.val.toUInt8 with | some x => digB x == n.val.toUInt8 && decide (x < 16) | none => true) = true := by decide +kernel
theorem dig_nib {c x : UInt8} (h : nibB c = some x) : digB x = c ∧ x < 16 := by
  have h1 := dig_nib_all ⟨c.toNat, c.toNat_lt⟩
  have hc : (c.toNat).toUInt8 = c := by simp
  rw [show (⟨c.toNat, c.toNat_lt⟩ : Fin 256).val.toUInt8 = c from hc, h] at h1
  simpa using h1
theorem pair_all : ∀ x y : Fin 16, ((x.val.toUInt8 * 16 + y.val.toUInt8) >>> 4 = x.val.toUInt8) ∧ ((x.val.toUInt8 * 16 + y.val.toUInt8) &&& 15 = y.val.toUInt8) := by decide +kernel
theorem pair_back {x y : UInt8} (hx : x < 16) (hy : y < 16) : (x * 16 + y) >>> 4 = x ∧ (x * 16 + y) &&& 15 = y := by
  have h := pair_all ⟨x.toNat, UInt8.lt_iff_toNat_lt.1 hx⟩ ⟨y.toNat, UInt8.lt_iff_toNat_lt.1 hy⟩
  simpa using h
theorem hexL_cons (c : UInt8) (l : List UInt8) : hexL (c :: l) = digB (c >>> 4) :: digB (c &&& 15) :: hexL l := rfl
theorem unhex_hex : ∀ l : List UInt8, unhexL (hexL l) = some l
  | [] => rfl
  | c :: l => by
    obtain ⟨h1, h2, h3⟩ := nib_dig c
    rw [hexL_cons, unhexL_cons2, h1, h2, unhex_hex l]
    show some _ = _
    rw [h3]
theorem hex_unhex : ∀ (t b : List UInt8), unhexL t = some b → hexL b = t
  | [], b, h => by cases h; rfl
  | [_], b, h => by cases h
  | a :: c :: r, b, h => by
    rw [unhexL_cons2] at h
    cases hx : nibB a with
    | none => rw [hx] at h; cases h
    | some x =>
      cases hy : nibB c with
      | none => rw [hx, hy] at h; cases h
      | some y =>
        rw [hx, hy] at h
        cases hr : unhexL r with
        | none => rw [hr] at h; cases h
        | some b' =>
          rw [hr] at h
          have hb : (x * 16 + y) :: b' = b := by simpa using h
          subst hb
          obtain ⟨d1, l1⟩ := dig_nib hx
          obtain ⟨d2, l2⟩ := dig_nib hy
          obtain ⟨p1, p2⟩ := pair_back l1 l2
          rw [hexL_cons, p1, p2, d1, d2, hex_unhex r b' hr]

theorem strBack (a : ByteArray) : (⟨a.data.toList.toArray⟩ : ByteArray) = a := by cases a; simp
end Go.Proofs.YtghimbpihmehoaaDoor
