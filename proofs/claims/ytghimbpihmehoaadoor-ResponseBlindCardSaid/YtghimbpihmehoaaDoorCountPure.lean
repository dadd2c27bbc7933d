/- Eight digits of a number: what they are, and how they stand. -/
import Derived.Test.YtghimbpihmehoaaDoorHexPure
namespace Go.Proofs.YtghimbpihmehoaaDoor
open Go.RowKit

/-- the k lowest digits, base 16 -/
def hexFix : Nat → Nat → List UInt8
  | 0, _ => []
  | k + 1, n => hexFix k (n / 16) ++ [digB (n % 16).toUInt8]
theorem hexFix_len : ∀ k n, (hexFix k n).length = k
  | 0, _ => rfl
  | k + 1, n => by rw [hexFix, List.length_append, hexFix_len k]; rfl
theorem hexFix_cons : ∀ j n, digB (n / 16 ^ j % 16).toUInt8 :: hexFix j n = hexFix (j + 1) n
  | 0, n => by simp [hexFix]
  | j + 1, n => by
    have h := hexFix_cons j (n / 16)
    rw [Nat.div_div_eq_div_mul, show 16 * 16 ^ j = 16 ^ (j + 1) from by rw [Nat.pow_succ]; omega] at h
    show _ :: (hexFix j (n / 16) ++ [_]) = hexFix (j + 1) (n / 16) ++ [_]
    rw [← h]; rfl
theorem hexFix_zero : ∀ d, hexFix d 0 = List.replicate d 48
  | 0 => rfl
  | d + 1 => by
    rw [hexFix, show (0 : Nat) / 16 = 0 from rfl, hexFix_zero d, List.replicate_succ']
    rfl
theorem hexFix_pad : ∀ k d n, n < 16 ^ k → List.replicate d 48 ++ hexFix k n = hexFix (k + d) n
  | 0, d, n, h => by
    obtain rfl : n = 0 := by simpa using h
    rw [Nat.zero_add, hexFix_zero d]; exact List.append_nil _
  | k + 1, d, n, h => by
    have h2 : n / 16 < 16 ^ k := by rw [Nat.pow_succ] at h; omega
    rw [show k + 1 + d = (k + d) + 1 from by omega, hexFix, hexFix, ← hexFix_pad k d (n / 16) h2, List.append_assoc]
theorem digB_lt_all : ∀ x y : Fin 16, (digB x.val.toUInt8 < digB y.val.toUInt8 ↔ x.val < y.val) ∧ (digB x.val.toUInt8 = digB y.val.toUInt8 ↔ x.val = y.val) := by decide +kernel
theorem digB_lt {x y : Nat} (hx : x < 16) (hy : y < 16) : (digB x.toUInt8 < digB y.toUInt8 ↔ x < y) ∧ (digB x.toUInt8 = digB y.toUInt8 ↔ x = y) := digB_lt_all ⟨x, hx⟩ ⟨y, hy⟩
theorem app_inj {a b : List UInt8} {x y : UInt8} : a ++ [x] = b ++ [y] ↔ a = b ∧ x = y := by
  constructor
  · intro h
    have := List.append_inj' h rfl
    exact ⟨this.1, by simpa using this.2⟩
  · rintro ⟨rfl, rfl⟩; rfl
theorem hexFix_inj : ∀ k n m, n < 16 ^ k → m < 16 ^ k → (hexFix k n = hexFix k m ↔ n = m)
  | 0, n, m, hn, hm => by
    obtain rfl : n = 0 := by simpa using hn
    obtain rfl : m = 0 := by simpa using hm
    simp
  | k + 1, n, m, hn, hm => by
    rw [Nat.pow_succ] at hn hm
    rw [hexFix, hexFix, app_inj, hexFix_inj k _ _ (by omega) (by omega), (digB_lt (Nat.mod_lt _ (by decide)) (Nat.mod_lt _ (by decide))).2]
    omega
theorem less_app : ∀ (a b : List UInt8) (x y : UInt8), a.length = b.length → (Op.bytesLess (a ++ [x]) (b ++ [y]) = true ↔ Op.bytesLess a b = true ∨ a = b ∧ x < y)
  | [], [], x, y, _ => by simp [Op.bytesLess]
  | [], _ :: _, _, _, h => by simp at h
  | _ :: _, [], _, _, h => by simp at h
  | c :: a, d :: b, x, y, h => by
    have ih := less_app a b x y (by simpa using h)
    simp only [List.cons_append, Op.bytesLess, Bool.or_eq_true, decide_eq_true_eq, Bool.and_eq_true, beq_iff_eq, ih, List.cons.injEq]
    constructor
    · rintro (h | ⟨h, h2 | ⟨h2, h3⟩⟩)
      · exact .inl (.inl h)
      · exact .inl (.inr ⟨h, h2⟩)
      · exact .inr ⟨⟨h, h2⟩, h3⟩
    · rintro ((h | ⟨h, h2⟩) | ⟨⟨h, h2⟩, h3⟩)
      · exact .inl h
      · exact .inr ⟨h, .inl h2⟩
      · exact .inr ⟨h, .inr ⟨h2, h3⟩⟩
theorem hexFix_less : ∀ k n m, n < 16 ^ k → m < 16 ^ k → (Op.bytesLess (hexFix k n) (hexFix k m) = true ↔ n < m)
  | 0, n, m, hn, hm => by
    obtain rfl : n = 0 := by simpa using hn
    obtain rfl : m = 0 := by simpa using hm
    simp [hexFix, Op.bytesLess]
  | k + 1, n, m, hn, hm => by
    rw [Nat.pow_succ] at hn hm
    rw [hexFix, hexFix, less_app _ _ _ _ (by rw [hexFix_len, hexFix_len]), hexFix_less k _ _ (by omega) (by omega), hexFix_inj k _ _ (by omega) (by omega), (digB_lt (Nat.mod_lt _ (by decide)) (Nat.mod_lt _ (by decide))).1]
    omega
/-- proof.Count -/
def countL (n : Nat) : List UInt8 := hexFix 8 n
end Go.Proofs.YtghimbpihmehoaaDoor
