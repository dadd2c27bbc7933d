/- Base64: what is written is read, and just so. -/
import Derived.Test.YtghimbpihmehoaaDoorCoded
namespace Go.Proofs.YtghimbpihmehoaaDoor
open Go.RowKit

theorem let_back_all : ∀ n : Fin 64, letN (letB n.val) = some n.val ∧ letB n.val ≠ 61 := by decide +kernel
theorem let_six (v i : Nat) : letN (sixB v i) = some (v / 2 ^ (18 - 6 * i) % 64) := (let_back_all ⟨_, Nat.mod_lt _ (by decide)⟩).1
theorem six_ne (v i : Nat) : sixB v i ≠ 61 := (let_back_all ⟨_, Nat.mod_lt _ (by decide)⟩).2
theorem val3_lt (a b c : UInt8) : val3 a b c < 16777216 := by
  have := a.toNat_lt; have := b.toNat_lt; have := c.toNat_lt
  unfold val3; omega
theorem outQ3 (a b c : UInt8) : outQ (val3 a b c) 3 = [a, b, c] := by
  have ha := a.toNat_lt; have hb := b.toNat_lt; have hc := c.toNat_lt
  show [(val3 a b c / 65536).toUInt8, (val3 a b c / 256).toUInt8, (val3 a b c / 1).toUInt8] = _
  have h1 : (val3 a b c / 65536).toUInt8 = a := by apply UInt8.toNat_inj.1; unfold val3; simp; omega
  have h2 : (val3 a b c / 256).toUInt8 = b := by apply UInt8.toNat_inj.1; unfold val3; simp; omega
  have h3 : (val3 a b c / 1).toUInt8 = c := by apply UInt8.toNat_inj.1; unfold val3; simp <;> omega
  rw [h1, h2, h3]
theorem outQ2 (a b : UInt8) : outQ (val3 a b 0) 2 = [a, b] := by
  have h := outQ3 a b 0
  have : outQ (val3 a b 0) 2 = (outQ (val3 a b 0) 3).take 2 := rfl
  rw [this, h]; rfl
theorem outQ1 (a : UInt8) : outQ (val3 a 0 0) 1 = [a] := by
  have h := outQ3 a 0 0
  have : outQ (val3 a 0 0) 1 = (outQ (val3 a 0 0) 3).take 1 := rfl
  rw [this, h]; rfl
/-- the letters without what fills up -/
def noPad : List UInt8 → List UInt8
  | [] => []
  | [a] => [sixB (val3 a 0 0) 0, sixB (val3 a 0 0) 1]
  | [a, b] => [sixB (val3 a b 0) 0, sixB (val3 a b 0) 1, sixB (val3 a b 0) 2]
  | a :: b :: c :: r => sixB (val3 a b c) 0 :: sixB (val3 a b c) 1 :: sixB (val3 a b c) 2 :: sixB (val3 a b c) 3 :: noPad r
theorem digits4 (v : Nat) (hv : v < 16777216) : (((0 * 64 + v / 2 ^ (18 - 6 * 0) % 64) * 64 + v / 2 ^ (18 - 6 * 1) % 64) * 64 + v / 2 ^ (18 - 6 * 2) % 64) * 64 + v / 2 ^ (18 - 6 * 3) % 64 = v := by
  show (((0 * 64 + v / 262144 % 64) * 64 + v / 4096 % 64) * 64 + v / 64 % 64) * 64 + v / 1 % 64 = v
  omega
theorem digits3 (a b : Nat) (ha : a < 256) (hb : b < 256) : (((0 * 64 + (a * 65536 + b * 256 + 0) / 2 ^ (18 - 6 * 0) % 64) * 64 + (a * 65536 + b * 256 + 0) / 2 ^ (18 - 6 * 1) % 64) * 64 + (a * 65536 + b * 256 + 0) / 2 ^ (18 - 6 * 2) % 64) * 64 + 0 = a * 65536 + b * 256 + 0 := by
  show (((0 * 64 + (a * 65536 + b * 256 + 0) / 262144 % 64) * 64 + (a * 65536 + b * 256 + 0) / 4096 % 64) * 64 + (a * 65536 + b * 256 + 0) / 64 % 64) * 64 + 0 = _
  omega
theorem digits2 (a : Nat) (ha : a < 256) : (((0 * 64 + (a * 65536 + 0 * 256 + 0) / 2 ^ (18 - 6 * 0) % 64) * 64 + (a * 65536 + 0 * 256 + 0) / 2 ^ (18 - 6 * 1) % 64) * 64 + 0) * 64 + 0 = a * 65536 + 0 * 256 + 0 := by
  show (((0 * 64 + (a * 65536 + 0 * 256 + 0) / 262144 % 64) * 64 + (a * 65536 + 0 * 256 + 0) / 4096 % 64) * 64 + 0) * 64 + 0 = _
  omega
theorem quad4 (a b c : UInt8) (r : List UInt8) : quad (sixB (val3 a b c) 0 :: sixB (val3 a b c) 1 :: sixB (val3 a b c) 2 :: sixB (val3 a b c) 3 :: r) = some [a, b, c] := by
  have hv := val3_lt a b c
  have ha : allLet (sixB (val3 a b c) 0 :: sixB (val3 a b c) 1 :: sixB (val3 a b c) 2 :: sixB (val3 a b c) 3 :: r) 4 = true := by simp [allLet, let_six]
  rw [quad_some ha]
  have hm : min 4 (sixB (val3 a b c) 0 :: sixB (val3 a b c) 1 :: sixB (val3 a b c) 2 :: sixB (val3 a b c) 3 :: r).length - 1 = 3 := by simp only [List.length_cons]; omega
  have hq : qv (sixB (val3 a b c) 0 :: sixB (val3 a b c) 1 :: sixB (val3 a b c) 2 :: sixB (val3 a b c) 3 :: r) 4 = val3 a b c := by
    simp only [qv, List.getElem?_cons_zero, List.getElem?_cons_succ, let_six, Option.getD_some]
    exact digits4 _ hv
  rw [hm, hq, outQ3]
theorem quad3 (a b : UInt8) : quad [sixB (val3 a b 0) 0, sixB (val3 a b 0) 1, sixB (val3 a b 0) 2] = some [a, b] := by
  have ha : allLet [sixB (val3 a b 0) 0, sixB (val3 a b 0) 1, sixB (val3 a b 0) 2] 4 = true := by simp [allLet, let_six]
  rw [quad_some ha]
  have hq : qv [sixB (val3 a b 0) 0, sixB (val3 a b 0) 1, sixB (val3 a b 0) 2] 4 = val3 a b 0 := by
    simp only [qv, List.getElem?_cons_zero, List.getElem?_cons_succ, let_six, Option.getD_some, List.getElem?_nil]
    exact digits3 _ _ a.toNat_lt b.toNat_lt
  rw [hq]
  exact congrArg some (outQ2 a b)
theorem quad2 (a : UInt8) : quad [sixB (val3 a 0 0) 0, sixB (val3 a 0 0) 1] = some [a] := by
  have ha : allLet [sixB (val3 a 0 0) 0, sixB (val3 a 0 0) 1] 4 = true := by simp [allLet, let_six]
  rw [quad_some ha]
  have hq : qv [sixB (val3 a 0 0) 0, sixB (val3 a 0 0) 1] 4 = val3 a 0 0 := by
    simp only [qv, List.getElem?_cons_zero, List.getElem?_cons_succ, let_six, Option.getD_some, List.getElem?_nil]
    exact digits2 _ a.toNat_lt
  rw [hq]
  exact congrArg some (outQ1 a)
theorem b64_len : ∀ l : List UInt8, (b64L l).length = (l.length + 2) / 3 * 4
  | [] => rfl
  | [_] => by simp [b64L]
  | [_, _] => by simp [b64L]
  | a :: b :: c :: r => by
    have ih := b64_len r
    simp only [b64L, List.length_cons] at ih ⊢
    omega
theorem unbGo_noPad : ∀ l : List UInt8, unbGo ((l.length + 2) / 3) (noPad l) = some l
  | [] => rfl
  | [a] => by
    have hl : ([a].length + 2) / 3 = 1 := by simp
    rw [hl, noPad, unbGo_step (by decide), quad2]; rfl
  | [a, b] => by
    have hl : ([a, b].length + 2) / 3 = 1 := by simp
    rw [hl, noPad, unbGo_step (by decide), quad3]; rfl
  | a :: b :: c :: r => by
    have ih := unbGo_noPad r
    have hl : ((a :: b :: c :: r).length + 2) / 3 = (r.length + 2) / 3 + 1 := by simp only [List.length_cons]; omega
    rw [hl, noPad, unbGo_step (Nat.succ_pos _), quad4]
    show (unbGo ((r.length + 2) / 3) (noPad r)).map _ = _
    rw [ih]; rfl
theorem b64_app : ∀ (l m : List UInt8), l.length % 3 = 0 → b64L (l ++ m) = b64L l ++ b64L m
  | [], m, _ => rfl
  | [_], _, h => by simp at h
  | [_, _], _, h => by simp at h
  | a :: b :: c :: r, m, h => by
    have ih := b64_app r m (by simp only [List.length_cons] at h; omega)
    show _ :: _ :: _ :: _ :: b64L (r ++ m) = _ :: _ :: _ :: _ :: (b64L r ++ b64L m)
    rw [ih]
theorem noPad_pad : ∀ l : List UInt8, ∃ p, b64L l = noPad l ++ List.replicate p 61
  | [] => ⟨0, rfl⟩
  | [_] => ⟨2, rfl⟩
  | [_, _] => ⟨1, rfl⟩
  | a :: b :: c :: r => by
    obtain ⟨p, ih⟩ := noPad_pad r
    exact ⟨p, by rw [b64L, noPad, ih]; rfl⟩
theorem noPad_ne : ∀ l : List UInt8, ∀ b ∈ noPad l, b ≠ 61
  | [], b, h => by cases h
  | [_], b, h => by
    simp only [noPad, List.mem_cons, List.not_mem_nil, or_false] at h
    rcases h with rfl | rfl <;> exact six_ne _ _
  | [_, _], b, h => by
    simp only [noPad, List.mem_cons, List.not_mem_nil, or_false] at h
    rcases h with rfl | rfl | rfl <;> exact six_ne _ _
  | x :: y :: z :: r, b, h => by
    simp only [noPad, List.mem_cons] at h
    rcases h with rfl | rfl | rfl | rfl | h
    · exact six_ne _ _
    · exact six_ne _ _
    · exact six_ne _ _
    · exact six_ne _ _
    · exact noPad_ne r b h
theorem trim_b64 (l : List UInt8) : Lib.trimRightB (b64L l) 61 = noPad l := by
  obtain ⟨p, hp⟩ := noPad_pad l
  rw [Lib.trimRightB_take (b64L l) 61 (noPad l).length (by rw [hp]; simp) ?_ ?_, hp, List.take_left]
  · intro j b hj hb
    rw [hp, List.getElem?_append_right hj, List.getElem?_replicate] at hb
    split at hb
    · cases hb; rfl
    · cases hb
  · intro b h0 hb
    rw [hp, List.getElem?_append_left (by omega)] at hb
    exact noPad_ne l b (List.mem_of_getElem? hb)
theorem unb_b64 (l : List UInt8) : unb64 (b64L l) = some l := by
  have hl := b64_len l
  rw [unb64_some (out := l) (by omega) (by rw [trim_b64, hl, Nat.mul_div_cancel _ (by decide)]; exact unbGo_noPad l), if_pos rfl]
theorem b64_unb {t b : List UInt8} (h : unb64 t = some b) : b64L b = t := by
  unfold unb64 at h
  split at h
  · cases h
  · split at h
    · cases h
    · split at h
      · cases h; assumption
      · cases h
theorem strBack2 (a : ByteArray) : (⟨a.data.toList.toArray⟩ : ByteArray) = a := by cases a; simp
end Go.Proofs.YtghimbpihmehoaaDoor
