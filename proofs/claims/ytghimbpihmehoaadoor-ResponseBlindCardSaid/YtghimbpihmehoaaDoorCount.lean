/- Package proof: Count: eight digits. -/
import Derived.Test.YtghimbpihmehoaaDoorCountPure
import Derived.Test.YtghimbpihmehoaaDoorSum1
import Derived.Test.YtghimbpihmehoaaDoorTabs
import Derived.Laws.Bits64b
namespace Go.Proofs.YtghimbpihmehoaaDoor
open Go.RowKit

def dbL : List Int := [0, 1, 56, 2, 57, 49, 28, 3, 61, 58, 42, 50, 38, 29, 17, 4, 62, 47, 59, 36, 45, 43, 51, 22, 53, 39, 33, 30, 24, 18, 12, 5, 63, 55, 48, 27, 60, 41, 37, 16, 46, 35, 44, 21, 52, 32, 23, 11, 54, 26, 40, 15, 34, 20, 31, 10, 25, 14, 19, 9, 13, 8, 7, 6]
theorem DbTab_laid {W : World} {laid : List (String × DataW Unit)} (h : laidMet Tryd.prog laid W) (hm : ("math/bits.deBruijn64tab", Lib.tabData .u8 dbL) ∈ laid ∧ True) : TabAt W 11 .u8 dbL :=
  tabAt_of (tabIs_laid h hm.1 (g := 11) (by kernel_rfl) (by kernel_rfl) Tryd.underlying195 Tryd.underlying5 (by kernel_rfl) (by kernel_rfl)) (by kernel_rfl) (by decide)
theorem tz_any (w : World) (h : TabAt w 11 .u8 dbL) :
    Calls Tryd.prog 157 #[.int .u64 16] w fun e w' => e = .returned (.int .i64 4) ∧ w' = w := by
  have hc : w.cell? ⟨11, 15, none⟩ = some (.int .u8 4) := h.2 15 4 rfl
  have hb : bits .and .u64 16 18446744073709551600 = 16 := by decide +kernel
  have hw : IntKind.u64.wrap (-16) = 18446744073709551600 := by decide +kernel
  have hw2 : IntKind.u64.wrap (16 * 285870213051353865) = 4573923408821661840 := by decide +kernel
  have hw3 : IntKind.u64.wrap 4573923408821661840 = 4573923408821661840 := by decide +kernel
  go_enter Tryd.func157, Tryd.ntmps157
  go_wp2
  go_ret
  exact ⟨rfl, rfl⟩
theorem pow2_any (w : World) :
    Calls Tryd.prog 156 #[.int .i64 16] w fun e w' => e = .returned (.bool true) ∧ w' = w := by
  have hb : bits .and .i64 16 15 = 0 := by decide +kernel
  go_enter Tryd.func156, Tryd.ntmps156
  go_wp2
  go_ret
  exact ⟨rfl, rfl⟩
theorem small36 : ∀ n (h : n < 16), (⟨#[48, 49, 50, 51, 52, 53, 54, 55, 56, 57, 97, 98, 99, 100, 101, 102, 103, 104, 105, 106, 107, 108, 109, 110, 111, 112, 113, 114, 115, 116, 117, 118, 119, 120, 121, 122]⟩ : ByteArray)[n]'(Nat.lt_trans h (by decide)) = digB n.toUInt8 := by decide
/-- block g holds 65 bytes -/
def Buf (w : World) (g : Nat) (l : List UInt8) : Prop := w.heap[g]? = some (.cells (u8s l).toArray 162 (0, 0))
theorem Buf.cell {w : World} {g : Nat} {l : List UInt8} (h : Buf w g l) {j : Nat} {c : UInt8} (hj : l[j]? = some c) : w.cell? ⟨g, j, none⟩ = some (.int .u8 (c.toNat : Int)) := by
  obtain ⟨hl, he⟩ := List.getElem?_eq_some_iff.1 hj
  unfold Buf at h
  simp only [World.cell?, h]
  simp [u8s, hl, he]
theorem Buf.free {w : World} {g : Nat} {l : List UInt8} (h : Buf w g l) (j : Nat) : w.frozen? ⟨g, j, none⟩ = false := by
  unfold Buf at h
  simp [World.frozen?, h]
theorem Buf.set {w : World} {g : Nat} {l : List UInt8} (h : Buf w g l) (j : Nat) (c : UInt8) : Buf (w.setCell ⟨g, j, none⟩ (.int .u8 (c.toNat : Int))) g (l.set j c) := by
  unfold Buf at h ⊢
  simp only [World.setCell, Array.getElem?_modify, h]
  simp [u8s, List.map_set]
theorem Buf.text {w : World} {g : Nat} {l m : List UInt8} {k c : Nat} (h : Buf w g (m ++ l)) (hk : m.length = k) :
    (convert 83 9 (.slice (some ⟨g, k, none⟩) l.length c)).run Tryd.prog w = .ok (.string ⟨l.toArray⟩) w := by
  refine run_convert_bytes_back (P := Tryd.prog) w 83 9 5 ⟨g, k, none⟩ c l Tryd.underlying83 Tryd.underlying5 Tryd.underlying9 ?_
  intro j hj
  have ea : (Addr.add ⟨g, k, none⟩ j) = ⟨g, k + j, none⟩ := by unfold Addr.add; split <;> simp_all
  rw [ea]
  refine h.cell ?_
  rw [List.getElem?_append_right (by omega), show k + j - m.length = j from by omega]
  exact List.getElem?_eq_getElem hj
/-- what formatBits has written: j digits behind zeros -/
def bufL (n j : Nat) : List UInt8 := List.replicate (65 - j) 0 ++ hexFix j n
theorem bufL_len (n j : Nat) (h : j ≤ 65) : (bufL n j).length = 65 := by unfold bufL; rw [List.length_append, List.length_replicate, hexFix_len]; omega
theorem bufL_succ (n j : Nat) (h : j < 65) : bufL n (j + 1) = (bufL n j).set (64 - j) (digB (n / 16 ^ j % 16).toUInt8) := by
  unfold bufL
  rw [← hexFix_cons j n, show 65 - j = (65 - (j + 1)) + 1 from by omega, List.replicate_succ']
  rw [List.append_assoc, List.set_append, if_neg (by rw [List.length_replicate]; omega)]
  rw [List.length_replicate, show 64 - j - (65 - (j + 1)) = 0 from by omega]
  rfl
theorem and15n (q : Nat) (hq : q < 18446744073709551616) : bits .and .u64 (q : Int) 15 = ((q % 16 : Nat) : Int) := by
  have h := bits_and_u64_nat q 15 hq (by decide)
  rw [show ((15 : Nat) : Int) = 15 from rfl] at h
  rw [h]
  congr 1
  exact Nat.and_two_pow_sub_one_eq_mod q 4
def FbRel (n g : Nat) (w : World) (u i : Value) (wr : World) : Prop := ∃ j m : Nat, j ≤ 7 ∧ m + 1 + j = 65 ∧ u = .int .u64 ((n / 16 ^ j : Nat) : Int) ∧ i = .int .i64 ((m : Int) + 1) ∧ Buf wr g (bufL n j) ∧ Fr noB w wr
set_option maxRecDepth 100000 in
set_option maxHeartbeats 2000000 in
theorem fbits_any (n : Nat) (w : World) (hn : n < 4294967296) (h : TabAt w 11 .u8 dbL) :
    Calls Tryd.prog 139 #[.slice none 0 0, .int .u64 (n : Int), .int .i64 16, .bool false, .bool false] w fun e w' =>
      (∃ j, j < 8 ∧ n < 16 ^ (j + 1) ∧ e = .returned (.tuple #[.slice none 0 0, .string ⟨(hexFix (j + 1) n).toArray⟩])) ∧ Fr noB w w' := by
  have hfa : Fr noB w (w.alloc (.cells (u8s (List.replicate 65 0)).toArray 162)) := (Fr.refl noB w).alloc _
  have HTZ := Lib.hid (tz_any _ (h.fr hfa))
  have HB0 := Lib.hid (show Buf (w.alloc (.cells (u8s (List.replicate 65 0)).toArray 162)) w.heap.size (bufL n 0) from new_block _ _)
  clear h
  go_enter Tryd.func139, Tryd.ntmps139
  go_wp2_with fail
  refine (pow2_any _).mono ?_
  rintro e w1 ⟨rfl, rfl⟩
  go_wp2_with fail
  refine HTZ.out.mono ?_
  rintro e w2 ⟨rfl, rfl⟩
  go_wp2
  go_loopw [1, 13] (FbRel n w.heap.size w) (fun u _ _ => (intOf u).toNat)
  case atStart => exact ⟨0, 64, by omega, by omega, by simp, rfl, HB0.out, hfa⟩
  case round =>
    obtain ⟨j, m, hj, hm, rfl, rfl, hb, hfr⟩ := hrel
    have hq0 : n / 16 ^ j ≤ n := Nat.div_le_self _ _
    have hsu := Lib.hid (bufL_succ n j (by omega))
    have hdv := Lib.hid (show n / 16 ^ (j + 1) = n / 16 ^ j / 16 by rw [Nat.pow_succ, Nat.div_div_eq_div_mul])
    have h7 := Lib.hid (show 16 ≤ n / 16 ^ j → j < 7 from fun h => by
      rcases Nat.lt_or_ge j 7 with h1 | h1
      · exact h1
      · obtain rfl : j = 7 := by omega
        simp at h; omega)
    have hlast := Lib.hid (show n / 16 ^ j < 16 → n < 16 ^ (j + 1) from fun h => by rw [Nat.pow_succ, Nat.mul_comm]; exact (Nat.div_lt_iff_lt_mul (Nat.pow_pos (by decide))).1 h)
    have hset := Lib.hid (hb.set m (digB (n / 16 ^ j % 16).toUInt8))
    have hbl := bufL_len n j (by omega)
    have hcell := hb.cell (List.getElem?_eq_getElem (show m < (bufL n j).length by omega))
    have hfree := hb.free m
    generalize hq : n / 16 ^ j = q at *
    have h15 := and15n q (by omega)
    have hr : q % 16 < 16 := Nat.mod_lt _ (by decide)
    by_cases h16 : 16 ≤ q
    · have h16i : (16 : Int) ≤ (q : Int) := by omega
      go_wp2
      rw [small36 _ hr]
      exact ⟨⟨j + 1, m - 1, by have := h7.out h16; omega, by have := h7.out h16; omega, by rw [hdv.out]; rfl, by congr 1; omega, by rw [hsu.out, show 64 - j = m from by omega]; exact hset.out, hfr.setNew (p := ⟨w.heap.size, m, none⟩) (Nat.le_refl _) _⟩, by simp [intOf]; omega⟩
    · have h16i : ¬ (16 : Int) ≤ (q : Int) := by omega
      have hm65 : (m : Int) ≤ 65 := by omega
      have hm65n : m ≤ 65 := by omega
      have hq16 : q < 16 := by omega
      have e65 : 65 - m = j + 1 := by omega
      have hx := hset.out
      rw [show q % 16 = q from by omega, show (bufL n j).set m (digB q.toUInt8) = List.replicate m 0 ++ hexFix (j + 1) n from by
        have h := hsu.out
        rw [show q % 16 = q from by omega, show 64 - j = m from by omega] at h
        rw [← h]; unfold bufL; rw [show 65 - (j + 1) = m from by omega]] at hx
      have htext := hx.text (k := m) (c := j + 1) (by simp)
      rw [hexFix_len] at htext
      clear hx hb hset
      go_wp2
      rw [small36 _ hq16, htext]
      go_wp2
      go_ret2
      exact ⟨⟨j, by omega, hlast.out hq16, rfl⟩, hfr.setNew (p := ⟨w.heap.size, m, none⟩) (Nat.le_refl _) _⟩
/-- strconv.FormatInt at base 16 -/
theorem fint_any (n : Nat) (w : World) (hn : n < 4294967296) (h : TabAt w 11 .u8 dbL) :
    Calls Tryd.prog 73 #[.int .i64 (n : Int), .int .i64 16] w fun e w' =>
      (∃ j, j < 8 ∧ n < 16 ^ (j + 1) ∧ e = .returned (.string ⟨(hexFix (j + 1) n).toArray⟩)) ∧ Fr noB w w' := by
  have HF := Lib.hid (fbits_any n w hn h)
  clear h
  have h1 : IntKind.u64.wrap (n : Int) = (n : Int) := by have e : IntKind.u64.wrap (n : Int) = (n : Int) % 18446744073709551616 := by simp [IntKind.wrap, IntKind.signed, IntKind.bits]
                                                         rw [e]; omega
  have hin : Calls Tryd.prog 115 #[.int .i64 (n : Int), .int .i64 16] w fun e w' =>
      (∃ j, j < 8 ∧ n < 16 ^ (j + 1) ∧ e = .returned (.string ⟨(hexFix (j + 1) n).toArray⟩)) ∧ Fr noB w w' := by
    go_enter Tryd.func115, Tryd.ntmps115
    go_wp2_with fail
    refine HF.out.mono ?_
    rintro e w1 ⟨⟨j, hj, hn2, rfl⟩, hf⟩
    have HN := Lib.hid hn2
    clear hn2
    go_wp2
    go_ret
    exact ⟨⟨j, hj, HN.out, rfl⟩, hf⟩
  go_enter Tryd.func73, Tryd.ntmps73
  go_wp2_with fail
  refine hin.mono ?_
  rintro e w1 ⟨⟨j, hj, hn2, rfl⟩, hf⟩
  have HN := Lib.hid hn2
  clear hn2 hin
  go_wp2
  go_ret
  exact ⟨⟨j, hj, HN.out, rfl⟩, hf⟩
theorem repeat48 (k : Nat) : Lib.repeatL [48] k = List.replicate k 48 := by
  induction k with
  | zero => rfl
  | succ k ih => show ([48] : List UInt8) ++ Lib.repeatL [48] k = _; rw [ih, List.replicate_succ]; rfl
set_option maxHeartbeats 2000000 in
theorem Count_any (n : Nat) (w : World) (hn : n < 4294967296) (h : TabAt w 11 .u8 dbL) :
    Calls Tryd.prog 25 #[.int .i64 (n : Int)] w fun e w' => e = .returned (.string ⟨(countL n).toArray⟩) ∧ Fr noB w w' := by
  have HF := Lib.hid (fint_any n w hn h)
  clear h
  go_enter Tryd.func25, Tryd.ntmps25
  go_wp2_with fail
  refine HF.out.mono ?_
  rintro e w1 ⟨⟨j, hj, hn2, rfl⟩, hf⟩
  have HC := Lib.hid (show countL n = Lib.repeatL [48] (7 - j) ++ hexFix (j + 1) n by unfold countL; rw [repeat48, hexFix_pad _ _ _ hn2, show j + 1 + (7 - j) = 8 from by omega])
  have hl := hexFix_len (j + 1) n
  generalize hexFix (j + 1) n = x at *
  clear hn2
  have hmx : max (0 : Int) (8 - ((j : Int) + 1)) = ((7 - j : Nat) : Int) := by omega
  go_wp2_with fail
  refine (Tryd.strings_Repeat ⟨#[48]⟩ (7 - j) w1 (by omega) (by show 1 * (7 - j) ≤ _; omega)).mono ?_
  rintro e w2 ⟨rfl, hb⟩
  have hf2 := Fr.of_below hb
  have hrl : (Lib.repeatL [48] (7 - j)).length = 7 - j := by rw [repeat48]; simp
  have HS := Lib.hid (show (⟨(Lib.repeatL [48] (7 - j)).toArray⟩ ++ ⟨x.toArray⟩ : ByteArray) = ⟨(countL n).toArray⟩ from by
    apply Go.WideShapes.bytes_inj
    rw [HC.out]
    simp [ByteArray.data_append])
  generalize Lib.repeatL [48] (7 - j) = z at *
  have hsum : ¬ 9223372036854775807 < z.length + x.length := by omega
  go_wp2
  go_ret
  exact ⟨by rw [← HS.out]; rfl, hf.trans hf2⟩
end Go.Proofs.YtghimbpihmehoaaDoor
