/- strings.IndexAny and ContainsAny at ASCII cutsets, whatever the string. -/
import Derived.Test.YtkoobhgedoanhaaGreatDoorShelf
import Derived.Test.YtkoobhgedoanhaaGreatDoorBase
import Derived.Shelf.Strings.IndexAnyAll
import Derived.Laws.RangeAny
import Derived.Deep.LoopGhost
import Derived.WalkSpells
import Derived.WalkLawsBesides
import Derived.WalkMore
import Derived.Lib.OthersKept
import Derived.Lib.TrimU
import Derived.Laws.Cover4
import Derived.Outline
import Derived.Lib.Hide
namespace Go.Proofs.YtkoobhgedoanhaaGreatDoor
open Go.RowKit

/-- of a sequence of UTF-8 that begins with a byte above 127: the rune is one, above 127; all its bytes are above 127 -/
theorem dec_valid (s : ByteArray) (p : Nat) (h : p < s.size) (ha : 128 ≤ (s[p]'h).toNat) : Utf8.valid ((Utf8.decode s p).1 : Int) = true ∧ 128 ≤ (Utf8.decode s p).1 := by
  have hn : ¬ (s[p]'h).toNat < 128 := by omega
  have hb : ∀ k, (s.get! (p + k)).toNat < 256 := fun k => (s.get! (p + k)).toNat_lt
  have h0 := hb 0; have h1 := hb 1; have h2 := hb 2; have h3 := hb 3
  refine ⟨?_, (decode_high s p h ha).1⟩
  simp only [Utf8.decode, get_at s p h, hn, if_false]
  repeat' split
  all_goals simp_all [Utf8.runeError, Utf8.valid]
  all_goals omega
theorem get_in (s : ByteArray) (p : Nat) (h : p < s.size) : s.get! p = s[p]'h := by
  simp [ByteArray.get!, getElem!_pos, h]
  rfl
theorem dec_bytes (s : ByteArray) (p : Nat) (h : p < s.size) (ha : 128 ≤ (s[p]'h).toNat) : p + (Utf8.decode s p).2 ≤ s.size ∧ ∀ j (hj : j < s.size), p ≤ j → j < p + (Utf8.decode s p).2 → 128 ≤ (s[j]'hj).toNat := by
  have hn : ¬ (s[p]'h).toNat < 128 := by omega
  have key : ∀ k, (p + k < s.size ∧ (s.get! (p + k)).toNat / 64 = 2) → ∃ hj : p + k < s.size, 128 ≤ (s[p + k]'hj).toNat := by
    intro k hk
    refine ⟨hk.1, ?_⟩
    have := hk.2
    rw [get_in s (p + k) hk.1] at this
    omega
  have gen : ∀ n, 1 ≤ n → n ≤ 4 → (∀ k, 0 < k → k < n → p + k < s.size ∧ (s.get! (p + k)).toNat / 64 = 2) → p + n ≤ s.size ∧ ∀ j (hj : j < s.size), p ≤ j → j < p + n → 128 ≤ (s[j]'hj).toNat := by
    intro n h1 h4 hk
    constructor
    · by_cases e : n = 1
      · omega
      · have := (hk (n - 1) (by omega) (by omega)).1; omega
    · intro j hj hpj hjn
      by_cases e : j = p
      · subst e; exact ha
      · obtain ⟨k, rfl⟩ : ∃ k, j = p + k := ⟨j - p, by omega⟩
        obtain ⟨_, hh⟩ := key k (hk k (by omega) (by omega))
        exact hh
  have w1 := gen 1 (by omega) (by omega) (fun k h1 h2 => absurd h1 (by omega))
  simp only [Utf8.decode, get_at s p h, hn, if_false]
  repeat' split
  all_goals try exact w1
  · rename_i hc _
    simp only [Bool.and_eq_true, beq_iff_eq, decide_eq_true_eq] at hc
    exact gen 2 (by omega) (by omega) (fun k h1 h2 => by obtain rfl : k = 1 := by omega
                                                         exact hc.2)
  · rename_i hc _
    simp only [Bool.and_eq_true, beq_iff_eq, decide_eq_true_eq] at hc
    exact gen 3 (by omega) (by omega) (fun k h1 h2 => by
      rcases (show k = 1 ∨ k = 2 by omega) with rfl | rfl
      · exact hc.1.2
      · exact hc.2)
  · rename_i hc _
    simp only [Bool.and_eq_true, beq_iff_eq, decide_eq_true_eq] at hc
    exact gen 4 (by omega) (by omega) (fun k h1 h2 => by
      rcases (show k = 1 ∨ k = 2 ∨ k = 3 by omega) with rfl | rfl | rfl
      · exact hc.1.1.2
      · exact hc.1.2
      · exact hc.2)
/-- the last byte of a rune above 127 is above 127 -/
theorem enc_last (r : Int) (h : 128 ≤ r) : ∃ (n : Nat) (c : UInt8), (Utf8.encode r).size = n + 2 ∧ (Utf8.encode r).data.toList[n + 1]? = some c ∧ 128 ≤ c.toNat := by
  have hc : ∀ m : Nat, 128 ≤ (UInt8.ofNat (128 + m % 64)).toNat := fun m => by rw [UInt8.toNat_ofNat']; omega
  have hcc : 128 ≤ (if Utf8.valid r then r.toNat else Utf8.runeError) := by
    split
    · omega
    · decide
  unfold Utf8.encode
  generalize (if Utf8.valid r then r.toNat else Utf8.runeError) = c at hcc
  simp only
  rw [if_neg (by omega)]
  split
  · exact ⟨0, _, rfl, rfl, hc c⟩
  · split
    · exact ⟨1, _, rfl, rfl, hc c⟩
    · exact ⟨2, _, rfl, rfl, hc c⟩
theorem valid_lib (r : Int) : Lib.validRune r = Utf8.valid r := by
  rw [Bool.eq_iff_iff]
  simp [Lib.validRune, Utf8.valid]
  omega
theorem indexByte_none {l : List UInt8} {c : UInt8} (hl : ∀ b ∈ l, b.toNat < 128) (hc : 128 ≤ c.toNat) : Lib.indexByte l c = -1 := by
  induction l with
  | nil => rfl
  | cons a t ih =>
    have ha := hl a (by simp)
    have hne : (a == c) = false := by rw [beq_eq_false_iff_ne]; intro e; subst e; omega
    rw [Lib.indexByte, hne, ih (fun b hb => hl b (List.mem_cons_of_mem _ hb))]
    rfl


theorem IndexByte_no (s : ByteArray) (k : Nat) (c : UInt8) (w : World) (hl : ∀ b ∈ s.data.toList, b.toNat < 128) (hc : 128 ≤ c.toNat) :
    Calls Tryz.prog 135 #[.string (s.extract k s.size), .int .u8 c.toNat] w fun e w' => e = .returned (.int .i64 (-1)) ∧ w = w' := by
  refine (Tryz.strings_IndexByte _ _ w).mono ?_
  rintro e w' ⟨rfl, rfl⟩
  refine ⟨?_, rfl⟩
  rw [show ((c.toNat : Int)).toNat.toUInt8 = c by simp, indexByte_none _ hc]
  intro b hb
  rw [Lib.extract_data] at hb
  exact hl b (List.mem_of_mem_drop (List.mem_of_mem_take hb))
set_option maxHeartbeats 4000000 in
set_option maxRecDepth 1000000 in
theorem IndexRune_high (s : ByteArray) (r : Int) (w : World) (hs : s.size < 4294967281) (hv : Utf8.valid r = true) (h0 : 128 ≤ r) (hne : r ≠ 65533) (hl : ∀ b ∈ s.data.toList, b.toNat < 128) :
    Calls Tryz.prog 93 #[.string s, .int .i32 r] w fun e w' => e = .returned (.int .i64 (-1)) ∧ Fr noB w w' := by
  obtain ⟨n, c, hn, hc, hc1⟩ := enc_last r h0
  have hr1 : ¬ (r < 128) := by omega
  have hr2 : (r == 65533) = false := by simpa using hne
  have HV := Lib.hid hv
  have HL := Lib.hid hl
  have hn2 : n ≤ 2 := by have := encode_size_le r; omega
  have HC := Lib.hid hc
  clear hv hc hl
  obtain ⟨q, hq⟩ : ∃ q, Utf8.encode r = q := ⟨_, rfl⟩
  rw [hq] at hn HC
  rcases (show n = 0 ∨ n = 1 ∨ n = 2 by omega) with rfl | rfl | rfl
  · have hq1 : q[1]'(by omega) = c := by
      have h := byte_at q 1 (by omega)
      rw [HC.out] at h
      exact (Option.some.inj h).symm
    have HQ := Lib.hid hq1
    clear hq1
    go_enter Tryz.func93, Tryz.ntmps93
    go_wp2_with fail
    refine (Tryz.utf8_ValidRune r w).mono ?_
    rintro e w' ⟨rfl, rfl⟩
    rw [valid_lib, HV.out]
    by_cases hlen : 1 < s.size
    · have hd : decide (1 < s.size) = true := by simpa using hlen
      have hle : 2 ≤ s.size := hlen
      have hle2 : (2 : Int) ≤ (s.size : Int) := by omega
      have hw1 : IntKind.i64.wrap (1 + 1) = 2 := by decide
      have hcq1 : 128 ≤ (q[1]'(by omega)).toNat := by rw [HQ.out]; exact hc1
      have hne2 : ((s[1].toNat : Int) != ((q[1]'(by omega)).toNat : Int)) = true := by
        have h := HL.out s[1] (List.mem_of_getElem? (byte_at s 1 hlen))
        rw [HQ.out, bne_iff_ne]
        omega
      go_wp2_with fail
      go_step3
      go_wp2_with fail
      refine wp_loop_rounds 1 ?_
      rw [rounds_succ]
      go_wp2_with fail
      go_step3
      go_wp2_with fail
      go_quiet (fail)
      go_wp2_with fail
      go_quiet ((go_at_call 135; exact quiet_eq2 (IndexByte_no s 2 _ _ HL.out hcq1)))
      go_wp2_with fail
      go_simp
      go_ret
      exact ⟨rfl, by repeat (first | exact Fr.refl _ _ | apply Fr.drewN)⟩
    · have hd : decide (1 < s.size) = false := by simpa using hlen
      go_wp2_with fail
      go_step3
      go_wp2_with fail
      refine wp_loop_rounds 1 ?_
      rw [rounds_succ]
      go_wp2_with fail
      go_simp
      go_ret
      exact ⟨rfl, Fr.refl _ _⟩
  · have hq1 : q[2]'(by omega) = c := by
      have h := byte_at q 2 (by omega)
      rw [HC.out] at h
      exact (Option.some.inj h).symm
    have HQ := Lib.hid hq1
    clear hq1
    go_enter Tryz.func93, Tryz.ntmps93
    go_wp2_with fail
    refine (Tryz.utf8_ValidRune r w).mono ?_
    rintro e w' ⟨rfl, rfl⟩
    rw [valid_lib, HV.out]
    by_cases hlen : 2 < s.size
    · have hd : decide (2 < s.size) = true := by simpa using hlen
      have hle : 3 ≤ s.size := hlen
      have hle2 : (3 : Int) ≤ (s.size : Int) := by omega
      have hw2 : IntKind.i64.wrap (2 + 1) = 3 := by decide
      have hcq2 : 128 ≤ (q[2]'(by omega)).toNat := by rw [HQ.out]; exact hc1
      have hne2 : ((s[2].toNat : Int) != ((q[2]'(by omega)).toNat : Int)) = true := by
        have h := HL.out s[2] (List.mem_of_getElem? (byte_at s 2 hlen))
        rw [HQ.out, bne_iff_ne]
        omega
      go_wp2_with fail
      go_step3
      go_wp2_with fail
      refine wp_loop_rounds 1 ?_
      rw [rounds_succ]
      go_wp2_with fail
      go_step3
      go_wp2_with fail
      go_quiet (fail)
      go_wp2_with fail
      go_quiet ((go_at_call 135; exact quiet_eq2 (IndexByte_no s 3 _ _ HL.out hcq2)))
      go_wp2_with fail
      go_simp
      go_ret
      exact ⟨rfl, by repeat (first | exact Fr.refl _ _ | apply Fr.drewN)⟩
    · have hd : decide (2 < s.size) = false := by simpa using hlen
      go_wp2_with fail
      go_step3
      go_wp2_with fail
      refine wp_loop_rounds 1 ?_
      rw [rounds_succ]
      go_wp2_with fail
      go_simp
      go_ret
      exact ⟨rfl, Fr.refl _ _⟩
  · have hq1 : q[3]'(by omega) = c := by
      have h := byte_at q 3 (by omega)
      rw [HC.out] at h
      exact (Option.some.inj h).symm
    have HQ := Lib.hid hq1
    clear hq1
    go_enter Tryz.func93, Tryz.ntmps93
    go_wp2_with fail
    refine (Tryz.utf8_ValidRune r w).mono ?_
    rintro e w' ⟨rfl, rfl⟩
    rw [valid_lib, HV.out]
    by_cases hlen : 3 < s.size
    · have hd : decide (3 < s.size) = true := by simpa using hlen
      have hle : 4 ≤ s.size := hlen
      have hle2 : (4 : Int) ≤ (s.size : Int) := by omega
      have hw3 : IntKind.i64.wrap (3 + 1) = 4 := by decide
      have hcq3 : 128 ≤ (q[3]'(by omega)).toNat := by rw [HQ.out]; exact hc1
      have hne2 : ((s[3].toNat : Int) != ((q[3]'(by omega)).toNat : Int)) = true := by
        have h := HL.out s[3] (List.mem_of_getElem? (byte_at s 3 hlen))
        rw [HQ.out, bne_iff_ne]
        omega
      go_wp2_with fail
      go_step3
      go_wp2_with fail
      refine wp_loop_rounds 1 ?_
      rw [rounds_succ]
      go_wp2_with fail
      go_step3
      go_wp2_with fail
      go_quiet (fail)
      go_wp2_with fail
      go_quiet ((go_at_call 135; exact quiet_eq2 (IndexByte_no s 4 _ _ HL.out hcq3)))
      go_wp2_with fail
      go_simp
      go_ret
      exact ⟨rfl, by repeat (first | exact Fr.refl _ _ | apply Fr.drewN)⟩
    · have hd : decide (3 < s.size) = false := by simpa using hlen
      go_wp2_with fail
      go_step3
      go_wp2_with fail
      refine wp_loop_rounds 1 ?_
      rw [rounds_succ]
      go_wp2_with fail
      go_simp
      go_ret
      exact ⟨rfl, Fr.refl _ _⟩

theorem World.iter_fr (w : World) (s : ByteArray) (p : Nat) : Fr noB w (w.iter s p) := (Fr.refl _ _).alloc _
set_option maxHeartbeats 4000000 in
set_option maxRecDepth 1000000 in
theorem IndexRune_err (s : ByteArray) (w : World) (hl : ∀ b ∈ s.data.toList, b.toNat < 128) :
    Calls Tryz.prog 93 #[.string s, .int .i32 65533] w fun e w' => e = .returned (.int .i64 (-1)) ∧ Fr noB w w' := by
  have HL := Lib.hid hl
  clear hl
  go_enter Tryz.func93, Tryz.ntmps93
  go_wp2_with fail
  go_loopg [] s.size (fun g wx => ∃ i : Nat, i + g = s.size ∧ wx = w.iter s i)
  case atStart => exact ⟨0, by omega, rfl⟩
  case round =>
    obtain ⟨i, hig, rfl⟩ := hrel
    cases gk with
    | zero =>
      obtain rfl : i = s.size := by omega
      have hnx := run_next_end (P := Tryz.prog) w s s.size
      go_wp2
      go_ret
      exact ⟨rfl, World.iter_fr _ _ _⟩
    | succ g =>
      have hi : i < s.size := by omega
      obtain ⟨x, hx⟩ : ∃ x : UInt8, s[i]'hi = x := ⟨_, rfl⟩
      have hx128 : x.toNat < 128 := by rw [← hx]; exact HL.out _ (List.mem_of_getElem? (byte_at s i hi))
      have hnx := fun ty => run_next_ascii (P := Tryz.prog) w s i ty hi (by rw [hx]; exact hx128)
      rw [hx] at hnx
      clear hx
      have hne : ((x.toNat : Int) == 65533) = false := by rw [beq_eq_false_iff_ne]; omega
      go_wp2
      go_roundg g
      case measure => omega
      case rel => exact ⟨i + 1, by omega, rfl⟩

/-- IndexRune at what the range over a string has read: bytes above 127 stand in no ASCII set -/
theorem IndexRune_dec (chars s : ByteArray) (p : Nat) (w : World) (hcs : chars.size < 4294967281) (hl : ∀ b ∈ chars.data.toList, b.toNat < 128) (h : p < s.size) (ha : 128 ≤ (s[p]'h).toNat) :
    Calls Tryz.prog 93 #[.string chars, .int .i32 ((Utf8.decode s p).1 : Nat)] w fun e w' => e = .returned (.int .i64 (-1)) ∧ Fr noB w w' := by
  obtain ⟨hv, h1⟩ := dec_valid s p h ha
  by_cases he : (Utf8.decode s p).1 = 65533
  · rw [he]; exact IndexRune_err chars w hl
  · exact IndexRune_high chars _ w hcs hv (by omega) (by omega) hl
theorem NoAny.more {s : ByteArray} {chars : List UInt8} {i j : Nat} (h : Lib.NoAny s.data.toList chars i) (hl : ∀ b ∈ chars, b.toNat < 128) (hb : ∀ k (hk : k < s.size), i ≤ k → k < j → 128 ≤ (s[k]'hk).toNat) : Lib.NoAny s.data.toList chars j := by
  intro k b hk hb'
  by_cases e : k < i
  · exact h k b e hb'
  · have hks : k < s.size := by
      have := (List.getElem?_eq_some_iff.1 hb').1
      simpa using this
    have h2 := hb k hks (by omega) hk
    rw [byte_at s k hks] at hb'
    obtain rfl := Option.some.inj hb'
    rw [Bool.eq_false_iff]
    intro hc
    have := hl _ (List.contains_iff_mem.1 hc)
    omega
set_option maxHeartbeats 8000000 in
set_option maxRecDepth 1000000 in
theorem IndexAny_few (s chars : ByteArray) (w : World) (h2 : 2 ≤ chars.size) (h8 : s.size ≤ 8) (hcs : chars.size < 4294967281) (hl : ∀ b ∈ chars.data.toList, b.toNat < 128) :
    Calls Tryz.prog 36 #[.string s, .string chars] w fun e w' => e = .returned (.int .i64 (Lib.indexAny s.data.toList chars.data.toList)) ∧ Fr noB w w' := by
  have HL := Lib.hid hl
  clear hl
  have hemp : chars.toList.isEmpty = false := by
    rw [Lib.toList_data]
    cases h : chars.data.toList with
    | nil => have := Lib.size_eq chars; rw [h, List.length_nil] at this; omega
    | cons _ _ => rfl
  have hn1 : ((chars.size : Int) == 1) = false := beq_eq_false_iff_ne.2 (by omega)
  have h8z : decide ((8 : Int) < (s.size : Int)) = false := decide_eq_false (by omega)
  go_enter Tryz.func36, Tryz.ntmps36
  go_wp2_with fail
  refine (Tryz.strings_shouldUseASCIISet _ _).mono ?_
  rintro e w' ⟨rfl, rfl⟩
  rw [h8z]
  go_wp2_with fail
  go_loopg [9, 10] s.size (fun g _ _ wx => ∃ i : Nat, i ≤ s.size ∧ s.size ≤ i + g ∧ wx.heap[w'.heap.size]? = some (.stringIter s i) ∧ Fr noB w' wx ∧ Lib.NoAny s.data.toList chars.data.toList i)
  case atStart => exact ⟨0, by omega, by omega, World.iter_heap _ _ _, World.iter_fr _ _ _, Lib.NoAny.zero _ _⟩
  case round =>
    obtain ⟨i, his, hig, hit, hfr, hno⟩ := hrel
    have HN := Lib.hid hno
    clear hno
    by_cases hi : i < s.size
    · obtain ⟨g, rfl⟩ : ∃ g, gk = g + 1 := ⟨gk - 1, by omega⟩
      have hlt : w'.heap.size < wr.heap.size := lt_of_some hit
      by_cases hx : (s[i]'hi).toNat < 128
      · obtain ⟨x, hxe⟩ : ∃ x : UInt8, s[i]'hi = x := ⟨_, rfl⟩
        have hxl := Lib.hid (show s.data.toList[i]? = some x by rw [← hxe]; exact byte_at s i hi)
        have hnx := fun ty => Lib.run_next_ascii_at (P := Tryz.prog) wr w'.heap.size s i ty hit hi hx
        rw [hxe] at hnx hx
        clear hxe
        have hit2 := Lib.iterAt_heap wr w'.heap.size s i (i + 1) hit
        have hfr2 : Fr noB w' (wr.iterAt w'.heap.size s (i + 1)) := Fr.of_below (Lib.below_iterAt hfr.none_below (Nat.le_refl _) _ _)
        have hcon := Lib.contains_iff_indexByte chars.data.toList x
        cases hin : chars.data.toList.contains x
        · rw [hin] at hcon
          have hlt : ¬ ((0 : Int) ≤ Lib.indexByte chars.data.toList x) := of_decide_eq_false hcon.symm
          have hno2 := Lib.hid (HN.out.succ hxl.out hin)
          clear hcon
          go_wp2_with fail
          refine (Tryz.strings_IndexRune_ascii chars _ _ (by omega) (by omega)).mono ?_
          rintro e w2 ⟨rfl, rfl⟩
          rw [show ((x.toNat : Int)).toNat.toUInt8 = x by simp]
          go_wp2_with fail
          go_roundg g
          case measure => omega
          case rel => exact ⟨i + 1, by omega, by omega, hit2, hfr2, hno2.out⟩
        · rw [hin] at hcon
          have hge : (0 : Int) ≤ Lib.indexByte chars.data.toList x := of_decide_eq_true hcon.symm
          have hres := Lib.hid (Lib.indexAny_hit HN.out hxl.out hin)
          clear hcon
          go_wp2_with fail
          refine (Tryz.strings_IndexRune_ascii chars _ _ (by omega) (by omega)).mono ?_
          rintro e w2 ⟨rfl, rfl⟩
          rw [show ((x.toNat : Int)).toNat.toUInt8 = x by simp]
          go_wp2_with fail
          go_ret
          exact ⟨by rw [hres.out]; rfl, hfr2⟩
      · have hx' : 128 ≤ (s[i]'hi).toNat := by omega
        have hd := dec_bytes s i hi hx'
        have hno2 := Lib.hid (NoAny.more HN.out HL.out hd.2)
        have hd1 := hd.1
        have hd2 := Lib.width_pos s i
        have hnx := fun ty => Lib.run_next_any_at (P := Tryz.prog) wr w'.heap.size s i ty hit hi
        have hcl := fun W => IndexRune_dec chars s i W hcs HL.out hi hx'
        have HCL := Lib.hid hcl
        clear hcl hd
        generalize (Utf8.decode s i).2 = k at *
        have hit2 := Lib.iterAt_heap wr w'.heap.size s i (i + k) hit
        have hfr2 : Fr noB w' (wr.iterAt w'.heap.size s (i + k)) := Fr.of_below (Lib.below_iterAt hfr.none_below (Nat.le_refl _) _ _)
        go_wp2_with fail
        refine (HCL.out _).mono ?_
        rintro e w2 ⟨rfl, hf3⟩
        have hf4 := hfr2.trans hf3
        have hit3 := hf3.keep hit2 (fun h => h)
        go_wp2_with fail
        go_roundg g
        case measure => omega
        case rel => exact ⟨i + k, by omega, by omega, hit3, hf4, hno2.out⟩
    · have hnx := fun ty => Lib.run_next_end_at (P := Tryz.prog) wr w'.heap.size s i ty hit hi
      go_wp2
      go_ret
      exact ⟨by rw [Lib.indexAny_none (by rw [show s.data.toList.length = i from by simp; omega]; exact HN.out)]; rfl, hfr⟩

theorem asciiInfo : (Tryz.prog.info? 139).map (fun i => (i.zero, i.size)) = some (some (.agg (Array.replicate 256 (.bool false))), 256) := by kernel_rfl
/-- strings.IndexAny, the set ASCII -/
theorem IndexAny_any (s chars : ByteArray) (w : World) (hs : s.size < 4294967281) (hcs : chars.size < 4294967281) (hl : ∀ b ∈ chars.data.toList, b.toNat < 128) :
    Calls Tryz.prog 36 #[.string s, .string chars] w fun e w' => e = .returned (.int .i64 (Lib.indexAny s.data.toList chars.data.toList)) ∧ Fr noB w w' := by
  have hl' : ∀ (j : Nat) b, chars.data.toList[j]? = some b → b.toNat < 128 := fun j b h => hl b (List.mem_of_getElem? h)
  by_cases h0 : chars.size = 0
  · refine (Tryz.strings_IndexAny_none s chars w h0).mono ?_
    rintro e w' ⟨h, rfl⟩; exact ⟨h, Fr.refl _ _⟩
  · by_cases h1 : chars.size = 1
    · refine (Tryz.strings_IndexAny_one s chars w h1 hl').mono ?_
      rintro e w' ⟨h, rfl⟩; exact ⟨h, Fr.refl _ _⟩
    · by_cases h8 : s.size ≤ 8
      · exact IndexAny_few s chars w (by omega) h8 hcs hl
      · refine (Tryz.strings_IndexAny_long (zero_of_info asciiInfo).1 s chars w (by omega) (by omega) hs hcs hl').mono ?_
        rintro e w' ⟨h, rfl⟩; exact ⟨h, ((Fr.refl _ _).alloc _).alloc _⟩
end Go.Proofs.YtkoobhgedoanhaaGreatDoor
