/- Package sum: pad, word. -/
import Derived.Test.YtghimbpihmehoaaDoorLower
import Derived.Test.YtghimbpihmehoaaDoorTrim
import Derived.Laws.MakeOwn
namespace Go.Proofs.YtghimbpihmehoaaDoor
open Go.RowKit

/-- four bytes as a word -/
def wordI (a b c d : UInt8) : Int := bits .or .u32 (bits .or .u32 (bits .or .u32 ((a.toNat : Int) % 4294967296) ((b.toNat : Int) % 4294967296 * 256 % 4294967296)) ((c.toNat : Int) % 4294967296 * 65536 % 4294967296)) ((d.toNat : Int) % 4294967296 * 16777216 % 4294967296)
def getB (l : List UInt8) (i : Nat) : UInt8 := l.getD i 0
def wordL (little : Bool) (l : List UInt8) : Int := if little then wordI (getB l 0) (getB l 1) (getB l 2) (getB l 3) else wordI (getB l 3) (getB l 2) (getB l 1) (getB l 0)
theorem getB_at (s : ByteArray) (i : Nat) (h : i < s.size) : getB s.data.toList i = s[i] := by
  unfold getB
  rw [List.getD_eq_getElem?_getD, byte_at s i h]; rfl
theorem ret_u32 {a b : Int} (h : a = b) : Ending.returned (.int .u32 a) = .returned (.int .u32 b) := by rw [h]
set_option maxHeartbeats 2000000 in
theorem word_any (s : ByteArray) (little : Bool) (w : World) (hs : 4 ≤ s.size) (hs2 : s.size < 17592186044416) :
    Calls Tryd.prog 68 #[.string s, .bool little] w fun e w' => e = .returned (.int .u32 (wordL little s.data.toList)) ∧ ∃ n, w' = w.drewN n := by
  have h0 : 0 < s.size := by omega
  have h1 : 1 < s.size := by omega
  have h2 : 2 < s.size := by omega
  have h3 : 3 < s.size := by omega
  have HWF := Lib.hid (show wordL false s.data.toList = bits .or .u32 (bits .or .u32 (bits .or .u32 ((s[3].toNat : Int) % 4294967296) ((s[2].toNat : Int) % 4294967296 * 256 % 4294967296)) ((s[1].toNat : Int) % 4294967296 * 65536 % 4294967296)) ((s[0].toNat : Int) % 4294967296 * 16777216 % 4294967296) by rw [← getB_at s 0 h0, ← getB_at s 1 h1, ← getB_at s 2 h2, ← getB_at s 3 h3]; unfold wordL wordI; rw [if_neg (by decide)])
  have HWT := Lib.hid (show wordL true s.data.toList = bits .or .u32 (bits .or .u32 (bits .or .u32 ((s[0].toNat : Int) % 4294967296) ((s[1].toNat : Int) % 4294967296 * 256 % 4294967296)) ((s[2].toNat : Int) % 4294967296 * 65536 % 4294967296)) ((s[3].toNat : Int) % 4294967296 * 16777216 % 4294967296) by rw [← getB_at s 0 h0, ← getB_at s 1 h1, ← getB_at s 2 h2, ← getB_at s 3 h3]; unfold wordL wordI; rw [if_pos rfl])
  cases little
  · go_enter Tryd.func68, Tryd.ntmps68
    go_wp2
    have i0 : (0 : Int) < (s.size : Int) := by omega
    have i1 : (1 : Int) < (s.size : Int) := by omega
    have i2 : (2 : Int) < (s.size : Int) := by omega
    have i3 : (3 : Int) < (s.size : Int) := by omega
    go_quiet (fail)
    go_wp2
    go_ret
    exact ⟨ret_u32 HWF.out.symm, _, rfl⟩
  · go_enter Tryd.func68, Tryd.ntmps68
    go_wp2
    have i0 : (0 : Int) < (s.size : Int) := by omega
    have i1 : (1 : Int) < (s.size : Int) := by omega
    have i2 : (2 : Int) < (s.size : Int) := by omega
    have i3 : (3 : Int) < (s.size : Int) := by omega
    go_quiet (fail)
    go_wp2
    go_ret
    exact ⟨ret_u32 HWT.out.symm, _, rfl⟩

/-- a word turned by n bits -/
def rotI (x : Int) (n : Nat) : Int := bits .or .u32 (x * 2 ^ n % 4294967296) (x / 2 ^ (32 - n))
theorem rot_any (x k : Int) (n : Nat) (w : World) (hk : 0 ≤ k) (hk2 : k < 32) (hb : bits .and .u64 k 31 = (n : Int)) (hn : n < 32) :
    Calls Tryd.prog 69 #[.int .u32 x, .int .i64 k] w fun e w' => e = .returned (.int .u32 (rotI x n)) ∧ w = w' := by
  go_enter Tryd.func69, Tryd.ntmps69
  go_wp2
  go_ret
  exact ⟨rfl, rfl⟩
theorem rot_neg (x k : Int) (n : Nat) (w : World) (hk : -32 < k) (hk2 : k < 0) (hb : bits .and .u64 (k + 18446744073709551616) 31 = (n : Int)) (hn : n < 32) :
    Calls Tryd.prog 69 #[.int .u32 x, .int .i64 k] w fun e w' => e = .returned (.int .u32 (rotI x n)) ∧ w = w' := by
  have hw : IntKind.u64.wrap k = k + 18446744073709551616 := by
    have e : IntKind.u64.wrap k = k % 18446744073709551616 := by simp [IntKind.wrap, IntKind.signed, IntKind.bits]
    rw [e]; omega
  go_enter Tryd.func69, Tryd.ntmps69
  go_wp2
  go_ret
  exact ⟨rfl, rfl⟩

/-- the eight bytes behind a text: how many bits it has -/
def lenByte (little : Bool) (n i : Nat) : UInt8 := if little then (n / 2 ^ (8 * i) % 256).toUInt8 else (n / 2 ^ (56 - 8 * i) % 256).toUInt8
def lenL (little : Bool) (n : Nat) : List UInt8 := (List.range 8).map (lenByte little n)
def padL (little : Bool) (l : List UInt8) : List UInt8 := l ++ [128] ++ List.replicate ((55 - (l.length : Int) % 64 + 64) % 64).toNat 0 ++ lenL little (l.length * 8)
theorem make8 (w : World) : (Instr.makeSlice 83 (.int .i64 8) (.int .i64 8)).run Tryd.prog w = .ok (.slice (some ⟨w.heap.size, 0, none⟩) 8 8) (w.alloc (.cells (u8s (List.replicate 8 0)).toArray 5)) := by
  obtain ⟨i0, hi, hz0, hz1, hz2⟩ := info_parts info_u8
  have h := run_makeSlice w 83 5 i0 (.int .u8 0) Tryd.underlying83 hi hz0 .i64 .i64 8 8 (by decide) (by decide) (by rw [hz1]; decide) (by rw [hz2]; decide) (by decide)
  rw [hz1] at h
  have e : madeCells (Value.int .u8 0).cells (Int.toNat 8 * 1) = (u8s (List.replicate 8 0)).toArray := by kernel_rfl
  rw [e] at h
  exact h
/-- block g is a row of bytes, no more -/
def RowZ (w : World) (g : Nat) (l : List UInt8) : Prop := w.heap[g]? = some (.cells (u8s l).toArray 5 (0, 0))
theorem RowZ.cell {w : World} {g : Nat} {l : List UInt8} (h : RowZ w g l) {j : Nat} {c : UInt8} (hj : l[j]? = some c) : w.cell? ⟨g, j, none⟩ = some (.int .u8 (c.toNat : Int)) := by
  obtain ⟨hl, he⟩ := List.getElem?_eq_some_iff.1 hj
  unfold RowZ at h
  simp only [World.cell?, h]
  simp [u8s, hl, he]
theorem RowZ.free {w : World} {g : Nat} {l : List UInt8} (h : RowZ w g l) (j : Nat) : w.frozen? ⟨g, j, none⟩ = false := by
  unfold RowZ at h
  simp [World.frozen?, h]
theorem RowZ.set {w : World} {g : Nat} {l : List UInt8} (h : RowZ w g l) (j : Nat) (c : UInt8) : RowZ (w.setCell ⟨g, j, none⟩ (.int .u8 (c.toNat : Int))) g (l.set j c) := by
  unfold RowZ at h ⊢
  simp only [World.setCell, Array.getElem?_modify, h]
  simp [u8s, List.map_set]
theorem RowZ.text {w : World} {g : Nat} {l : List UInt8} (h : RowZ w g l) (n c : Nat) (hn : n = l.length) :
    (convert 83 9 (.slice (some ⟨g, 0, none⟩) n c)).run Tryd.prog w = .ok (.string ⟨l.toArray⟩) w := by
  subst hn
  refine run_convert_bytes_back (P := Tryd.prog) w 83 9 5 ⟨g, 0, none⟩ c l Tryd.underlying83 Tryd.underlying5 Tryd.underlying9 ?_
  intro j hj
  have ea : (Addr.add ⟨g, 0, none⟩ j) = ⟨g, j, none⟩ := by unfold Addr.add; split <;> simp_all
  rw [ea]
  exact h.cell (List.getElem?_eq_getElem hj)
theorem lenL_len (little : Bool) (n : Nat) : (lenL little n).length = 8 := by simp [lenL]
def lenTo (little : Bool) (n k : Nat) : List UInt8 := (lenL little n).take k ++ List.replicate (8 - k) 0
theorem lenTo_succ (little : Bool) (n k : Nat) (hk : k < 8) : lenTo little n (k + 1) = (lenTo little n k).set k (lenByte little n k) := by
  have hg : (lenL little n)[k]? = some (lenByte little n k) := by simp [lenL, hk]
  unfold lenTo
  rw [List.take_add_one, hg]
  have e : List.replicate (8 - k) (0 : UInt8) = 0 :: List.replicate (8 - (k + 1)) 0 := by
    rw [show 8 - k = (8 - (k + 1)) + 1 from by omega, List.replicate_succ]
  rw [e, List.set_append, if_neg (by rw [List.length_take, lenL_len]; omega)]
  rw [show k - ((lenL little n).take k).length = 0 from by rw [List.length_take, lenL_len]; omega]
  simp
theorem lenTo_all (little : Bool) (n : Nat) : lenTo little n 8 = lenL little n := by
  unfold lenTo
  rw [List.take_of_length_le (by rw [lenL_len]; omega)]; simp
theorem zeros0_len : ∀ (k : Nat), (Lib.repeatL [0] k).length = k
  | 0 => rfl
  | k + 1 => by
    show (([0] : List UInt8) ++ Lib.repeatL [0] k).length = k + 1
    rw [List.length_append, zeros0_len k]; simp; omega
theorem zeros0_eq : ∀ (k : Nat), Lib.repeatL [0] k = List.replicate k (0 : UInt8)
  | 0 => rfl
  | k + 1 => by
    show ([0] : List UInt8) ++ Lib.repeatL [0] k = _
    rw [zeros0_eq k, List.replicate_succ]; rfl
theorem byte_cast (n e : Nat) : (((n / 2 ^ e % 256).toUInt8.toNat : Nat) : Int) = (n : Int) / 2 ^ e % 256 := by
  rw [show (n / 2 ^ e % 256).toUInt8.toNat = n / 2 ^ e % 256 from by simp [Nat.toUInt8]]
  rw [Int.natCast_emod, Int.natCast_ediv, Int.natCast_pow]; rfl
def PadRel (little : Bool) (n g : Nat) (w : World) (i : Value) (wr : World) : Prop := ∃ k : Nat, k ≤ 8 ∧ i = .int .i64 k ∧ RowZ wr g (lenTo little n k) ∧ Fr noB w wr
set_option maxRecDepth 100000 in
set_option maxHeartbeats 2000000 in
theorem pad_any (s : ByteArray) (little : Bool) (w : World) (hs : s.size < 17592186044416) :
    Calls Tryd.prog 67 #[.string s, .bool little] w fun e w' => e = .returned (.string ⟨(padL little s.data.toList).toArray⟩) ∧ Fr noB w w' := by
  obtain ⟨q, hq⟩ : ∃ q : Nat, (55 - (s.size : Int)) % 64 = (q : Int) := ⟨((55 - (s.size : Int)) % 64).toNat, by omega⟩
  have hq64 : q < 64 := by omega
  have hpad := Lib.hid (show padL little s.data.toList = s.data.toList ++ [128] ++ Lib.repeatL [0] q ++ lenL little (s.size * 8) by
    unfold padL
    rw [zeros0_eq, show s.data.toList.length = s.size from by simp, show ((55 - (s.size : Int) % 64 + 64) % 64).toNat = q from by omega])
  have hrl := zeros0_len q
  have hmk := fun W => make8 W
  go_enter Tryd.func67, Tryd.ntmps67
  go_wp2_with fail
  refine (Tryd.strings_Repeat ⟨#[0]⟩ q w (by omega) (by show 1 * q ≤ _; omega)).mono ?_
  rintro e w1 ⟨rfl, hb1⟩
  have hsum : ¬ 9223372036854775807 < s.size + 1 + (Lib.repeatL [0] q).length := by omega
  have hf1 := Fr.of_below hb1
  have HL := Lib.hid hrl
  clear hrl hb1
  have hrow0 : RowZ (w1.alloc (.cells (u8s (List.replicate 8 0)).toArray 5)) w1.heap.size (lenTo little (s.size * 8) 0) := by
    unfold RowZ
    rw [new_block]; rfl
  have HR0 := Lib.hid hrow0
  have hs1 := hf1.size
  clear hrow0
  cases little
  · go_wp2
    clear hmk
    go_loopw [26] (PadRel false (s.size * 8) w1.heap.size w) (fun i _ => 8 - (intOf i).toNat)
    case atStart => exact ⟨0, by omega, rfl, HR0.out, hf1.alloc _⟩
    case round =>
      obtain ⟨k, hk, rfl, hrow, hfr⟩ := hrel
      by_cases hks : k < 8
      · have hlen : (lenTo false (s.size * 8) k).length = 8 := by unfold lenTo; rw [List.length_append, List.length_take, lenL_len, List.length_replicate]; omega
        have hc := hrow.cell (List.getElem?_eq_getElem (show k < (lenTo false (s.size * 8) k).length by omega))
        have hf := hrow.free k
        have hki : (k : Int) < 8 := by omega
        have hset := Lib.hid (hrow.set k (lenByte false (s.size * 8) k))
        have hsc := Lib.hid (lenTo_succ false (s.size * 8) k hks)
        have hlb := Lib.hid (show ((lenByte false (s.size * 8) k).toNat : Int) = (s.size : Int) * 8 / 2 ^ (56 - 8 * k) % 256 from (byte_cast (s.size * 8) (56 - 8 * k)).trans (by rw [Int.natCast_mul]; rfl))
        go_wp2
        go_roundw
        case rel => exact ⟨k + 1, by omega, by go_num, by rw [hsc.out]; have h := hset.out; rw [hlb.out] at h; exact h, hfr.setNew (p := ⟨w1.heap.size, k, none⟩) hs1 _⟩
        case measure => simp [intOf]; omega
      · have hk8 : k = 8 := by omega
        subst hk8
        rw [lenTo_all] at hrow
        have htext := hrow.text 8 8 (by rw [lenL_len])
        have hlz : (lenL false (s.size * 8)).length = 8 := lenL_len _ _
        have hsum2 : ¬ 9223372036854775807 < s.size + 1 + (Lib.repeatL [0] q).length + (lenL false (s.size * 8)).length := by have := HL.out; omega
        have hfin := Lib.hid (show (s ++ ⟨#[128]⟩ ++ ⟨(Lib.repeatL [0] q).toArray⟩ ++ ⟨(lenL false (s.size * 8)).toArray⟩ : ByteArray) = ⟨(padL false s.data.toList).toArray⟩ from by
          apply Go.WideShapes.bytes_inj
          rw [hpad.out]
          simp [ByteArray.data_append])
        go_wp2
        go_ret
        exact ⟨by rw [← hfin.out]; rfl, hfr⟩
  · go_wp2
    clear hmk
    go_loopw [26] (PadRel true (s.size * 8) w1.heap.size w) (fun i _ => 8 - (intOf i).toNat)
    case atStart => exact ⟨0, by omega, rfl, HR0.out, hf1.alloc _⟩
    case round =>
      obtain ⟨k, hk, rfl, hrow, hfr⟩ := hrel
      by_cases hks : k < 8
      · have hlen : (lenTo true (s.size * 8) k).length = 8 := by unfold lenTo; rw [List.length_append, List.length_take, lenL_len, List.length_replicate]; omega
        have hc := hrow.cell (List.getElem?_eq_getElem (show k < (lenTo true (s.size * 8) k).length by omega))
        have hf := hrow.free k
        have hki : (k : Int) < 8 := by omega
        have hset := Lib.hid (hrow.set k (lenByte true (s.size * 8) k))
        have hsc := Lib.hid (lenTo_succ true (s.size * 8) k hks)
        have hlb := Lib.hid (show ((lenByte true (s.size * 8) k).toNat : Int) = (s.size : Int) * 8 / 2 ^ (8 * k) % 256 from (byte_cast (s.size * 8) (8 * k)).trans (by rw [Int.natCast_mul]; rfl))
        go_wp2
        go_roundw
        case rel => exact ⟨k + 1, by omega, by go_num, by rw [hsc.out]; have h := hset.out; rw [hlb.out] at h; exact h, hfr.setNew (p := ⟨w1.heap.size, k, none⟩) hs1 _⟩
        case measure => simp [intOf]; omega
      · have hk8 : k = 8 := by omega
        subst hk8
        rw [lenTo_all] at hrow
        have htext := hrow.text 8 8 (by rw [lenL_len])
        have hlz : (lenL true (s.size * 8)).length = 8 := lenL_len _ _
        have hsum2 : ¬ 9223372036854775807 < s.size + 1 + (Lib.repeatL [0] q).length + (lenL true (s.size * 8)).length := by have := HL.out; omega
        have hfin := Lib.hid (show (s ++ ⟨#[128]⟩ ++ ⟨(Lib.repeatL [0] q).toArray⟩ ++ ⟨(lenL true (s.size * 8)).toArray⟩ : ByteArray) = ⟨(padL true s.data.toList).toArray⟩ from by
          apply Go.WideShapes.bytes_inj
          rw [hpad.out]
          simp [ByteArray.data_append])
        go_wp2
        go_ret
        exact ⟨by rw [← hfin.out]; rfl, hfr⟩
end Go.Proofs.YtghimbpihmehoaaDoor
