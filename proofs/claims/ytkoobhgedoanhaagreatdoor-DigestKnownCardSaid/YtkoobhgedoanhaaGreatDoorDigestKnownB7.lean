/- Package sum: text. Package sum: MD5. Package sum: SHA256: the words of a block. Package proof: hash. From the row's condition: the tables of package sum. -/
import Derived.Test.YtkoobhgedoanhaaGreatDoorDigestKnownB6
import Derived.Lib.LaidTab
import Derived.Test.YtkoobhgedoanhaaGreatDoorDigestKnownB4
import Derived.Deep.RegionHeld3
import Derived.StillTailTactics
import Derived.Test.YtkoobhgedoanhaaGreatDoorDigestKnownB3
import Derived.Stop.LaidErr
namespace Go.Proofs.YtkoobhgedoanhaaGreatDoor
open Go.RowKit

def byteW (little : Bool) (x : Int) (i : Nat) : UInt8 := if little then (x / 2 ^ (8 * i) % 256).toNat.toUInt8 else (x / 2 ^ (24 - 8 * i) % 256).toNat.toUInt8
def wordB (little : Bool) (x : Int) : List UInt8 := (List.range 4).map (byteW little x)
def wordsBy (little : Bool) (ws : List Int) : List UInt8 := ws.flatMap (wordB little)
def sumTextL (little : Bool) (ws : List Int) : List UInt8 := hexL (wordsBy little ws)
theorem wordB_len (little : Bool) (x : Int) : (wordB little x).length = 4 := by simp [wordB]
theorem wordB_snoc (little : Bool) (x : Int) (j : Nat) (hj : j < 4) : (wordB little x).take (j + 1) = (wordB little x).take j ++ [byteW little x j] := by
  have hg : (wordB little x)[j]? = some (byteW little x j) := by simp [wordB, hj]
  rw [List.take_add_one, hg]; rfl
theorem wordsBy_len (little : Bool) (ws : List Int) : (wordsBy little ws).length = 4 * ws.length := by
  unfold wordsBy
  induction ws with
  | nil => rfl
  | cons a l ih => rw [List.flatMap_cons, List.length_append, wordB_len, ih, List.length_cons]; omega
theorem wordsBy_snoc (little : Bool) {ws : List Int} {k : Nat} {x : Int} (h : ws[k]? = some x) : wordsBy little (ws.take (k + 1)) = wordsBy little (ws.take k) ++ wordB little x := by
  rw [List.take_add_one, h]; simp [wordsBy]
theorem byte_int (x : Int) (e : Nat) : (((x / 2 ^ e % 256).toNat.toUInt8.toNat : Nat) : Int) = x / 2 ^ e % 256 := by
  have h1 := Int.emod_nonneg (x / 2 ^ e) (show (256 : Int) ≠ 0 by decide)
  have h2 := Int.emod_lt_of_pos (x / 2 ^ e) (show (0 : Int) < 256 by decide)
  generalize x / 2 ^ e % 256 = y at *
  rw [show y.toNat.toUInt8.toNat = y.toNat from by simp [Nat.toUInt8]; omega]
  omega

def TxRel (little : Bool) (ws : List Int) (w : World) (v i : Value) (wr : World) : Prop := ∃ k : Nat, k ≤ ws.length ∧ i = .int .i64 k ∧ Bytes w.heap.size wr v (wordsBy little (ws.take k)) ∧ Fr noB w wr
def TxIn (little : Bool) (pre : List UInt8) (x : Int) (w : World) (v i : Value) (wr : World) : Prop := ∃ j : Nat, j ≤ 4 ∧ i = .int .i64 j ∧ Bytes w.heap.size wr v (pre ++ (wordB little x).take j) ∧ Fr noB w wr
set_option maxRecDepth 100000 in
set_option maxHeartbeats 4000000 in
theorem sumText_any (g : Nat) (ws : List Int) (little : Bool) (w : World) (hl : ws.length ≤ 8) (hg : g < w.heap.size) (hc : ∀ (j : Nat) x, ws[j]? = some x → w.cell? ⟨g, j, none⟩ = some (.int .u32 x)) (hx : ∀ x ∈ ws, 0 ≤ x ∧ x < 4294967296) :
    Calls Tryz.prog 160 #[.slice (some ⟨g, 0, none⟩) ws.length ws.length, .bool little] w fun e w' => e = .returned (.string ⟨(sumTextL little ws).toArray⟩) ∧ Fr noB w w' := by
  have HC := Lib.hid hc
  have HX := Lib.hid hx
  clear hc hx
  cases little
  all_goals
    go_enter Tryz.func160, Tryz.ntmps160
    go_wp2
  · go_loopw [5, 11] (TxRel false ws w) (fun _ i _ => ws.length - (intOf i).toNat)
    case atStart => exact ⟨0, Nat.zero_le _, rfl, Bytes.nil _ _, Fr.refl _ _⟩
    case round =>
      obtain ⟨k, hk, rfl, hown, hfr⟩ := hrel
      by_cases hks : k < ws.length
      · have hat := Lib.hid (List.getElem?_eq_getElem hks)
        obtain ⟨x0, x1⟩ := HX.out _ (List.getElem_mem hks)
        have hcell : wr.cell? ⟨g, k, none⟩ = some (.int .u32 ws[k]) := (hfr.cell (p := ⟨g, k, none⟩) hg (fun h => h)).trans (HC.out k _ hat.out)
        generalize ws[k] = x at *
        have hsn := Lib.hid (wordsBy_snoc false hat.out)
        have hpl := Lib.hid (show (wordsBy false (ws.take k)).length ≤ 32 by rw [wordsBy_len, List.length_take]; omega)
        generalize wordsBy false (ws.take k) = pre at *
        obtain ⟨av, cv, hv⟩ := hown.form
        subst hv
        go_wp2
        clear hcell
        go_loopw [5, 15] (TxIn false pre x w) (fun _ i _ => 4 - (intOf i).toNat)
        case atStart => exact ⟨0, by omega, rfl, by simpa using hown, hfr⟩
        case round =>
          obtain ⟨j, hj, rfl, hown2, hfr2⟩ := hrel
          have hbase : w.heap.size ≤ wr.heap.size := hfr2.size
          obtain ⟨av, cv, hv⟩ := hown2.form
          subst hv
          by_cases hj4 : j < 4
          · have hji : (j : Int) < 4 := by omega
            have hwb := Lib.hid (wordB_snoc false x j hj4)
            have hby : x / 2 ^ (24 - 8 * j) % 256 = ((byteW false x j).toNat : Int) := (byte_int x (24 - 8 * j)).symm
            generalize byteW false x j = c at *
            have hlen2 := Lib.hid (show (pre ++ (wordB false x).take j).length < 100 by rw [List.length_append, List.length_take, wordB_len]; have := hpl.out; omega)
            go_wp2_with (at_builtin; refine wpList_byte rfl _ _ rfl w.heap.size (.slice av _ cv) (pre ++ (wordB false x).take j) rfl (by apply Bytes.alloc; exact hown2) ⟨wr.heap.size, 0, none⟩ 1 c rfl (new_cell _ _ _ _) (by have := hlen2.out; omega) (by simp; omega) ?_; intro v' w2 hown3 hg2)
            go_roundw
            case rel => exact ⟨j + 1, by omega, by go_num, by rw [hwb.out, ← List.append_assoc]; exact hown3, (hfr2.alloc _).grownNew hg2 hown2.block⟩
            case measure => simp [intOf]; omega
          · have hj5 : j = 4 := by omega
            subst hj5
            have hown3 : Bytes w.heap.size wr (.slice av (pre ++ (wordB false x).take 4).length cv) (pre ++ wordB false x) := by
              have h := hown2; rw [List.take_of_length_le (by rw [wordB_len]; omega)] at h ⊢; exact h
            have HO := Lib.hid hown3
            clear hown3 hown2
            go_wp2
            go_roundw
            case rel => exact ⟨k + 1, by omega, by go_num, by rw [hsn.out]; exact HO.out, hfr2⟩
            case measure => simp [intOf]; omega
      · rw [List.take_of_length_le (by omega)] at hown
        have hwl : (wordsBy false ws).length ≤ 32 := by rw [wordsBy_len]; omega
        have hst := Lib.hid (show sumTextL false ws = hexL (wordsBy false ws) from rfl)
        generalize wordsBy false ws = bs at *
        obtain ⟨av, cv, hv⟩ := hown.form
        subst hv
        have htext := hown.text
        go_wp2_with fail
        refine (Hex_any ⟨bs.toArray⟩ wr (by show bs.toArray.size < _; simp; omega)).mono ?_
        rintro e w3 ⟨rfl, hf3⟩
        go_wp2
        go_ret
        rw [hst.out]
        exact ⟨rfl, hfr.trans hf3⟩
  · go_loopw [5, 11] (TxRel true ws w) (fun _ i _ => ws.length - (intOf i).toNat)
    case atStart => exact ⟨0, Nat.zero_le _, rfl, Bytes.nil _ _, Fr.refl _ _⟩
    case round =>
      obtain ⟨k, hk, rfl, hown, hfr⟩ := hrel
      by_cases hks : k < ws.length
      · have hat := Lib.hid (List.getElem?_eq_getElem hks)
        obtain ⟨x0, x1⟩ := HX.out _ (List.getElem_mem hks)
        have hcell : wr.cell? ⟨g, k, none⟩ = some (.int .u32 ws[k]) := (hfr.cell (p := ⟨g, k, none⟩) hg (fun h => h)).trans (HC.out k _ hat.out)
        generalize ws[k] = x at *
        have hsn := Lib.hid (wordsBy_snoc true hat.out)
        have hpl := Lib.hid (show (wordsBy true (ws.take k)).length ≤ 32 by rw [wordsBy_len, List.length_take]; omega)
        generalize wordsBy true (ws.take k) = pre at *
        obtain ⟨av, cv, hv⟩ := hown.form
        subst hv
        go_wp2
        clear hcell
        go_loopw [5, 15] (TxIn true pre x w) (fun _ i _ => 4 - (intOf i).toNat)
        case atStart => exact ⟨0, by omega, rfl, by simpa using hown, hfr⟩
        case round =>
          obtain ⟨j, hj, rfl, hown2, hfr2⟩ := hrel
          have hbase : w.heap.size ≤ wr.heap.size := hfr2.size
          obtain ⟨av, cv, hv⟩ := hown2.form
          subst hv
          by_cases hj4 : j < 4
          · have hji : (j : Int) < 4 := by omega
            have hwb := Lib.hid (wordB_snoc true x j hj4)
            have hby : x / 2 ^ (8 * j) % 256 = ((byteW true x j).toNat : Int) := (byte_int x (8 * j)).symm
            generalize byteW true x j = c at *
            have hlen2 := Lib.hid (show (pre ++ (wordB true x).take j).length < 100 by rw [List.length_append, List.length_take, wordB_len]; have := hpl.out; omega)
            go_wp2_with (at_builtin; refine wpList_byte rfl _ _ rfl w.heap.size (.slice av _ cv) (pre ++ (wordB true x).take j) rfl (by apply Bytes.alloc; exact hown2) ⟨wr.heap.size, 0, none⟩ 1 c rfl (new_cell _ _ _ _) (by have := hlen2.out; omega) (by simp; omega) ?_; intro v' w2 hown3 hg2)
            go_roundw
            case rel => exact ⟨j + 1, by omega, by go_num, by rw [hwb.out, ← List.append_assoc]; exact hown3, (hfr2.alloc _).grownNew hg2 hown2.block⟩
            case measure => simp [intOf]; omega
          · have hj5 : j = 4 := by omega
            subst hj5
            have hown3 : Bytes w.heap.size wr (.slice av (pre ++ (wordB true x).take 4).length cv) (pre ++ wordB true x) := by
              have h := hown2; rw [List.take_of_length_le (by rw [wordB_len]; omega)] at h ⊢; exact h
            have HO := Lib.hid hown3
            clear hown3 hown2
            go_wp2
            go_roundw
            case rel => exact ⟨k + 1, by omega, by go_num, by rw [hsn.out]; exact HO.out, hfr2⟩
            case measure => simp [intOf]; omega
      · rw [List.take_of_length_le (by omega)] at hown
        have hwl : (wordsBy true ws).length ≤ 32 := by rw [wordsBy_len]; omega
        have hst := Lib.hid (show sumTextL true ws = hexL (wordsBy true ws) from rfl)
        generalize wordsBy true ws = bs at *
        obtain ⟨av, cv, hv⟩ := hown.form
        subst hv
        have htext := hown.text
        go_wp2_with fail
        refine (Hex_any ⟨bs.toArray⟩ wr (by show bs.toArray.size < _; simp; omega)).mono ?_
        rintro e w3 ⟨rfl, hf3⟩
        go_wp2
        go_ret
        rw [hst.out]
        exact ⟨rfl, hfr.trans hf3⟩
end Go.Proofs.YtkoobhgedoanhaaGreatDoor

namespace Go.Proofs.YtkoobhgedoanhaaGreatDoor
open Go.RowKit

def sinesL : List Int := [3614090360, 3905402710, 606105819, 3250441966, 4118548399, 1200080426, 2821735955, 4249261313, 1770035416, 2336552879, 4294925233, 2304563134, 1804603682, 4254626195, 2792965006, 1236535329, 4129170786, 3225465664, 643717713, 3921069994, 3593408605, 38016083, 3634488961, 3889429448, 568446438, 3275163606, 4107603335, 1163531501, 2850285829, 4243563512, 1735328473, 2368359562, 4294588738, 2272392833, 1839030562, 4259657740, 2763975236, 1272893353, 4139469664, 3200236656, 681279174, 3936430074, 3572445317, 76029189, 3654602809, 3873151461, 530742520, 3299628645, 4096336452, 1126891415, 2878612391, 4237533241, 1700485571, 2399980690, 4293915773, 2240044497, 1873313359, 4264355552, 2734768916, 1309151649, 4149444226, 3174756917, 718787259, 3951481745]
def turnsL : List Nat := [7, 12, 17, 22, 5, 9, 14, 20, 4, 11, 16, 23, 6, 10, 15, 21]
/-- a package's table: block g -/
def TabAt (w : World) (g : Nat) (k : IntKind) (zs : List Int) : Prop := g < w.heap.size ∧ ∀ (i : Nat) z, zs[i]? = some z → w.cell? ⟨g, i, none⟩ = some (.int k z)
theorem TabAt.fr {w w' : World} {g : Nat} {k : IntKind} {zs : List Int} (h : TabAt w g k zs) (hf : Fr noB w w') : TabAt w' g k zs :=
  ⟨Nat.lt_of_lt_of_le h.1 hf.size, fun i z hz => (hf.cell (p := ⟨g, i, none⟩) h.1 (fun h => h)).trans (h.2 i z hz)⟩
structure MdTabs (w : World) : Prop where
  s : TabAt w 3 .u32 sinesL
  t : TabAt w 4 .i64 (turnsL.map Int.ofNat)
theorem MdTabs.fr {w w' : World} (h : MdTabs w) (hf : Fr noB w w') : MdTabs w' := ⟨h.s.fr hf, h.t.fr hf⟩

structure Md where
  a : Int
  b : Int
  c : Int
  d : Int
def Md.ok (s : Md) : Prop := (0 ≤ s.a ∧ s.a < 4294967296) ∧ (0 ≤ s.b ∧ s.b < 4294967296) ∧ (0 ≤ s.c ∧ s.c < 4294967296) ∧ (0 ≤ s.d ∧ s.d < 4294967296)
def notI (x : Int) : Int := bits .xor .u32 IntKind.u32.max x
def mdF (r : Nat) (b c d : Int) : Int := match r with
  | 0 => bits .or .u32 (bits .and .u32 b c) (bits .and .u32 (notI b) d)
  | 1 => bits .or .u32 (bits .and .u32 d b) (bits .and .u32 (notI d) c)
  | 2 => bits .xor .u32 (bits .xor .u32 b c) d
  | _ => bits .xor .u32 c (bits .or .u32 b (notI d))
def mdG (r k : Nat) : Nat := match r with
  | 0 => k
  | 1 => (5 * k + 1) % 16
  | 2 => (3 * k + 5) % 16
  | _ => 7 * k % 16
/-- one of the 64 turns -/
def mdStep (X : List UInt8) (k : Nat) (s : Md) : Md :=
  ⟨s.d, (s.b + rotI ((mdF (k / 16) s.b s.c s.d + (s.a + sinesL.getD k 0 + wordL true (X.drop (4 * mdG (k / 16) k)))) % 4294967296) (turnsL.getD (k / 16 * 4 + k % 4) 0)) % 4294967296, s.b, s.c⟩
def mdTurns (X : List UInt8) (h : Md) : Nat → Md
  | 0 => h
  | k + 1 => mdStep X k (mdTurns X h k)
def mdBlock (X : List UInt8) (h : Md) : Md :=
  ⟨(h.a + (mdTurns X h 64).a) % 4294967296, (h.b + (mdTurns X h 64).b) % 4294967296, (h.c + (mdTurns X h 64).c) % 4294967296, (h.d + (mdTurns X h 64).d) % 4294967296⟩
def md0 : Md := ⟨1732584193, 4023233417, 2562383102, 271733878⟩
def mdTo (T : List UInt8) : Nat → Md
  | 0 => md0
  | k + 1 => mdBlock (T.drop (64 * k)) (mdTo T k)
def Md.list (s : Md) : List Int := [s.a, s.b, s.c, s.d]
/-- sum.MD5 -/
def md5L (l : List UInt8) : List UInt8 := sumTextL true (mdTo (padL true l) ((padL true l).length / 64)).list
theorem mod_ok (x : Int) : 0 ≤ x % 4294967296 ∧ x % 4294967296 < 4294967296 := ⟨Int.emod_nonneg _ (by decide), Int.emod_lt_of_pos _ (by decide)⟩
theorem mdStep_ok {X : List UInt8} {k : Nat} {s : Md} (h : s.ok) : (mdStep X k s).ok := ⟨h.2.2.2, mod_ok _, h.2.1, h.2.2.1⟩
theorem mdTurns_ok {X : List UInt8} {h : Md} (ho : h.ok) : ∀ k, (mdTurns X h k).ok
  | 0 => ho
  | k + 1 => mdStep_ok (mdTurns_ok ho k)
theorem mdBlock_ok (X : List UInt8) (h : Md) : (mdBlock X h).ok := ⟨mod_ok _, mod_ok _, mod_ok _, mod_ok _⟩
theorem md0_ok : md0.ok := by unfold Md.ok md0; decide
theorem mdTo_ok (T : List UInt8) : ∀ k, (mdTo T k).ok
  | 0 => md0_ok
  | _ + 1 => mdBlock_ok _ _
theorem turns_ok : ∀ i : Fin 16, bits .and .u64 ((turnsL.getD i.val 0 : Nat) : Int) 31 = ((turnsL.getD i.val 0 : Nat) : Int) ∧ turnsL.getD i.val 0 < 32 := by decide +kernel
theorem padL_len (little : Bool) (l : List UInt8) : (padL little l).length % 64 = 0 ∧ (padL little l).length ≤ l.length + 128 := by
  unfold padL
  simp only [List.length_append, List.length_replicate, lenL_len, List.length_cons, List.length_nil]
  omega
theorem cut_list (T : ByteArray) (i : Nat) : (T.extract i T.size).data.toList = T.data.toList.drop i := by
  rw [Lib.extract_data, List.take_of_length_le (by simp)]
theorem cut_size (T : ByteArray) (i : Nat) : (T.extract i T.size).size = T.size - i := by
  have h : (T.extract i T.size).data.toList.length = (T.extract i T.size).size := rfl
  rw [← h, cut_list, List.length_drop]; simp
theorem cut_cut (T : ByteArray) (i j : Nat) : (T.extract i T.size).extract j (T.extract i T.size).size = T.extract (i + j) T.size := by
  apply Go.WideShapes.bytes_inj
  rw [cut_list, cut_list, cut_list, List.drop_drop]

theorem set_heap {w : World} {b : Nat} {cur : Array Value} {t : TypeId} {f : Nat × Nat} (h : w.heap[b]? = some (.cells cur t f)) (o : Nat) (v : Value) : (w.setCell ⟨b, o, none⟩ v).heap[b]? = some (.cells (cur.setIfInBounds o v) t f) := by
  simp [World.setCell, Array.getElem?_modify, h]
def MdIs (w : World) (g : Nat) (h : Md) : Prop := w.heap[g]? = some (.cells #[.int .u32 h.a, .int .u32 h.b, .int .u32 h.c, .int .u32 h.d] 193 (0, 0))
def MdOut (T : ByteArray) (g : Nat) (w : World) (t : Value) (wr : World) : Prop := ∃ k : Nat, 64 * k ≤ T.size ∧ t = .string (T.extract (64 * k) T.size) ∧ MdIs wr g (mdTo T.data.toList k) ∧ Fr noB w wr
def MdIn (X : List UInt8) (h : Md) (g : Nat) (w : World) (a b c d i : Value) (wr : World) : Prop :=
  ∃ k : Nat, k ≤ 64 ∧ i = .int .i64 k ∧ a = .int .u32 (mdTurns X h k).a ∧ b = .int .u32 (mdTurns X h k).b ∧ c = .int .u32 (mdTurns X h k).c ∧ d = .int .u32 (mdTurns X h k).d ∧ MdIs wr g h ∧ Fr noB w wr

set_option maxRecDepth 100000 in
set_option maxHeartbeats 16000000 in
theorem MD5_any (s : ByteArray) (w : World) (hs : s.size < 4398046511104) (ht : MdTabs w) :
    Calls Tryz.prog 118 #[.string s] w fun e w' => e = .returned (.string ⟨(md5L s.data.toList).toArray⟩) ∧ Fr noB w w' := by
  have hfa : Fr noB w (w.alloc (.cells #[.int .u32 1732584193, .int .u32 4023233417, .int .u32 2562383102, .int .u32 271733878] 193)) := (Fr.refl noB w).alloc _
  have hm0 : MdIs (w.alloc (.cells #[.int .u32 1732584193, .int .u32 4023233417, .int .u32 2562383102, .int .u32 271733878] 193)) w.heap.size md0 := new_block _ _
  have HM0 := Lib.hid hm0
  clear hm0
  go_enter Tryz.func118, Tryz.ntmps118
  go_wp2_with fail
  refine (pad_any s true _ (by omega)).mono ?_
  rintro e w1 ⟨rfl, hf1⟩
  obtain ⟨T, hT⟩ : ∃ T, T = (⟨(padL true s.data.toList).toArray⟩ : ByteArray) := ⟨_, rfl⟩
  rw [← hT]
  have hTl : T.data.toList = padL true s.data.toList := by rw [hT]
  have hTs : T.size = (padL true s.data.toList).length := by rw [← hTl]; simp
  obtain ⟨hp64, hple⟩ := padL_len true s.data.toList
  rw [← hTs] at hp64 hple
  have hsl : s.data.toList.length = s.size := by simp
  rw [hsl] at hple
  have HFIN := Lib.hid (show md5L s.data.toList = sumTextL true (mdTo T.data.toList (T.size / 64)).list by unfold md5L; rw [hTl, hTs])
  have HM1 := Lib.hid (show MdIs w1 w.heap.size md0 from hf1.keep HM0.out (fun h => h))
  have HF1 := Lib.hid (hfa.trans hf1)
  clear hT hTl hTs HM0 hfa hf1 hsl
  go_wp2
  go_loopw [4] (MdOut T w.heap.size w) (fun t _ => match t with | .string x => x.size | _ => 0)
  case atStart => exact ⟨0, by omega, by rw [Nat.mul_zero]; congr 1; apply Go.WideShapes.bytes_inj; rw [cut_list]; rfl, HM1.out, HF1.out⟩
  case round =>
    obtain ⟨n, hn, rfl, hm, hfr⟩ := hrel
    by_cases hne : 64 * n < T.size
    · have hXs : 64 ≤ (T.extract (64 * n) T.size).size := by rw [cut_size]; omega
      have hXs2 : (T.extract (64 * n) T.size).size < 17592186044416 := by rw [cut_size]; omega
      have hnx := Lib.hid (cut_cut T (64 * n) 64)
      have hXl := Lib.hid (cut_list T (64 * n))
      have hXm := Lib.hid (cut_size T (64 * n))
      generalize T.extract (64 * n) T.size = X at *
      have hx : X.toList.isEmpty = false := by
        rw [ByteArray.toList_eq]
        cases hq : X.data.toList with
        | nil => rw [byteArray_nil.1 hq] at hXs; omega
        | cons a l => rfl
      have hx' : ¬ X.toList = [] := by rw [ByteArray.toList_eq]; intro h; rw [byteArray_nil.1 h] at hXs; omega
      have HM := Lib.hid hm
      have h0 : wr.cell? ⟨w.heap.size, 0, none⟩ = some (.int .u32 (mdTo T.data.toList n).a) := by unfold MdIs at hm; simp [World.cell?, hm]
      have h1 : wr.cell? ⟨w.heap.size, 1, none⟩ = some (.int .u32 (mdTo T.data.toList n).b) := by unfold MdIs at hm; simp [World.cell?, hm]
      have h2 : wr.cell? ⟨w.heap.size, 2, none⟩ = some (.int .u32 (mdTo T.data.toList n).c) := by unfold MdIs at hm; simp [World.cell?, hm]
      have h3 : wr.cell? ⟨w.heap.size, 3, none⟩ = some (.int .u32 (mdTo T.data.toList n).d) := by unfold MdIs at hm; simp [World.cell?, hm]
      have hblk := Lib.hid (show mdTo T.data.toList (n + 1) = mdBlock X.data.toList (mdTo T.data.toList n) by rw [hXl.out]; rfl)
      have hok := Lib.hid (mdTo_ok T.data.toList n)
      generalize mdTo T.data.toList n = H at *
      clear hm
      go_wp2
      go_quiet (fail)
      clear h0 h1 h2 h3
      go_wp2
      go_loopw [5, 6, 7, 8, 27] (MdIn X.data.toList H w.heap.size w) (fun _ _ _ _ i _ => 64 - (intOf i).toNat)
      case atStart => exact ⟨0, by omega, rfl, rfl, rfl, rfl, rfl, by exact HM.out, by first | exact hfr | exact hfr.drewN _⟩
      case round =>
        obtain ⟨k, hk, rfl, rfl, rfl, rfl, rfl, hm, hfr2⟩ := hrel
        obtain ⟨⟨a0, a1⟩, ⟨b0, b1⟩, ⟨c0, c1⟩, ⟨d0, d1⟩⟩ := mdTurns_ok (X := X.data.toList) hok.out k
        have HM2 := Lib.hid hm
        have HSN := Lib.hid (show mdTurns X.data.toList H (k + 1) = mdStep X.data.toList k (mdTurns X.data.toList H k) from rfl)
        have H64 := Lib.hid (show k = 64 → mdBlock X.data.toList H = ⟨(H.a + (mdTurns X.data.toList H k).a) % 4294967296, (H.b + (mdTurns X.data.toList H k).b) % 4294967296, (H.c + (mdTurns X.data.toList H k).c) % 4294967296, (H.d + (mdTurns X.data.toList H k).d) % 4294967296⟩ from fun h => by subst h; rfl)
        generalize mdTurns X.data.toList H k = M at *
        clear hm
        by_cases hk4 : k < 64
        · have hk64 : (k : Int) < 64 := by omega
          obtain ⟨z, hz⟩ : ∃ z, sinesL[k]? = some z := ⟨_, List.getElem?_eq_getElem (by show k < 64; omega)⟩
          have hsin := Lib.hid ((ht.fr hfr2).s.2 k z hz)
          have hzd := Lib.hid (show sinesL.getD k 0 = z by rw [List.getD_eq_getElem?_getD, hz]; rfl)
          obtain ⟨m, hmm⟩ : ∃ m : Nat, (k : Int) % 4 = (m : Int) := ⟨k % 4, by omega⟩
          have hm4 : m < 4 := by omega
          have hkm := Lib.hid (show k % 4 = m by omega)
          clear hz
          by_cases hr0 : k < 16
          · have e1 : (k : Int) / 16 = 0 := by omega
            have hk16 := Lib.hid (show k / 16 = 0 by omega)
            have hmg := Lib.hid (show mdG (k / 16) k = k by rw [hk16.out]; rfl)
            obtain ⟨wv, hwv⟩ : ∃ wv, wv = wordL true (X.extract (4 * k) X.size).data.toList := ⟨_, rfl⟩
            have HWORD := Lib.hid (fun W => word_any (X.extract (4 * k) X.size) true W (by rw [cut_size]; omega) (by rw [cut_size]; omega))
            rw [← hwv] at HWORD
            have HWV := Lib.hid (show wordL true (X.data.toList.drop (4 * mdG (k / 16) k)) = wv by rw [hmg.out, hwv, cut_list])
            clear hwv
            go_wp2
            have hw4 : IntKind.i64.wrap (4 * (k : Int)) = 4 * (k : Int) := IntWalk.i64_in _ (by omega)
            have q0 : (0 : Int) ≤ (k : Int) := by omega
            have q1 : (0 : Int) ≤ 4 * (k : Int) := by omega
            have q2 : 4 * (k : Int) ≤ (X.size : Int) := by omega
            have q3 : 4 * k ≤ X.size := by omega
            have q4 : (4 * (k : Int)).toNat = 4 * k := by omega
            have hsin' := hsin.out
            go_quiet ((go_at_call 158; exact Calls.quiet_of (HWORD.out _)))
            clear hw4 q0 q1 q2 q3 q4 hsin'
            obtain ⟨z2, hz2⟩ : ∃ z2, turnsL[m]? = some z2 := ⟨_, List.getElem?_eq_getElem (by show m < 16; omega)⟩
            have htu := (ht.fr (hfr2.drewN nq)).t.2 (m) (z2 : Int) (by rw [List.getElem?_map, hz2]; rfl)
            have hzt := Lib.hid (show turnsL.getD (k / 16 * 4 + k % 4) 0 = z2 by rw [hk16.out, hkm.out, show 0 * 4 + m = m from by omega, List.getD_eq_getElem?_getD, hz2]; rfl)
            obtain ⟨hb2, hz32⟩ : bits .and .u64 (z2 : Int) 31 = (z2 : Int) ∧ z2 < 32 := by have h := turns_ok ⟨m, by omega⟩; simp only [List.getD_eq_getElem?_getD, hz2, Option.getD_some] at h; exact h
            clear hz2
            have m0 : (m : Int) < 4 := by omega
            have HM3 := Lib.hid (show MdIs (wr.drewN nq) w.heap.size H from HM2.out)
            have hfr3 := hfr2.drewN nq
            generalize wr.drewN nq = wd at *
            go_wp2_with fail
            refine (rot_any _ (z2 : Int) z2 wd (by omega) (by omega) hb2 hz32).mono ?_
            rintro e w5 ⟨rfl, rfl⟩
            have HST := Lib.hid (show mdStep X.data.toList k M = ⟨M.d, (M.b + rotI ((mdF 0 M.b M.c M.d + (M.a + z + wv)) % 4294967296) z2) % 4294967296, M.b, M.c⟩ by unfold mdStep; rw [hzd.out, hzt.out, HWV.out, hk16.out])
            clear htu hb2
            go_wp2
            go_roundw
            case rel => exact ⟨k + 1, by omega, by go_num, by rw [HSN.out, HST.out], by rw [HSN.out, HST.out]; rfl, by rw [HSN.out, HST.out], by rw [HSN.out, HST.out], HM3.out, hfr3⟩
            case measure => simp [intOf]; omega
          · by_cases hr1 : k < 32
            · have e1 : (k : Int) / 16 = 1 := by omega
              have hk16 := Lib.hid (show k / 16 = 1 by omega)
              obtain ⟨gg, hgg⟩ : ∃ gg : Nat, gg = (5 * k + 1) % 16 := ⟨_, rfl⟩
              have hg16 : gg < 16 := by omega
              have hgi : (5 * (k : Int) + 1) % 16 = (gg : Int) := by omega
              have hmg := Lib.hid (show mdG (k / 16) k = gg by rw [hk16.out, hgg]; rfl)
              obtain ⟨wv, hwv⟩ : ∃ wv, wv = wordL true (X.extract (4 * gg) X.size).data.toList := ⟨_, rfl⟩
              have HWORD := Lib.hid (fun W => word_any (X.extract (4 * gg) X.size) true W (by rw [cut_size]; omega) (by rw [cut_size]; omega))
              rw [← hwv] at HWORD
              have HWV := Lib.hid (show wordL true (X.data.toList.drop (4 * mdG (k / 16) k)) = wv by rw [hmg.out, hwv, cut_list])
              clear hwv hgg
              go_wp2
              have hw4 : IntKind.i64.wrap (4 * (gg : Int)) = 4 * (gg : Int) := IntWalk.i64_in _ (by omega)
              have q0 : (0 : Int) ≤ (k : Int) := by omega
              have q1 : (0 : Int) ≤ 4 * (gg : Int) := by omega
              have q2 : 4 * (gg : Int) ≤ (X.size : Int) := by omega
              have q3 : 4 * gg ≤ X.size := by omega
              have q4 : (4 * (gg : Int)).toNat = 4 * gg := by omega
              have hsin' := hsin.out
              go_quiet ((go_at_call 158; exact Calls.quiet_of (HWORD.out _)))
              clear hw4 q0 q1 q2 q3 q4 hsin'
              obtain ⟨z2, hz2⟩ : ∃ z2, turnsL[4 + m]? = some z2 := ⟨_, List.getElem?_eq_getElem (by show 4 + m < 16; omega)⟩
              have htu := (ht.fr (hfr2.drewN nq)).t.2 (4 + m) (z2 : Int) (by rw [List.getElem?_map, hz2]; rfl)
              have hzt := Lib.hid (show turnsL.getD (k / 16 * 4 + k % 4) 0 = z2 by rw [hk16.out, hkm.out, show 1 * 4 + m = 4 + m from by omega, List.getD_eq_getElem?_getD, hz2]; rfl)
              obtain ⟨hb2, hz32⟩ : bits .and .u64 (z2 : Int) 31 = (z2 : Int) ∧ z2 < 32 := by have h := turns_ok ⟨4 + m, by omega⟩; simp only [List.getD_eq_getElem?_getD, hz2, Option.getD_some] at h; exact h
              clear hz2
              have m0 : (m : Int) < 4 := by omega
              have HM3 := Lib.hid (show MdIs (wr.drewN nq) w.heap.size H from HM2.out)
              have hfr3 := hfr2.drewN nq
              generalize wr.drewN nq = wd at *
              go_wp2_with fail
              refine (rot_any _ (z2 : Int) z2 wd (by omega) (by omega) hb2 hz32).mono ?_
              rintro e w5 ⟨rfl, rfl⟩
              have HST := Lib.hid (show mdStep X.data.toList k M = ⟨M.d, (M.b + rotI ((mdF 1 M.b M.c M.d + (M.a + z + wv)) % 4294967296) z2) % 4294967296, M.b, M.c⟩ by unfold mdStep; rw [hzd.out, hzt.out, HWV.out, hk16.out])
              clear htu hb2
              go_wp2
              go_roundw
              case rel => exact ⟨k + 1, by omega, by go_num, by rw [HSN.out, HST.out], by rw [HSN.out, HST.out]; rfl, by rw [HSN.out, HST.out], by rw [HSN.out, HST.out], HM3.out, hfr3⟩
              case measure => simp [intOf]; omega
            · by_cases hr2 : k < 48
              · have e1 : (k : Int) / 16 = 2 := by omega
                have hk16 := Lib.hid (show k / 16 = 2 by omega)
                obtain ⟨gg, hgg⟩ : ∃ gg : Nat, gg = (3 * k + 5) % 16 := ⟨_, rfl⟩
                have hg16 : gg < 16 := by omega
                have hgi : (3 * (k : Int) + 5) % 16 = (gg : Int) := by omega
                have hmg := Lib.hid (show mdG (k / 16) k = gg by rw [hk16.out, hgg]; rfl)
                obtain ⟨wv, hwv⟩ : ∃ wv, wv = wordL true (X.extract (4 * gg) X.size).data.toList := ⟨_, rfl⟩
                have HWORD := Lib.hid (fun W => word_any (X.extract (4 * gg) X.size) true W (by rw [cut_size]; omega) (by rw [cut_size]; omega))
                rw [← hwv] at HWORD
                have HWV := Lib.hid (show wordL true (X.data.toList.drop (4 * mdG (k / 16) k)) = wv by rw [hmg.out, hwv, cut_list])
                clear hwv hgg
                go_wp2
                have hw4 : IntKind.i64.wrap (4 * (gg : Int)) = 4 * (gg : Int) := IntWalk.i64_in _ (by omega)
                have q0 : (0 : Int) ≤ (k : Int) := by omega
                have q1 : (0 : Int) ≤ 4 * (gg : Int) := by omega
                have q2 : 4 * (gg : Int) ≤ (X.size : Int) := by omega
                have q3 : 4 * gg ≤ X.size := by omega
                have q4 : (4 * (gg : Int)).toNat = 4 * gg := by omega
                have hsin' := hsin.out
                go_quiet ((go_at_call 158; exact Calls.quiet_of (HWORD.out _)))
                clear hw4 q0 q1 q2 q3 q4 hsin'
                obtain ⟨z2, hz2⟩ : ∃ z2, turnsL[8 + m]? = some z2 := ⟨_, List.getElem?_eq_getElem (by show 8 + m < 16; omega)⟩
                have htu := (ht.fr (hfr2.drewN nq)).t.2 (8 + m) (z2 : Int) (by rw [List.getElem?_map, hz2]; rfl)
                have hzt := Lib.hid (show turnsL.getD (k / 16 * 4 + k % 4) 0 = z2 by rw [hk16.out, hkm.out, show 2 * 4 + m = 8 + m from by omega, List.getD_eq_getElem?_getD, hz2]; rfl)
                obtain ⟨hb2, hz32⟩ : bits .and .u64 (z2 : Int) 31 = (z2 : Int) ∧ z2 < 32 := by have h := turns_ok ⟨8 + m, by omega⟩; simp only [List.getD_eq_getElem?_getD, hz2, Option.getD_some] at h; exact h
                clear hz2
                have m0 : (m : Int) < 4 := by omega
                have HM3 := Lib.hid (show MdIs (wr.drewN nq) w.heap.size H from HM2.out)
                have hfr3 := hfr2.drewN nq
                generalize wr.drewN nq = wd at *
                go_wp2_with fail
                refine (rot_any _ (z2 : Int) z2 wd (by omega) (by omega) hb2 hz32).mono ?_
                rintro e w5 ⟨rfl, rfl⟩
                have HST := Lib.hid (show mdStep X.data.toList k M = ⟨M.d, (M.b + rotI ((mdF 2 M.b M.c M.d + (M.a + z + wv)) % 4294967296) z2) % 4294967296, M.b, M.c⟩ by unfold mdStep; rw [hzd.out, hzt.out, HWV.out, hk16.out])
                clear htu hb2
                go_wp2
                go_roundw
                case rel => exact ⟨k + 1, by omega, by go_num, by rw [HSN.out, HST.out], by rw [HSN.out, HST.out]; rfl, by rw [HSN.out, HST.out], by rw [HSN.out, HST.out], HM3.out, hfr3⟩
                case measure => simp [intOf]; omega
              · have e1 : (k : Int) / 16 = 3 := by omega
                have hk16 := Lib.hid (show k / 16 = 3 by omega)
                obtain ⟨gg, hgg⟩ : ∃ gg : Nat, gg = 7 * k % 16 := ⟨_, rfl⟩
                have hg16 : gg < 16 := by omega
                have hgi : 7 * (k : Int) % 16 = (gg : Int) := by omega
                have hmg := Lib.hid (show mdG (k / 16) k = gg by rw [hk16.out, hgg]; rfl)
                obtain ⟨wv, hwv⟩ : ∃ wv, wv = wordL true (X.extract (4 * gg) X.size).data.toList := ⟨_, rfl⟩
                have HWORD := Lib.hid (fun W => word_any (X.extract (4 * gg) X.size) true W (by rw [cut_size]; omega) (by rw [cut_size]; omega))
                rw [← hwv] at HWORD
                have HWV := Lib.hid (show wordL true (X.data.toList.drop (4 * mdG (k / 16) k)) = wv by rw [hmg.out, hwv, cut_list])
                clear hwv hgg
                go_wp2
                have hw4 : IntKind.i64.wrap (4 * (gg : Int)) = 4 * (gg : Int) := IntWalk.i64_in _ (by omega)
                have q0 : (0 : Int) ≤ (k : Int) := by omega
                have q1 : (0 : Int) ≤ 4 * (gg : Int) := by omega
                have q2 : 4 * (gg : Int) ≤ (X.size : Int) := by omega
                have q3 : 4 * gg ≤ X.size := by omega
                have q4 : (4 * (gg : Int)).toNat = 4 * gg := by omega
                have hsin' := hsin.out
                go_quiet ((go_at_call 158; exact Calls.quiet_of (HWORD.out _)))
                clear hw4 q0 q1 q2 q3 q4 hsin'
                obtain ⟨z2, hz2⟩ : ∃ z2, turnsL[12 + m]? = some z2 := ⟨_, List.getElem?_eq_getElem (by show 12 + m < 16; omega)⟩
                have htu := (ht.fr (hfr2.drewN nq)).t.2 (12 + m) (z2 : Int) (by rw [List.getElem?_map, hz2]; rfl)
                have hzt := Lib.hid (show turnsL.getD (k / 16 * 4 + k % 4) 0 = z2 by rw [hk16.out, hkm.out, show 3 * 4 + m = 12 + m from by omega, List.getD_eq_getElem?_getD, hz2]; rfl)
                obtain ⟨hb2, hz32⟩ : bits .and .u64 (z2 : Int) 31 = (z2 : Int) ∧ z2 < 32 := by have h := turns_ok ⟨12 + m, by omega⟩; simp only [List.getD_eq_getElem?_getD, hz2, Option.getD_some] at h; exact h
                clear hz2
                have m0 : (m : Int) < 4 := by omega
                have HM3 := Lib.hid (show MdIs (wr.drewN nq) w.heap.size H from HM2.out)
                have hfr3 := hfr2.drewN nq
                generalize wr.drewN nq = wd at *
                go_wp2_with fail
                refine (rot_any _ (z2 : Int) z2 wd (by omega) (by omega) hb2 hz32).mono ?_
                rintro e w5 ⟨rfl, rfl⟩
                have HST := Lib.hid (show mdStep X.data.toList k M = ⟨M.d, (M.b + rotI ((mdF 3 M.b M.c M.d + (M.a + z + wv)) % 4294967296) z2) % 4294967296, M.b, M.c⟩ by unfold mdStep; rw [hzd.out, hzt.out, HWV.out, hk16.out])
                clear htu hb2
                go_wp2
                go_roundw
                case rel => exact ⟨k + 1, by omega, by go_num, by rw [HSN.out, HST.out], by rw [HSN.out, HST.out]; rfl, by rw [HSN.out, HST.out], by rw [HSN.out, HST.out], HM3.out, hfr3⟩
                case measure => simp [intOf]; omega
        · have hk5 : k = 64 := by omega
          subst hk5
          have hmm2 := HM2.out
          have h0 : wr.cell? ⟨w.heap.size, 0, none⟩ = some (.int .u32 H.a) := by unfold MdIs at hmm2; simp [World.cell?, hmm2]
          have h1 : wr.cell? ⟨w.heap.size, 1, none⟩ = some (.int .u32 H.b) := by unfold MdIs at hmm2; simp [World.cell?, hmm2]
          have h2 : wr.cell? ⟨w.heap.size, 2, none⟩ = some (.int .u32 H.c) := by unfold MdIs at hmm2; simp [World.cell?, hmm2]
          have h3 : wr.cell? ⟨w.heap.size, 3, none⟩ = some (.int .u32 H.d) := by unfold MdIs at hmm2; simp [World.cell?, hmm2]
          have f0 : wr.frozen? ⟨w.heap.size, 0, none⟩ = false := by unfold MdIs at hmm2; simp [World.frozen?, hmm2]
          have f1 : wr.frozen? ⟨w.heap.size, 1, none⟩ = false := by unfold MdIs at hmm2; simp [World.frozen?, hmm2]
          have f2 : wr.frozen? ⟨w.heap.size, 2, none⟩ = false := by unfold MdIs at hmm2; simp [World.frozen?, hmm2]
          have f3 : wr.frozen? ⟨w.heap.size, 3, none⟩ = false := by unfold MdIs at hmm2; simp [World.frozen?, hmm2]
          clear hmm2
          have hi64 : (64 : Int) ≤ (X.size : Int) := by omega
          go_wp2
          have hb0 : wr.heap[w.heap.size]? = some (.cells #[.int .u32 H.a, .int .u32 H.b, .int .u32 H.c, .int .u32 H.d] 193 (0, 0)) := HM2.out
          have hb1 := set_heap hb0 0 (.int .u32 ((H.a + M.a) % 4294967296))
          have hb2 := set_heap hb1 1 (.int .u32 ((H.b + M.b) % 4294967296))
          have hb3 := set_heap hb2 2 (.int .u32 ((H.c + M.c) % 4294967296))
          have hb4 := set_heap hb3 3 (.int .u32 ((H.d + M.d) % 4294967296))
          refine ⟨⟨n + 1, by omega, ?_, ?_, (((hfr2.setNew (p := ⟨w.heap.size, 0, none⟩) (Nat.le_refl _) _).setNew (p := ⟨w.heap.size, 1, none⟩) (Nat.le_refl _) _).setNew (p := ⟨w.heap.size, 2, none⟩) (Nat.le_refl _) _).setNew (p := ⟨w.heap.size, 3, none⟩) (Nat.le_refl _) _⟩, ?_⟩
          · rw [hnx.out]; rfl
          · rw [hblk.out, H64.out rfl]; exact hb4
          · show (X.extract 64 X.size).size < X.size
            rw [cut_size]; omega
    · have hn2 : 64 * n = T.size := by omega
      have he : (T.extract (64 * n) T.size) = ⟨#[]⟩ := by apply Go.WideShapes.bytes_inj; rw [cut_list, List.drop_eq_nil_of_le (by simp; omega)]
      rw [he]
      have hfin2 := Lib.hid (show mdTo T.data.toList (T.size / 64) = mdTo T.data.toList n by rw [← hn2]; congr 1; omega)
      have hok := mdTo_ok T.data.toList n
      generalize mdTo T.data.toList n = H at *
      have HM := Lib.hid hm
      have TX := Lib.hid (sumText_any w.heap.size H.list true wr (by show 4 ≤ 8; omega) (lt_of_some hm) (fun j x hj => by
        unfold MdIs at hm
        match j, hj with
        | 0, hj => simp [Md.list] at hj; subst hj; simp [World.cell?, hm]
        | 1, hj => simp [Md.list] at hj; subst hj; simp [World.cell?, hm]
        | 2, hj => simp [Md.list] at hj; subst hj; simp [World.cell?, hm]
        | 3, hj => simp [Md.list] at hj; subst hj; simp [World.cell?, hm]
        | j + 4, hj => simp [Md.list] at hj) (fun x hx => by
        simp only [Md.list, List.mem_cons, List.not_mem_nil, or_false] at hx
        obtain ⟨p0, p1, p2, p3⟩ := hok
        rcases hx with rfl | rfl | rfl | rfl <;> assumption))
      clear hm hok
      go_wp2_with fail
      refine TX.out.mono ?_
      rintro e w5 ⟨rfl, hf5⟩
      go_wp2
      go_ret
      exact ⟨by rw [HFIN.out, hfin2.out]; rfl, hfr.trans hf5⟩
end Go.Proofs.YtkoobhgedoanhaaGreatDoor

namespace Go.Proofs.YtkoobhgedoanhaaGreatDoor
open Go.RowKit

def rootsL : List Int := [1116352408, 1899447441, 3049323471, 3921009573, 961987163, 1508970993, 2453635748, 2870763221, 3624381080, 310598401, 607225278, 1426881987, 1925078388, 2162078206, 2614888103, 3248222580, 3835390401, 4022224774, 264347078, 604807628, 770255983, 1249150122, 1555081692, 1996064986, 2554220882, 2821834349, 2952996808, 3210313671, 3336571891, 3584528711, 113926993, 338241895, 666307205, 773529912, 1294757372, 1396182291, 1695183700, 1986661051, 2177026350, 2456956037, 2730485921, 2820302411, 3259730800, 3345764771, 3516065817, 3600352804, 4094571909, 275423344, 430227734, 506948616, 659060556, 883997877, 958139571, 1322822218, 1537002063, 1747873779, 1955562222, 2024104815, 2227730452, 2361852424, 2428436474, 2756734187, 3204031479, 3329325298]
def beginL : List Int := [1779033703, 3144134277, 1013904242, 2773480762, 1359893119, 2600822924, 528734635, 1541459225]
structure ShTabs (w : World) : Prop where
  r : TabAt w 2 .u32 rootsL
  b : TabAt w 1 .u32 beginL
theorem ShTabs.fr {w w' : World} (h : ShTabs w) (hf : Fr noB w w') : ShTabs w' := ⟨h.r.fr hf, h.b.fr hf⟩
def xor3 (a b c : Int) : Int := bits .xor .u32 (bits .xor .u32 a b) c
def sig0 (x : Int) : Int := xor3 (rotI x 25) (rotI x 14) (x / 8)
def sig1 (y : Int) : Int := xor3 (rotI y 15) (rotI y 13) (y / 1024)
/-- the i-th word of a block, those ahead of it given -/
def shNew (X : List UInt8) (l : List Int) (i : Nat) : Int := if i < 16 then wordL false (X.drop (4 * i)) else (l.getD (i - 16) 0 + l.getD (i - 7) 0 + sig0 (l.getD (i - 15) 0) + sig1 (l.getD (i - 2) 0)) % 4294967296
def shAdd (X : List UInt8) (l : List Int) (i : Nat) : List Int := l ++ [shNew X l i]
def shW (X : List UInt8) : Nat → List Int
  | 0 => []
  | i + 1 => shAdd X (shW X i) i
theorem shW_len (X : List UInt8) : ∀ i, (shW X i).length = i
  | 0 => rfl
  | i + 1 => by rw [shW, shAdd, List.length_append, shW_len X i]; rfl
theorem rb (x : Int) (w : World) (j n : Nat) (h : (decide (0 < j ∧ j < 32 ∧ n < 32 ∧ bits .and .u64 (-(j : Int) + 18446744073709551616) 31 = (n : Int))) = true) :
    Calls Tryz.prog 159 #[.int .u32 x, .int .i64 (-(j : Int))] w fun e w' => e = .returned (.int .u32 (rotI x n)) ∧ w' = w := by
  have h := of_decide_eq_true h
  exact (rot_neg x (-(j : Int)) n w (by omega) (by omega) h.2.2.2 h.2.2.1).mono fun _ _ ⟨he, hw⟩ => ⟨he, hw.symm⟩
theorem rot7 (x : Int) (w : World) : Calls Tryz.prog 159 #[.int .u32 x, .int .i64 (-7)] w fun e w' => e = .returned (.int .u32 (rotI x 25)) ∧ w' = w := rb x w 7 25 (by decide +kernel)
theorem rot18 (x : Int) (w : World) : Calls Tryz.prog 159 #[.int .u32 x, .int .i64 (-18)] w fun e w' => e = .returned (.int .u32 (rotI x 14)) ∧ w' = w := rb x w 18 14 (by decide +kernel)
theorem rot17 (x : Int) (w : World) : Calls Tryz.prog 159 #[.int .u32 x, .int .i64 (-17)] w fun e w' => e = .returned (.int .u32 (rotI x 15)) ∧ w' = w := rb x w 17 15 (by decide +kernel)
theorem rot19 (x : Int) (w : World) : Calls Tryz.prog 159 #[.int .u32 x, .int .i64 (-19)] w fun e w' => e = .returned (.int .u32 (rotI x 13)) ∧ w' = w := rb x w 19 13 (by decide +kernel)
theorem rot6 (x : Int) (w : World) : Calls Tryz.prog 159 #[.int .u32 x, .int .i64 (-6)] w fun e w' => e = .returned (.int .u32 (rotI x 26)) ∧ w' = w := rb x w 6 26 (by decide +kernel)
theorem rot11 (x : Int) (w : World) : Calls Tryz.prog 159 #[.int .u32 x, .int .i64 (-11)] w fun e w' => e = .returned (.int .u32 (rotI x 21)) ∧ w' = w := rb x w 11 21 (by decide +kernel)
theorem rot25 (x : Int) (w : World) : Calls Tryz.prog 159 #[.int .u32 x, .int .i64 (-25)] w fun e w' => e = .returned (.int .u32 (rotI x 7)) ∧ w' = w := rb x w 25 7 (by decide +kernel)
theorem rot2 (x : Int) (w : World) : Calls Tryz.prog 159 #[.int .u32 x, .int .i64 (-2)] w fun e w' => e = .returned (.int .u32 (rotI x 30)) ∧ w' = w := rb x w 2 30 (by decide +kernel)
theorem rot13 (x : Int) (w : World) : Calls Tryz.prog 159 #[.int .u32 x, .int .i64 (-13)] w fun e w' => e = .returned (.int .u32 (rotI x 19)) ∧ w' = w := rb x w 13 19 (by decide +kernel)
theorem rot22 (x : Int) (w : World) : Calls Tryz.prog 159 #[.int .u32 x, .int .i64 (-22)] w fun e w' => e = .returned (.int .u32 (rotI x 10)) ∧ w' = w := rb x w 22 10 (by decide +kernel)

structure Sh where
  v0 : Int
  v1 : Int
  v2 : Int
  v3 : Int
  v4 : Int
  v5 : Int
  v6 : Int
  v7 : Int
def ShIs (w : World) (g : Nat) (h : Sh) : Prop := w.heap[g]? = some (.cells #[.int .u32 h.v0, .int .u32 h.v1, .int .u32 h.v2, .int .u32 h.v3, .int .u32 h.v4, .int .u32 h.v5, .int .u32 h.v6, .int .u32 h.v7] 186 (0, 0))
/-- one of the 64 turns -/
def shP (ws : List Int) (k : Nat) (v : Sh) : Int := (v.v7 + xor3 (rotI v.v4 26) (rotI v.v4 21) (rotI v.v4 7) + bits .xor .u32 (bits .and .u32 v.v4 v.v5) (bits .and .u32 (notI v.v4) v.v6) + rootsL.getD k 0 + ws.getD k 0) % 4294967296
def shQ (v : Sh) : Int := (xor3 (rotI v.v0 30) (rotI v.v0 19) (rotI v.v0 10) + xor3 (bits .and .u32 v.v0 v.v1) (bits .and .u32 v.v0 v.v2) (bits .and .u32 v.v1 v.v2)) % 4294967296
def shMix (v : Sh) (p q : Int) : Sh := ⟨(p + q) % 4294967296, v.v0, v.v1, v.v2, (v.v3 + p) % 4294967296, v.v4, v.v5, v.v6⟩
def shTurns (ws : List Int) (h : Sh) : Nat → Sh
  | 0 => h
  | k + 1 => shMix (shTurns ws h k) (shP ws k (shTurns ws h k)) (shQ (shTurns ws h k))
def shSum (h v : Sh) : Sh := ⟨(h.v0 + v.v0) % 4294967296, (h.v1 + v.v1) % 4294967296, (h.v2 + v.v2) % 4294967296, (h.v3 + v.v3) % 4294967296, (h.v4 + v.v4) % 4294967296, (h.v5 + v.v5) % 4294967296, (h.v6 + v.v6) % 4294967296, (h.v7 + v.v7) % 4294967296⟩
def shBlock (X : List UInt8) (h : Sh) : Sh := shSum h (shTurns (shW X 64) h 64)
def sh0 : Sh := ⟨1779033703, 3144134277, 1013904242, 2773480762, 1359893119, 2600822924, 528734635, 1541459225⟩
def shTo (T : List UInt8) : Nat → Sh
  | 0 => sh0
  | k + 1 => shBlock (T.drop (64 * k)) (shTo T k)
def Sh.list (s : Sh) : List Int := [s.v0, s.v1, s.v2, s.v3, s.v4, s.v5, s.v6, s.v7]
/-- sum.SHA256 -/
def shaL (l : List UInt8) : List UInt8 := sumTextL false (shTo (padL false l) ((padL false l).length / 64)).list
def ShOut (T : ByteArray) (g : Nat) (w : World) (t : Value) (wr : World) : Prop := ∃ k : Nat, 64 * k ≤ T.size ∧ t = .string (T.extract (64 * k) T.size) ∧ ShIs wr g (shTo T.data.toList k) ∧ Fr noB w wr
/-- block g: the words so far, and zeros -/
def WsAt (w : World) (g : Nat) (l : List Int) : Prop := w.heap[g]? = some (.cells ((l ++ List.replicate (64 - l.length) 0).map (Value.int .u32)).toArray 188 (0, 0))
end Go.Proofs.YtkoobhgedoanhaaGreatDoor

namespace Go.Proofs.YtkoobhgedoanhaaGreatDoor
open Go.RowKit

theorem strsAt_new (w : World) (t : TypeId) (ss : List ByteArray) (hl : ss.length ≤ maxLen) : StrsAt (w.alloc (.cells (ss.map Value.string).toArray t)) (.slice (some ⟨w.heap.size, 0, none⟩) ss.length ss.length) ss := by
  refine Or.inr ⟨w.heap.size, 0, ss.length, rfl, Nat.le_refl _, hl, by simp, fun j x hj => ?_⟩
  rw [Nat.zero_add]
  simp only [World.cell?, new_block]
  simp [hj]
/-- texts, with colons between -/
def textsL (ss : List ByteArray) : List UInt8 := Lib.join (ss.map (·.data.toList)) [58]
/-- proof.hash -/
def hashB (sha : Bool) (ss : List ByteArray) : ByteArray := if sha then ⟨(shaL (textsL ss)).toArray⟩ else ⟨(md5L (textsL ss)).toArray⟩
theorem md5_len (l : List UInt8) : (md5L l).length = 32 := by unfold md5L sumTextL; rw [hexL_len, wordsBy_len]; rfl
theorem sha_len (l : List UInt8) : (shaL l).length = 64 := by unfold shaL sumTextL; rw [hexL_len, wordsBy_len]; rfl
theorem hashB_size (sha : Bool) (ss : List ByteArray) : (hashB sha ss).size ≤ 64 := by
  unfold hashB
  cases sha
  · show (md5L _).toArray.size ≤ 64; simp [md5_len]
  · show (shaL _).toArray.size ≤ 64; simp [sha_len]
/-- hash's contract at a scheme, behind w -/
def HashOk (sch : Int) (w : World) : Prop := ∀ (v : Value) (ss : List ByteArray) (W : World), Fr noB w W → StrsAt W v ss → ss.length ≤ 100000 → (textsL ss).length ≤ 100000 →
    Calls Tryz.prog 60 #[.int .i64 sch, v] W fun e w' => e = .returned (.string (hashB (decide (sch = 3)) ss)) ∧ Fr noB W w'
theorem HashOk.fr {sch : Int} {w w' : World} (h : HashOk sch w) (hf : Fr noB w w') : HashOk sch w' := fun v ss W hW => h v ss W (hf.trans hW)
theorem join_any (v : Value) (ss : List ByteArray) (w : World) (hv : StrsAt w v ss) (hn : ss.length ≤ 100000) (hlen : (textsL ss).length ≤ 100000) :
    Calls Tryz.prog 72 #[v, .string ⟨#[58]⟩] w fun e w' => e = .returned (.string ⟨(textsL ss).toArray⟩) ∧ Fr noB w w' := by
  rcases hv with ⟨a, c, rfl, rfl, _⟩ | ⟨bk, o, c, rfl, h1, h2, h3, h4⟩
  · exact (Tryz.strings_Join_none _ _ _ _).mono (by rintro e w1 ⟨rfl, rfl⟩; exact ⟨rfl, Fr.refl _ _⟩)
  · exact (Tryz.strings_Join bk o c ss ⟨#[58]⟩ w h4 h3 (by omega) h1 (by unfold textsL at hlen; show (Lib.join _ [58]).length ≤ _; omega)).mono (by rintro e w1 ⟨rfl, hb⟩; exact ⟨rfl, Fr.of_below hb⟩)
set_option maxHeartbeats 1000000 in
theorem hash_md (sch : Int) (h3 : sch ≠ 3) (w : World) (ht : MdTabs w) : HashOk sch w := by
  intro v ss W hW hv hn hlen
  have hT := Lib.hid (ht.fr hW)
  clear ht
  have HJ := Lib.hid (join_any v ss W hv hn hlen)
  clear hv
  have hz : (⟨(textsL ss).toArray⟩ : ByteArray).size < 4398046511104 := by show (textsL ss).toArray.size < _; simp; omega
  have HB := Lib.hid (show hashB (decide (sch = 3)) ss = ⟨(md5L (textsL ss)).toArray⟩ from by rw [decide_eq_false h3]; rfl)
  generalize textsL ss = tx at *
  clear hW
  go_enter Tryz.func60, Tryz.ntmps60
  go_wp2_with fail
  refine HJ.out.mono ?_
  rintro e u1 ⟨rfl, hf1⟩
  go_wp2_with fail
  refine (MD5_any ⟨tx.toArray⟩ u1 hz (hT.out.fr hf1)).mono ?_
  rintro e u2 ⟨rfl, hf2⟩
  go_wp2
  go_ret
  exact ⟨(congrArg (fun b => Ending.returned (.string b)) HB.out).symm, hf1.trans hf2⟩
end Go.Proofs.YtkoobhgedoanhaaGreatDoor

namespace Go.Proofs.YtkoobhgedoanhaaGreatDoor
open Go.RowKit

theorem laid_at {P : Program} {W : World} {x : String × DataW Unit} : ∀ {laid : List (String × DataW Unit)}, laidMet P laid W → x ∈ laid → ∃ r, laidMet P (x :: r) W
  | y :: l, h, hm => by
    rcases List.mem_cons.1 hm with rfl | hm
    · exact ⟨l, h⟩
    · exact laid_at (laidMet.tail h) hm
theorem tabIs_laid {P : Program} {W : World} {laid : List (String × DataW Unit)} {name : String} {k : IntKind} {zs : List Int} {g : Nat} {t e : TypeId} {n : Nat}
    (h : laidMet P laid W) (hm : (name, Lib.tabData k zs) ∈ laid)
    (hg : P.globalNamed name = some g) (hty : (P.globals[g]?).map (·.type) = some t) (ht : P.underlying t = some (.array n e)) (he : P.underlying e = some (.int k)) (hce : P.cellsOf e = 1) (hct : P.cellsOf t = n) : Lib.TabIs P W name k zs := by
  obtain ⟨r, hr⟩ := laid_at h hm
  exact Lib.tabIs_of_head hg hty ht he hce hct hr
theorem cell_lt {w : World} {g i : Nat} {v : Value} (h : w.cell? ⟨g, i, none⟩ = some v) : g < w.heap.size := by
  cases hb : w.heap[g]? with
  | none => simp [World.cell?, hb] at h
  | some o => exact lt_of_some hb
theorem tabAt_of {P : Program} {W : World} {name : String} {k : IntKind} {zs : List Int} {g : Nat} (hT : Lib.TabIs P W name k zs) (hg : P.globalNamed name = some g) (hz : 0 < zs.length) : TabAt W g k zs := by
  have hc : ∀ (i : Nat) z, zs[i]? = some z → W.cell? ⟨g, i, none⟩ = some (.int k z) := fun i z hi => by
    obtain ⟨hl, he⟩ := List.getElem?_eq_some_iff.1 hi
    rw [hT.cell hg i hl, List.getD_eq_getElem?_getD, hi]; rfl
  exact ⟨cell_lt (hc 0 _ (List.getElem?_eq_getElem hz)), hc⟩
theorem MdTabs_laid {W : World} {laid : List (String × DataW Unit)} (h : laidMet Tryz.prog laid W) (hm : ("gatepost/api.Sines", Lib.tabData .u32 sinesL) ∈ laid ∧ ("gatepost/sum.turns", Lib.tabData .i64 (turnsL.map Int.ofNat)) ∈ laid) : MdTabs W :=
  ⟨tabAt_of (tabIs_laid h hm.1 (g := 3) (by kernel_rfl) (by kernel_rfl) Tryz.underlying188 Tryz.underlying185 (by kernel_rfl) (by kernel_rfl)) (by kernel_rfl) (by decide),
   tabAt_of (tabIs_laid h hm.2 (g := 4) (by kernel_rfl) (by kernel_rfl) Tryz.underlying194 Tryz.underlying3 (by kernel_rfl) (by kernel_rfl)) (by kernel_rfl) (by decide)⟩
theorem ShTabs_laid {W : World} {laid : List (String × DataW Unit)} (h : laidMet Tryz.prog laid W) (hm : ("gatepost/api.Roots", Lib.tabData .u32 rootsL) ∈ laid ∧ ("gatepost/api.Begin", Lib.tabData .u32 beginL) ∈ laid) : ShTabs W :=
  ⟨tabAt_of (tabIs_laid h hm.1 (g := 2) (by kernel_rfl) (by kernel_rfl) Tryz.underlying188 Tryz.underlying185 (by kernel_rfl) (by kernel_rfl)) (by kernel_rfl) (by decide),
   tabAt_of (tabIs_laid h hm.2 (g := 1) (by kernel_rfl) (by kernel_rfl) Tryz.underlying186 Tryz.underlying185 (by kernel_rfl) (by kernel_rfl)) (by kernel_rfl) (by decide)⟩
end Go.Proofs.YtkoobhgedoanhaaGreatDoor
