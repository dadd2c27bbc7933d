/- Package sum: MD5. -/
import Derived.Test.YtghimbpihmehoaaDoorSum2
import Derived.Lib.LaidTab
namespace Go.Proofs.YtghimbpihmehoaaDoor
open Go.RowKit

def sinesL : List Int := [3614090360, 3905402710, 606105819, 3250441966, 4118548399, 1200080426, 2821735955, 4249261313, 1770035416, 2336552879, 4294925233, 2304563134, 1804603682, 4254626195, 2792965006, 1236535329, 4129170786, 3225465664, 643717713, 3921069994, 3593408605, 38016083, 3634488961, 3889429448, 568446438, 3275163606, 4107603335, 1163531501, 2850285829, 4243563512, 1735328473, 2368359562, 4294588738, 2272392833, 1839030562, 4259657740, 2763975236, 1272893353, 4139469664, 3200236656, 681279174, 3936430074, 3572445317, 76029189, 3654602809, 3873151461, 530742520, 3299628645, 4096336452, 1126891415, 2878612391, 4237533241, 1700485571, 2399980690, 4293915773, 2240044497, 1873313359, 4264355552, 2734768916, 1309151649, 4149444226, 3174756917, 718787259, 3951481745]
def turnsL : List Nat := [7, 12, 17, 22, 5, 9, 14, 20, 4, 11, 16, 23, 6, 10, 15, 21]
/-- a package's table: block g -/
def TabAt (w : World) (g : Nat) (k : IntKind) (zs : List Int) : Prop := g < w.heap.size ∧ ∀ (i : Nat) z, zs[i]? = some z → w.cell? ⟨g, i, none⟩ = some (.int k z)
theorem TabAt.fr {w w' : World} {g : Nat} {k : IntKind} {zs : List Int} (h : TabAt w g k zs) (hf : Fr noB w w') : TabAt w' g k zs :=
  ⟨Nat.lt_of_lt_of_le h.1 hf.size, fun i z hz => (hf.cell (p := ⟨g, i, none⟩) h.1 (fun h => h)).trans (h.2 i z hz)⟩
structure MdTabs (w : World) : Prop where
  s : TabAt w 0 .u32 sinesL
  t : TabAt w 1 .i64 (turnsL.map Int.ofNat)
theorem MdTabs.fr {w w' : World} (h : MdTabs w) (hf : Fr noB w w') : MdTabs w' := ⟨h.s.fr hf, h.t.fr hf⟩

structure Md where
  a : Int
  b : Int
  c : Int
  d : Int
def Md.ok (s : Md) : Prop := (0 ≤ s.a ∧ s.a < 4294967296) ∧ (0 ≤ s.b ∧ s.b < 4294967296) ∧ (0 ≤ s.c ∧ s.c < 4294967296) ∧ (0 ≤ s.d ∧ s.d < 4294967296)
def notI (x : Int) : Int := bits .xor .u32 IntKind.u32.max x
def mdF (r : Nat) (b c d : Int) : Int := match r with
  | 0 => bits .or .u32 (bits .and .u32 b c) (bits .and .u32 (notI b) d)
  | 1 => bits .or .u32 (bits .and .u32 d b) (bits .and .u32 (notI d) c)
  | 2 => bits .xor .u32 (bits .xor .u32 b c) d
  | _ => bits .xor .u32 c (bits .or .u32 b (notI d))
def mdG (r k : Nat) : Nat := match r with
  | 0 => k
  | 1 => (5 * k + 1) % 16
  | 2 => (3 * k + 5) % 16
  | _ => 7 * k % 16
/-- one of the 64 turns -/
def mdStep (X : List UInt8) (k : Nat) (s : Md) : Md :=
  ⟨s.d, (s.b + rotI ((mdF (k / 16) s.b s.c s.d + (s.a + sinesL.getD k 0 + wordL true (X.drop (4 * mdG (k / 16) k)))) % 4294967296) (turnsL.getD (k / 16 * 4 + k % 4) 0)) % 4294967296, s.b, s.c⟩
def mdTurns (X : List UInt8) (h : Md) : Nat → Md
  | 0 => h
  | k + 1 => mdStep X k (mdTurns X h k)
def mdBlock (X : List UInt8) (h : Md) : Md :=
  ⟨(h.a + (mdTurns X h 64).a) % 4294967296, (h.b + (mdTurns X h 64).b) % 4294967296, (h.c + (mdTurns X h 64).c) % 4294967296, (h.d + (mdTurns X h 64).d) % 4294967296⟩
def md0 : Md := ⟨1732584193, 4023233417, 2562383102, 271733878⟩
def mdTo (T : List UInt8) : Nat → Md
  | 0 => md0
  | k + 1 => mdBlock (T.drop (64 * k)) (mdTo T k)
def Md.list (s : Md) : List Int := [s.a, s.b, s.c, s.d]
/-- sum.MD5 -/
def md5L (l : List UInt8) : List UInt8 := sumTextL true (mdTo (padL true l) ((padL true l).length / 64)).list
theorem mod_ok (x : Int) : 0 ≤ x % 4294967296 ∧ x % 4294967296 < 4294967296 := ⟨Int.emod_nonneg _ (by decide), Int.emod_lt_of_pos _ (by decide)⟩
theorem mdStep_ok {X : List UInt8} {k : Nat} {s : Md} (h : s.ok) : (mdStep X k s).ok := ⟨h.2.2.2, mod_ok _, h.2.1, h.2.2.1⟩
theorem mdTurns_ok {X : List UInt8} {h : Md} (ho : h.ok) : ∀ k, (mdTurns X h k).ok
  | 0 => ho
  | k + 1 => mdStep_ok (mdTurns_ok ho k)
theorem mdBlock_ok (X : List UInt8) (h : Md) : (mdBlock X h).ok := ⟨mod_ok _, mod_ok _, mod_ok _, mod_ok _⟩
theorem md0_ok : md0.ok := by unfold Md.ok md0; decide
theorem mdTo_ok (T : List UInt8) : ∀ k, (mdTo T k).ok
  | 0 => md0_ok
  | _ + 1 => mdBlock_ok _ _
theorem turns_ok : ∀ i : Fin 16, bits .and .u64 ((turnsL.getD i.val 0 : Nat) : Int) 31 = ((turnsL.getD i.val 0 : Nat) : Int) ∧ turnsL.getD i.val 0 < 32 := by decide +kernel
theorem padL_len (little : Bool) (l : List UInt8) : (padL little l).length % 64 = 0 ∧ (padL little l).length ≤ l.length + 128 := by
  unfold padL
  simp only [List.length_append, List.length_replicate, lenL_len, List.length_cons, List.length_nil]
  omega
theorem cut_list (T : ByteArray) (i : Nat) : (T.extract i T.size).data.toList = T.data.toList.drop i := by
  rw [Lib.extract_data, List.take_of_length_le (by simp)]
theorem cut_size (T : ByteArray) (i : Nat) : (T.extract i T.size).size = T.size - i := by
  have h : (T.extract i T.size).data.toList.length = (T.extract i T.size).size := rfl
  rw [← h, cut_list, List.length_drop]; simp
theorem cut_cut (T : ByteArray) (i j : Nat) : (T.extract i T.size).extract j (T.extract i T.size).size = T.extract (i + j) T.size := by
  apply Go.WideShapes.bytes_inj
  rw [cut_list, cut_list, cut_list, List.drop_drop]

theorem set_heap {w : World} {b : Nat} {cur : Array Value} {t : TypeId} {f : Nat × Nat} (h : w.heap[b]? = some (.cells cur t f)) (o : Nat) (v : Value) : (w.setCell ⟨b, o, none⟩ v).heap[b]? = some (.cells (cur.setIfInBounds o v) t f) := by
  simp [World.setCell, Array.getElem?_modify, h]
def MdIs (w : World) (g : Nat) (h : Md) : Prop := w.heap[g]? = some (.cells #[.int .u32 h.a, .int .u32 h.b, .int .u32 h.c, .int .u32 h.d] 89 (0, 0))
def MdOut (T : ByteArray) (g : Nat) (w : World) (t : Value) (wr : World) : Prop := ∃ k : Nat, 64 * k ≤ T.size ∧ t = .string (T.extract (64 * k) T.size) ∧ MdIs wr g (mdTo T.data.toList k) ∧ Fr noB w wr
def MdIn (X : List UInt8) (h : Md) (g : Nat) (w : World) (a b c d i : Value) (wr : World) : Prop :=
  ∃ k : Nat, k ≤ 64 ∧ i = .int .i64 k ∧ a = .int .u32 (mdTurns X h k).a ∧ b = .int .u32 (mdTurns X h k).b ∧ c = .int .u32 (mdTurns X h k).c ∧ d = .int .u32 (mdTurns X h k).d ∧ MdIs wr g h ∧ Fr noB w wr

set_option maxRecDepth 100000 in
set_option maxHeartbeats 16000000 in
theorem MD5_any (s : ByteArray) (w : World) (hs : s.size < 4398046511104) (ht : MdTabs w) :
    Calls Tryd.prog 21 #[.string s] w fun e w' => e = .returned (.string ⟨(md5L s.data.toList).toArray⟩) ∧ Fr noB w w' := by
  have hfa : Fr noB w (w.alloc (.cells #[.int .u32 1732584193, .int .u32 4023233417, .int .u32 2562383102, .int .u32 271733878] 89)) := (Fr.refl noB w).alloc _
  have hm0 : MdIs (w.alloc (.cells #[.int .u32 1732584193, .int .u32 4023233417, .int .u32 2562383102, .int .u32 271733878] 89)) w.heap.size md0 := new_block _ _
  have HM0 := Lib.hid hm0
  clear hm0
  go_enter Tryd.func21, Tryd.ntmps21
  go_wp2_with fail
  refine (pad_any s true _ (by omega)).mono ?_
  rintro e w1 ⟨rfl, hf1⟩
  obtain ⟨T, hT⟩ : ∃ T, T = (⟨(padL true s.data.toList).toArray⟩ : ByteArray) := ⟨_, rfl⟩
  rw [← hT]
  have hTl : T.data.toList = padL true s.data.toList := by rw [hT]
  have hTs : T.size = (padL true s.data.toList).length := by rw [← hTl]; simp
  obtain ⟨hp64, hple⟩ := padL_len true s.data.toList
  rw [← hTs] at hp64 hple
  have hsl : s.data.toList.length = s.size := by simp
  rw [hsl] at hple
  have HFIN := Lib.hid (show md5L s.data.toList = sumTextL true (mdTo T.data.toList (T.size / 64)).list by unfold md5L; rw [hTl, hTs])
  have HM1 := Lib.hid (show MdIs w1 w.heap.size md0 from hf1.keep HM0.out (fun h => h))
  have HF1 := Lib.hid (hfa.trans hf1)
  clear hT hTl hTs HM0 hfa hf1 hsl
  go_wp2
  go_loopw [4] (MdOut T w.heap.size w) (fun t _ => match t with | .string x => x.size | _ => 0)
  case atStart => exact ⟨0, by omega, by rw [Nat.mul_zero]; congr 1; apply Go.WideShapes.bytes_inj; rw [cut_list]; rfl, HM1.out, HF1.out⟩
  case round =>
    obtain ⟨n, hn, rfl, hm, hfr⟩ := hrel
    by_cases hne : 64 * n < T.size
    · have hXs : 64 ≤ (T.extract (64 * n) T.size).size := by rw [cut_size]; omega
      have hXs2 : (T.extract (64 * n) T.size).size < 17592186044416 := by rw [cut_size]; omega
      have hnx := Lib.hid (cut_cut T (64 * n) 64)
      have hXl := Lib.hid (cut_list T (64 * n))
      have hXm := Lib.hid (cut_size T (64 * n))
      generalize T.extract (64 * n) T.size = X at *
      have hx : X.toList.isEmpty = false := by
        rw [ByteArray.toList_eq]
        cases hq : X.data.toList with
        | nil => rw [byteArray_nil.1 hq] at hXs; omega
        | cons a l => rfl
      have hx' : ¬ X.toList = [] := by rw [ByteArray.toList_eq]; intro h; rw [byteArray_nil.1 h] at hXs; omega
      have HM := Lib.hid hm
      have h0 : wr.cell? ⟨w.heap.size, 0, none⟩ = some (.int .u32 (mdTo T.data.toList n).a) := by unfold MdIs at hm; simp [World.cell?, hm]
      have h1 : wr.cell? ⟨w.heap.size, 1, none⟩ = some (.int .u32 (mdTo T.data.toList n).b) := by unfold MdIs at hm; simp [World.cell?, hm]
      have h2 : wr.cell? ⟨w.heap.size, 2, none⟩ = some (.int .u32 (mdTo T.data.toList n).c) := by unfold MdIs at hm; simp [World.cell?, hm]
      have h3 : wr.cell? ⟨w.heap.size, 3, none⟩ = some (.int .u32 (mdTo T.data.toList n).d) := by unfold MdIs at hm; simp [World.cell?, hm]
      have hblk := Lib.hid (show mdTo T.data.toList (n + 1) = mdBlock X.data.toList (mdTo T.data.toList n) by rw [hXl.out]; rfl)
      have hok := Lib.hid (mdTo_ok T.data.toList n)
      generalize mdTo T.data.toList n = H at *
      clear hm
      go_wp2
      go_quiet (fail)
      clear h0 h1 h2 h3
      go_wp2
      go_loopw [5, 6, 7, 8, 27] (MdIn X.data.toList H w.heap.size w) (fun _ _ _ _ i _ => 64 - (intOf i).toNat)
      case atStart => exact ⟨0, by omega, rfl, rfl, rfl, rfl, rfl, by exact HM.out, by first | exact hfr | exact hfr.drewN _⟩
      case round =>
        obtain ⟨k, hk, rfl, rfl, rfl, rfl, rfl, hm, hfr2⟩ := hrel
        obtain ⟨⟨a0, a1⟩, ⟨b0, b1⟩, ⟨c0, c1⟩, ⟨d0, d1⟩⟩ := mdTurns_ok (X := X.data.toList) hok.out k
        have HM2 := Lib.hid hm
        have HSN := Lib.hid (show mdTurns X.data.toList H (k + 1) = mdStep X.data.toList k (mdTurns X.data.toList H k) from rfl)
        have H64 := Lib.hid (show k = 64 → mdBlock X.data.toList H = ⟨(H.a + (mdTurns X.data.toList H k).a) % 4294967296, (H.b + (mdTurns X.data.toList H k).b) % 4294967296, (H.c + (mdTurns X.data.toList H k).c) % 4294967296, (H.d + (mdTurns X.data.toList H k).d) % 4294967296⟩ from fun h => by subst h; rfl)
        generalize mdTurns X.data.toList H k = M at *
        clear hm
        by_cases hk4 : k < 64
        · have hk64 : (k : Int) < 64 := by omega
          obtain ⟨z, hz⟩ : ∃ z, sinesL[k]? = some z := ⟨_, List.getElem?_eq_getElem (by show k < 64; omega)⟩
          have hsin := Lib.hid ((ht.fr hfr2).s.2 k z hz)
          have hzd := Lib.hid (show sinesL.getD k 0 = z by rw [List.getD_eq_getElem?_getD, hz]; rfl)
          obtain ⟨m, hmm⟩ : ∃ m : Nat, (k : Int) % 4 = (m : Int) := ⟨k % 4, by omega⟩
          have hm4 : m < 4 := by omega
          have hkm := Lib.hid (show k % 4 = m by omega)
          clear hz
          by_cases hr0 : k < 16
          · have e1 : (k : Int) / 16 = 0 := by omega
            have hk16 := Lib.hid (show k / 16 = 0 by omega)
            have hmg := Lib.hid (show mdG (k / 16) k = k by rw [hk16.out]; rfl)
            obtain ⟨wv, hwv⟩ : ∃ wv, wv = wordL true (X.extract (4 * k) X.size).data.toList := ⟨_, rfl⟩
            have HWORD := Lib.hid (fun W => word_any (X.extract (4 * k) X.size) true W (by rw [cut_size]; omega) (by rw [cut_size]; omega))
            rw [← hwv] at HWORD
            have HWV := Lib.hid (show wordL true (X.data.toList.drop (4 * mdG (k / 16) k)) = wv by rw [hmg.out, hwv, cut_list])
            clear hwv
            go_wp2
            have hw4 : IntKind.i64.wrap (4 * (k : Int)) = 4 * (k : Int) := IntWalk.i64_in _ (by omega)
            have q0 : (0 : Int) ≤ (k : Int) := by omega
            have q1 : (0 : Int) ≤ 4 * (k : Int) := by omega
            have q2 : 4 * (k : Int) ≤ (X.size : Int) := by omega
            have q3 : 4 * k ≤ X.size := by omega
            have q4 : (4 * (k : Int)).toNat = 4 * k := by omega
            have hsin' := hsin.out
            go_quiet ((go_at_call 68; exact Calls.quiet_of (HWORD.out _)))
            clear hw4 q0 q1 q2 q3 q4 hsin'
            obtain ⟨z2, hz2⟩ : ∃ z2, turnsL[m]? = some z2 := ⟨_, List.getElem?_eq_getElem (by show m < 16; omega)⟩
            have htu := (ht.fr (hfr2.drewN nq)).t.2 (m) (z2 : Int) (by rw [List.getElem?_map, hz2]; rfl)
            have hzt := Lib.hid (show turnsL.getD (k / 16 * 4 + k % 4) 0 = z2 by rw [hk16.out, hkm.out, show 0 * 4 + m = m from by omega, List.getD_eq_getElem?_getD, hz2]; rfl)
            obtain ⟨hb2, hz32⟩ : bits .and .u64 (z2 : Int) 31 = (z2 : Int) ∧ z2 < 32 := by have h := turns_ok ⟨m, by omega⟩; simp only [List.getD_eq_getElem?_getD, hz2, Option.getD_some] at h; exact h
            clear hz2
            have m0 : (m : Int) < 4 := by omega
            have HM3 := Lib.hid (show MdIs (wr.drewN nq) w.heap.size H from HM2.out)
            have hfr3 := hfr2.drewN nq
            generalize wr.drewN nq = wd at *
            go_wp2_with fail
            refine (rot_any _ (z2 : Int) z2 wd (by omega) (by omega) hb2 hz32).mono ?_
            rintro e w5 ⟨rfl, rfl⟩
            have HST := Lib.hid (show mdStep X.data.toList k M = ⟨M.d, (M.b + rotI ((mdF 0 M.b M.c M.d + (M.a + z + wv)) % 4294967296) z2) % 4294967296, M.b, M.c⟩ by unfold mdStep; rw [hzd.out, hzt.out, HWV.out, hk16.out])
            clear htu hb2
            go_wp2
            go_roundw
            case rel => exact ⟨k + 1, by omega, by go_num, by rw [HSN.out, HST.out], by rw [HSN.out, HST.out]; rfl, by rw [HSN.out, HST.out], by rw [HSN.out, HST.out], HM3.out, hfr3⟩
            case measure => simp [intOf]; omega
          · by_cases hr1 : k < 32
            · have e1 : (k : Int) / 16 = 1 := by omega
              have hk16 := Lib.hid (show k / 16 = 1 by omega)
              obtain ⟨gg, hgg⟩ : ∃ gg : Nat, gg = (5 * k + 1) % 16 := ⟨_, rfl⟩
              have hg16 : gg < 16 := by omega
              have hgi : (5 * (k : Int) + 1) % 16 = (gg : Int) := by omega
              have hmg := Lib.hid (show mdG (k / 16) k = gg by rw [hk16.out, hgg]; rfl)
              obtain ⟨wv, hwv⟩ : ∃ wv, wv = wordL true (X.extract (4 * gg) X.size).data.toList := ⟨_, rfl⟩
              have HWORD := Lib.hid (fun W => word_any (X.extract (4 * gg) X.size) true W (by rw [cut_size]; omega) (by rw [cut_size]; omega))
              rw [← hwv] at HWORD
              have HWV := Lib.hid (show wordL true (X.data.toList.drop (4 * mdG (k / 16) k)) = wv by rw [hmg.out, hwv, cut_list])
              clear hwv hgg
              go_wp2
              have hw4 : IntKind.i64.wrap (4 * (gg : Int)) = 4 * (gg : Int) := IntWalk.i64_in _ (by omega)
              have q0 : (0 : Int) ≤ (k : Int) := by omega
              have q1 : (0 : Int) ≤ 4 * (gg : Int) := by omega
              have q2 : 4 * (gg : Int) ≤ (X.size : Int) := by omega
              have q3 : 4 * gg ≤ X.size := by omega
              have q4 : (4 * (gg : Int)).toNat = 4 * gg := by omega
              have hsin' := hsin.out
              go_quiet ((go_at_call 68; exact Calls.quiet_of (HWORD.out _)))
              clear hw4 q0 q1 q2 q3 q4 hsin'
              obtain ⟨z2, hz2⟩ : ∃ z2, turnsL[4 + m]? = some z2 := ⟨_, List.getElem?_eq_getElem (by show 4 + m < 16; omega)⟩
              have htu := (ht.fr (hfr2.drewN nq)).t.2 (4 + m) (z2 : Int) (by rw [List.getElem?_map, hz2]; rfl)
              have hzt := Lib.hid (show turnsL.getD (k / 16 * 4 + k % 4) 0 = z2 by rw [hk16.out, hkm.out, show 1 * 4 + m = 4 + m from by omega, List.getD_eq_getElem?_getD, hz2]; rfl)
              obtain ⟨hb2, hz32⟩ : bits .and .u64 (z2 : Int) 31 = (z2 : Int) ∧ z2 < 32 := by have h := turns_ok ⟨4 + m, by omega⟩; simp only [List.getD_eq_getElem?_getD, hz2, Option.getD_some] at h; exact h
              clear hz2
              have m0 : (m : Int) < 4 := by omega
              have HM3 := Lib.hid (show MdIs (wr.drewN nq) w.heap.size H from HM2.out)
              have hfr3 := hfr2.drewN nq
              generalize wr.drewN nq = wd at *
              go_wp2_with fail
              refine (rot_any _ (z2 : Int) z2 wd (by omega) (by omega) hb2 hz32).mono ?_
              rintro e w5 ⟨rfl, rfl⟩
              have HST := Lib.hid (show mdStep X.data.toList k M = ⟨M.d, (M.b + rotI ((mdF 1 M.b M.c M.d + (M.a + z + wv)) % 4294967296) z2) % 4294967296, M.b, M.c⟩ by unfold mdStep; rw [hzd.out, hzt.out, HWV.out, hk16.out])
              clear htu hb2
              go_wp2
              go_roundw
              case rel => exact ⟨k + 1, by omega, by go_num, by rw [HSN.out, HST.out], by rw [HSN.out, HST.out]; rfl, by rw [HSN.out, HST.out], by rw [HSN.out, HST.out], HM3.out, hfr3⟩
              case measure => simp [intOf]; omega
            · by_cases hr2 : k < 48
              · have e1 : (k : Int) / 16 = 2 := by omega
                have hk16 := Lib.hid (show k / 16 = 2 by omega)
                obtain ⟨gg, hgg⟩ : ∃ gg : Nat, gg = (3 * k + 5) % 16 := ⟨_, rfl⟩
                have hg16 : gg < 16 := by omega
                have hgi : (3 * (k : Int) + 5) % 16 = (gg : Int) := by omega
                have hmg := Lib.hid (show mdG (k / 16) k = gg by rw [hk16.out, hgg]; rfl)
                obtain ⟨wv, hwv⟩ : ∃ wv, wv = wordL true (X.extract (4 * gg) X.size).data.toList := ⟨_, rfl⟩
                have HWORD := Lib.hid (fun W => word_any (X.extract (4 * gg) X.size) true W (by rw [cut_size]; omega) (by rw [cut_size]; omega))
                rw [← hwv] at HWORD
                have HWV := Lib.hid (show wordL true (X.data.toList.drop (4 * mdG (k / 16) k)) = wv by rw [hmg.out, hwv, cut_list])
                clear hwv hgg
                go_wp2
                have hw4 : IntKind.i64.wrap (4 * (gg : Int)) = 4 * (gg : Int) := IntWalk.i64_in _ (by omega)
                have q0 : (0 : Int) ≤ (k : Int) := by omega
                have q1 : (0 : Int) ≤ 4 * (gg : Int) := by omega
                have q2 : 4 * (gg : Int) ≤ (X.size : Int) := by omega
                have q3 : 4 * gg ≤ X.size := by omega
                have q4 : (4 * (gg : Int)).toNat = 4 * gg := by omega
                have hsin' := hsin.out
                go_quiet ((go_at_call 68; exact Calls.quiet_of (HWORD.out _)))
                clear hw4 q0 q1 q2 q3 q4 hsin'
                obtain ⟨z2, hz2⟩ : ∃ z2, turnsL[8 + m]? = some z2 := ⟨_, List.getElem?_eq_getElem (by show 8 + m < 16; omega)⟩
                have htu := (ht.fr (hfr2.drewN nq)).t.2 (8 + m) (z2 : Int) (by rw [List.getElem?_map, hz2]; rfl)
                have hzt := Lib.hid (show turnsL.getD (k / 16 * 4 + k % 4) 0 = z2 by rw [hk16.out, hkm.out, show 2 * 4 + m = 8 + m from by omega, List.getD_eq_getElem?_getD, hz2]; rfl)
                obtain ⟨hb2, hz32⟩ : bits .and .u64 (z2 : Int) 31 = (z2 : Int) ∧ z2 < 32 := by have h := turns_ok ⟨8 + m, by omega⟩; simp only [List.getD_eq_getElem?_getD, hz2, Option.getD_some] at h; exact h
                clear hz2
                have m0 : (m : Int) < 4 := by omega
                have HM3 := Lib.hid (show MdIs (wr.drewN nq) w.heap.size H from HM2.out)
                have hfr3 := hfr2.drewN nq
                generalize wr.drewN nq = wd at *
                go_wp2_with fail
                refine (rot_any _ (z2 : Int) z2 wd (by omega) (by omega) hb2 hz32).mono ?_
                rintro e w5 ⟨rfl, rfl⟩
                have HST := Lib.hid (show mdStep X.data.toList k M = ⟨M.d, (M.b + rotI ((mdF 2 M.b M.c M.d + (M.a + z + wv)) % 4294967296) z2) % 4294967296, M.b, M.c⟩ by unfold mdStep; rw [hzd.out, hzt.out, HWV.out, hk16.out])
                clear htu hb2
                go_wp2
                go_roundw
                case rel => exact ⟨k + 1, by omega, by go_num, by rw [HSN.out, HST.out], by rw [HSN.out, HST.out]; rfl, by rw [HSN.out, HST.out], by rw [HSN.out, HST.out], HM3.out, hfr3⟩
                case measure => simp [intOf]; omega
              · have e1 : (k : Int) / 16 = 3 := by omega
                have hk16 := Lib.hid (show k / 16 = 3 by omega)
                obtain ⟨gg, hgg⟩ : ∃ gg : Nat, gg = 7 * k % 16 := ⟨_, rfl⟩
                have hg16 : gg < 16 := by omega
                have hgi : 7 * (k : Int) % 16 = (gg : Int) := by omega
                have hmg := Lib.hid (show mdG (k / 16) k = gg by rw [hk16.out, hgg]; rfl)
                obtain ⟨wv, hwv⟩ : ∃ wv, wv = wordL true (X.extract (4 * gg) X.size).data.toList := ⟨_, rfl⟩
                have HWORD := Lib.hid (fun W => word_any (X.extract (4 * gg) X.size) true W (by rw [cut_size]; omega) (by rw [cut_size]; omega))
                rw [← hwv] at HWORD
                have HWV := Lib.hid (show wordL true (X.data.toList.drop (4 * mdG (k / 16) k)) = wv by rw [hmg.out, hwv, cut_list])
                clear hwv hgg
                go_wp2
                have hw4 : IntKind.i64.wrap (4 * (gg : Int)) = 4 * (gg : Int) := IntWalk.i64_in _ (by omega)
                have q0 : (0 : Int) ≤ (k : Int) := by omega
                have q1 : (0 : Int) ≤ 4 * (gg : Int) := by omega
                have q2 : 4 * (gg : Int) ≤ (X.size : Int) := by omega
                have q3 : 4 * gg ≤ X.size := by omega
                have q4 : (4 * (gg : Int)).toNat = 4 * gg := by omega
                have hsin' := hsin.out
                go_quiet ((go_at_call 68; exact Calls.quiet_of (HWORD.out _)))
                clear hw4 q0 q1 q2 q3 q4 hsin'
                obtain ⟨z2, hz2⟩ : ∃ z2, turnsL[12 + m]? = some z2 := ⟨_, List.getElem?_eq_getElem (by show 12 + m < 16; omega)⟩
                have htu := (ht.fr (hfr2.drewN nq)).t.2 (12 + m) (z2 : Int) (by rw [List.getElem?_map, hz2]; rfl)
                have hzt := Lib.hid (show turnsL.getD (k / 16 * 4 + k % 4) 0 = z2 by rw [hk16.out, hkm.out, show 3 * 4 + m = 12 + m from by omega, List.getD_eq_getElem?_getD, hz2]; rfl)
                obtain ⟨hb2, hz32⟩ : bits .and .u64 (z2 : Int) 31 = (z2 : Int) ∧ z2 < 32 := by have h := turns_ok ⟨12 + m, by omega⟩; simp only [List.getD_eq_getElem?_getD, hz2, Option.getD_some] at h; exact h
                clear hz2
                have m0 : (m : Int) < 4 := by omega
                have HM3 := Lib.hid (show MdIs (wr.drewN nq) w.heap.size H from HM2.out)
                have hfr3 := hfr2.drewN nq
                generalize wr.drewN nq = wd at *
                go_wp2_with fail
                refine (rot_any _ (z2 : Int) z2 wd (by omega) (by omega) hb2 hz32).mono ?_
                rintro e w5 ⟨rfl, rfl⟩
                have HST := Lib.hid (show mdStep X.data.toList k M = ⟨M.d, (M.b + rotI ((mdF 3 M.b M.c M.d + (M.a + z + wv)) % 4294967296) z2) % 4294967296, M.b, M.c⟩ by unfold mdStep; rw [hzd.out, hzt.out, HWV.out, hk16.out])
                clear htu hb2
                go_wp2
                go_roundw
                case rel => exact ⟨k + 1, by omega, by go_num, by rw [HSN.out, HST.out], by rw [HSN.out, HST.out]; rfl, by rw [HSN.out, HST.out], by rw [HSN.out, HST.out], HM3.out, hfr3⟩
                case measure => simp [intOf]; omega
        · have hk5 : k = 64 := by omega
          subst hk5
          have hmm2 := HM2.out
          have h0 : wr.cell? ⟨w.heap.size, 0, none⟩ = some (.int .u32 H.a) := by unfold MdIs at hmm2; simp [World.cell?, hmm2]
          have h1 : wr.cell? ⟨w.heap.size, 1, none⟩ = some (.int .u32 H.b) := by unfold MdIs at hmm2; simp [World.cell?, hmm2]
          have h2 : wr.cell? ⟨w.heap.size, 2, none⟩ = some (.int .u32 H.c) := by unfold MdIs at hmm2; simp [World.cell?, hmm2]
          have h3 : wr.cell? ⟨w.heap.size, 3, none⟩ = some (.int .u32 H.d) := by unfold MdIs at hmm2; simp [World.cell?, hmm2]
          have f0 : wr.frozen? ⟨w.heap.size, 0, none⟩ = false := by unfold MdIs at hmm2; simp [World.frozen?, hmm2]
          have f1 : wr.frozen? ⟨w.heap.size, 1, none⟩ = false := by unfold MdIs at hmm2; simp [World.frozen?, hmm2]
          have f2 : wr.frozen? ⟨w.heap.size, 2, none⟩ = false := by unfold MdIs at hmm2; simp [World.frozen?, hmm2]
          have f3 : wr.frozen? ⟨w.heap.size, 3, none⟩ = false := by unfold MdIs at hmm2; simp [World.frozen?, hmm2]
          clear hmm2
          have hi64 : (64 : Int) ≤ (X.size : Int) := by omega
          go_wp2
          have hb0 : wr.heap[w.heap.size]? = some (.cells #[.int .u32 H.a, .int .u32 H.b, .int .u32 H.c, .int .u32 H.d] 89 (0, 0)) := HM2.out
          have hb1 := set_heap hb0 0 (.int .u32 ((H.a + M.a) % 4294967296))
          have hb2 := set_heap hb1 1 (.int .u32 ((H.b + M.b) % 4294967296))
          have hb3 := set_heap hb2 2 (.int .u32 ((H.c + M.c) % 4294967296))
          have hb4 := set_heap hb3 3 (.int .u32 ((H.d + M.d) % 4294967296))
          refine ⟨⟨n + 1, by omega, ?_, ?_, (((hfr2.setNew (p := ⟨w.heap.size, 0, none⟩) (Nat.le_refl _) _).setNew (p := ⟨w.heap.size, 1, none⟩) (Nat.le_refl _) _).setNew (p := ⟨w.heap.size, 2, none⟩) (Nat.le_refl _) _).setNew (p := ⟨w.heap.size, 3, none⟩) (Nat.le_refl _) _⟩, ?_⟩
          · rw [hnx.out]; rfl
          · rw [hblk.out, H64.out rfl]; exact hb4
          · show (X.extract 64 X.size).size < X.size
            rw [cut_size]; omega
    · have hn2 : 64 * n = T.size := by omega
      have he : (T.extract (64 * n) T.size) = ⟨#[]⟩ := by apply Go.WideShapes.bytes_inj; rw [cut_list, List.drop_eq_nil_of_le (by simp; omega)]
      rw [he]
      have hfin2 := Lib.hid (show mdTo T.data.toList (T.size / 64) = mdTo T.data.toList n by rw [← hn2]; congr 1; omega)
      have hok := mdTo_ok T.data.toList n
      generalize mdTo T.data.toList n = H at *
      have HM := Lib.hid hm
      have TX := Lib.hid (sumText_any w.heap.size H.list true wr (by show 4 ≤ 8; omega) (lt_of_some hm) (fun j x hj => by
        unfold MdIs at hm
        match j, hj with
        | 0, hj => simp [Md.list] at hj; subst hj; simp [World.cell?, hm]
        | 1, hj => simp [Md.list] at hj; subst hj; simp [World.cell?, hm]
        | 2, hj => simp [Md.list] at hj; subst hj; simp [World.cell?, hm]
        | 3, hj => simp [Md.list] at hj; subst hj; simp [World.cell?, hm]
        | j + 4, hj => simp [Md.list] at hj) (fun x hx => by
        simp only [Md.list, List.mem_cons, List.not_mem_nil, or_false] at hx
        obtain ⟨p0, p1, p2, p3⟩ := hok
        rcases hx with rfl | rfl | rfl | rfl <;> assumption))
      clear hm hok
      go_wp2_with fail
      refine TX.out.mono ?_
      rintro e w5 ⟨rfl, hf5⟩
      go_wp2
      go_ret
      exact ⟨by rw [HFIN.out, hfin2.out]; rfl, hfr.trans hf5⟩
end Go.Proofs.YtghimbpihmehoaaDoor
