/- strings.Builder: WriteByte and String, laid by hand at this translation (the panic of the copy check lies as a refusal here, so that the laying's tool finds no use of two types). Walks: coding.Hex. Walks: coding.Unhex. Walks: coding.Base64. Walks: coding.Unbase64. Walks: the fact coded. -/
import Derived.Test.YtegbacpenolehaaDoorBytes
import Derived.Test.YtegbacpenolehaaDoorShelf
import Derived.Shelf.Strings.Builder1
import Derived.Shelf.Strings.Builder2
import Derived.Shelf.Lays
import Derived.Test.YtegbacpenolehaaDoorLower
namespace Go.Proofs.YtegbacpenolehaaDoor
open Go.RowKit

def wbRen : Go.Shelf.Ren := ⟨fun | 167 => 165 | 240 => 176 | 276 => 198 | n => n, fun | 70 => 183 | 9 => 9 | 72 => 185 | 37 => 157 | 164 => 165 | 20 => 20 | 75 => 43 | 80 => 179 | 5 => 5 | 79 => 201 | n => n, fun | n => n⟩
theorem wbLays : Go.Proofs.Lays.n167 Tryd.prog wbRen := {
  mixed := by kernel_rfl
  f167 := Tryd.func165.trans (congrArg some (by kernel_rfl))
  f240 := Tryd.func176.trans (congrArg some (by kernel_rfl))
  f276 := Tryd.func198.trans (congrArg some (by kernel_rfl))
  t0 := Tryd.underlying0
  a0 := Tryd.isAgg0
  z0 := Tryd.sizeOf0
  v0 := Tryd.zeroValue0
  t4 := Tryd.underlying4
  a4 := Tryd.isAgg4
  z4 := Tryd.sizeOf4
  v4 := Tryd.zeroValue4
  t5 := Tryd.underlying5
  a5 := Tryd.isAgg5
  z5 := Tryd.sizeOf5
  v5 := Tryd.zeroValue5
  t9 := Tryd.underlying9
  a9 := Tryd.isAgg9
  z9 := Tryd.sizeOf9
  v9 := Tryd.zeroValue9
  t20 := Tryd.underlying20
  a20 := Tryd.isAgg20
  z20 := Tryd.sizeOf20
  v20 := Tryd.zeroValue20
  t37 := Tryd.underlying157
  a37 := Tryd.isAgg157
  z37 := Tryd.sizeOf157
  v37 := Tryd.zeroValue157
  t70 := Tryd.underlying183
  a70 := Tryd.isAgg183
  z70 := Tryd.sizeOf183
  v70 := Tryd.zeroValue183
  t72 := Tryd.underlying185
  a72 := Tryd.isAgg185
  z72 := Tryd.sizeOf185
  v72 := Tryd.zeroValue185
  t75 := Tryd.underlying43
  a75 := Tryd.isAgg43
  z75 := Tryd.sizeOf43
  v75 := Tryd.zeroValue43
  t164 := Tryd.underlying165
  a164 := Tryd.isAgg165
  z164 := Tryd.sizeOf165
  v164 := Tryd.zeroValue165 }
theorem wbExtra : Builder.Extra Tryd.prog wbRen := {
  sizeBuilder := by kernel_rfl
  liesBuilder := by kernel_rfl
  t5 := Tryd.underlying5
  a5 := Tryd.isAgg5
  z5 := Tryd.sizeOf5
  v5 := Tryd.zeroValue5
  infoByte := by kernel_rfl
  cellsByte := by kernel_rfl
  sizeByte := by kernel_rfl
  neB5 := by decide }

/-- a builder that holds the bytes l -/
def Bld (B b : Nat) (l : List UInt8) (w : World) : Prop := Lib.IsBuilder 185 5 B b (u8s l) w

/-- (*strings.Builder).WriteByte, under Go's own limit -/
theorem WriteByte_any (B b : Nat) (l : List UInt8) (c : UInt8) (w : World) (h : Bld B b l w) (hlen : l.length + 1 ≤ 140737488355328) (hBw : B ≤ w.heap.size) :
    Calls Tryd.prog 165 #[.pointer (some ⟨b, 0, none⟩), .int .u8 c.toNat] w fun e w' => e = .returned .nilIface ∧ Bld B b (l ++ [c]) w' ∧ Below B w w' :=
  (Any.Builder_WriteByte wbLays wbExtra B b (u8s l) c.toNat w h (by rw [u8s_length]; exact hlen) hBw).mono fun e w' ⟨he, hb, hw⟩ => ⟨he, by unfold Bld; rw [u8s_snoc]; exact Or.inr hb, hw⟩

/-- (*strings.Builder).String -/
theorem BString_any (B b : Nat) (l : List UInt8) (w : World) (h : Bld B b l w) (hBw : B ≤ w.heap.size) :
    Calls Tryd.prog 146 #[.pointer (some ⟨b, 0, none⟩)] w fun e w' => e = .returned (.string ⟨l.toArray⟩) ∧ Below B w w' :=
  Tryd.Builder_String_any B b l w h hBw

theorem Fr.thenBelow {S : Nat → Prop} {a w w' : World} (h : Fr S a w) (g : Below a.heap.size w w') : Fr S a w' :=
  h.step (Fr.ofBelow (S := fun k => a.heap.size ≤ k) g (fun _ _ h => h)) (fun k hk hT => absurd hT (by omega))
theorem Bld.new (w : World) : Bld w.heap.size w.heap.size [] (w.alloc (.cells #[.pointer none, .slice none 0 0] 185)) :=
  Or.inl ⟨Nat.le_refl _, _, new_block w _, World.ownsRow_nil _ _ _ _, by simp [Value.ownBlock]⟩
end Go.Proofs.YtegbacpenolehaaDoor

namespace Go.Proofs.YtegbacpenolehaaDoor
open Go.RowKit

/-- a small hexadecimal digit -/
def digB (n : UInt8) : UInt8 := if n < 10 then n + 48 else n + 87
def hexL (l : List UInt8) : List UInt8 := l.flatMap fun (c : UInt8) => [digB (c >>> 4), digB (c &&& 15)]
theorem hexL_len (l : List UInt8) : (hexL l).length = 2 * l.length := by
  unfold hexL
  induction l with
  | nil => rfl
  | cons c l ih => simp at ih ⊢; omega
theorem hexL_app (l m : List UInt8) : hexL (l ++ m) = hexL l ++ hexL m := by unfold hexL; exact List.flatMap_append
theorem hexL_snoc (s : ByteArray) (k : Nat) (hk : k < s.size) : hexL (s.data.toList.take (k + 1)) = hexL (s.data.toList.take k) ++ [digB (s[k] >>> 4), digB (s[k] &&& 15)] := by
  rw [List.take_add_one, byte_at s k hk, hexL_app]; rfl

theorem smallAt : ∀ n (h : n < 16), (⟨#[48, 49, 50, 51, 52, 53, 54, 55, 56, 57, 97, 98, 99, 100, 101, 102]⟩ : ByteArray)[n]'h = digB n.toUInt8 := by decide
theorem shr4 (c : UInt8) : (c.toNat / 16).toUInt8 = c >>> 4 := by
  apply UInt8.toNat_inj.1
  have := c.toNat_lt
  simp [UInt8.toNat_shiftRight, Nat.shiftRight_eq_div_pow]
  omega
theorem and15 (c : UInt8) : (c.toNat % 16).toUInt8 = c &&& 15 := by
  apply UInt8.toNat_inj.1
  have := c.toNat_lt
  have h := Nat.and_two_pow_sub_one_eq_mod c.toNat 4
  simp [UInt8.toNat_and] at h ⊢
  omega

def HexRel (w : World) (s : ByteArray) (i : Value) (wr : World) : Prop :=
  ∃ k : Nat, k ≤ s.size ∧ i = .int .i64 k ∧ Bld w.heap.size w.heap.size (hexL (s.data.toList.take k)) wr ∧ Fr noB w wr ∧ w.heap.size ≤ wr.heap.size
set_option maxRecDepth 100000 in
set_option maxHeartbeats 2000000 in
theorem Hex_any (s : ByteArray) (w : World) (hs : s.size < 4398046511104) :
    Calls Tryd.prog 121 #[.string s] w fun e w' => e = .returned (.string ⟨(hexL s.data.toList).toArray⟩) ∧ Fr noB w w' := by
  go_enter Tryd.func121, Tryd.ntmps121
  go_wp2
  go_loopw [7] (HexRel w s) (fun i _ => s.size - (intOf i).toNat)
  case atStart => exact ⟨0, Nat.zero_le _, rfl, Bld.new w, (Fr.refl _ _).alloc _, by simp⟩
  case round =>
    obtain ⟨k, hk, rfl, hb, hf, hz⟩ := hrel
    by_cases hks : k < s.size
    · have hki : (k : Int) < (s.size : Int) := by omega
      have hq1 : 0 ≤ (s[k].toNat : Int) / 16 ∧ (s[k].toNat : Int) / 16 < 16 := by have := s[k].toNat_lt; omega
      have hlen : (hexL (s.data.toList.take k)).length ≤ 2 * k := by rw [hexL_len, List.length_take]; omega
      go_wp2_with fail
      rw [smallAt, shr4]
      refine (WriteByte_any _ _ _ _ wr hb (by omega) hz).mono ?_
      rintro e w1 ⟨rfl, hb1, hf1⟩
      have hz1 := hf1.size
      go_wp2_with fail
      rw [smallAt, and15]
      refine (WriteByte_any _ _ _ _ w1 hb1 (by rw [List.length_append]; simp; omega) (by omega)).mono ?_
      rintro e w2 ⟨rfl, hb2, hf2⟩
      have hz2 := hf2.size
      have hsn := Lib.hid (hexL_snoc s k hks)
      rw [List.append_assoc] at hb2
      have HB2 : Bld w.heap.size w.heap.size (hexL (s.data.toList.take (k + 1))) w2 := by rw [hsn.out]; exact hb2
      clear hb hb1 hb2
      go_wp2
      go_roundw
      case rel => exact ⟨k + 1, by omega, by go_num, HB2, (hf.thenBelow hf1).thenBelow hf2, by omega⟩
      case measure => simp [intOf]; omega
    · have hki : ¬ (k : Int) < (s.size : Int) := by omega
      have hk2 : k = s.size := by omega
      have hfin := Lib.hid (show s.data.toList.take k = s.data.toList from List.take_of_length_le (by rw [hk2]; exact Nat.le_refl _))
      go_wp2_with fail
      refine (BString_any _ _ _ wr hb hz).mono ?_
      rintro e w1 ⟨rfl, hf1⟩
      rw [hfin.out]
      go_wp2
      go_ret
      exact ⟨rfl, hf.thenBelow hf1⟩
end Go.Proofs.YtegbacpenolehaaDoor

namespace Go.Proofs.YtegbacpenolehaaDoor
open Go.RowKit

/-- the number that a small hexadecimal digit is -/
def nibB (c : UInt8) : Option UInt8 := if 48 ≤ c ∧ c ≤ 57 then some (c - 48) else if 97 ≤ c ∧ c ≤ 102 then some (c - 87) else none
def smallL : List UInt8 := [48, 49, 50, 51, 52, 53, 54, 55, 56, 57, 97, 98, 99, 100, 101, 102]
def nibI (c : UInt8) : Int := match nibB c with | some n => (n.toNat : Int) | none => -1
theorem nib_all : ∀ n : Fin 256, Lib.indexByte smallL n.val.toUInt8 = nibI n.val.toUInt8 := by decide +kernel
theorem nib_at (c : UInt8) : Lib.indexByte smallL c = nibI c := by
  have h := nib_all ⟨c.toNat, c.toNat_lt⟩
  simpa using h
theorem nib_lt_all : ∀ n : Fin 256, ∀ m, nibB n.val.toUInt8 = some m → m < 16 := by decide +kernel
theorem nib_lt {c m : UInt8} (h : nibB c = some m) : m.toNat < 16 := by
  have h1 := nib_lt_all ⟨c.toNat, c.toNat_lt⟩ m (by simpa using h)
  exact UInt8.lt_iff_toNat_lt.1 h1

theorem Idx_any (c : UInt8) (w : World) :
    Calls Tryd.prog 164 #[.string ⟨#[48, 49, 50, 51, 52, 53, 54, 55, 56, 57, 97, 98, 99, 100, 101, 102]⟩, .int .u8 c.toNat] w fun e w' => e = .returned (.int .i64 (nibI c)) ∧ w = w' :=
  (Tryd.strings_IndexByte ⟨#[48, 49, 50, 51, 52, 53, 54, 55, 56, 57, 97, 98, 99, 100, 101, 102]⟩ c.toNat w).mono fun e w' ⟨he, hw⟩ => ⟨by
    have hc : ((c.toNat : Int).toNat.toUInt8) = c := by simp
    rw [hc] at he
    rw [he, ← nib_at]; rfl, hw.symm⟩

theorem nibI_none {c : UInt8} (h : nibB c = none) : nibI c = -1 := by unfold nibI; rw [h]
theorem nibI_some {c m : UInt8} (h : nibB c = some m) : nibI c = (m.toNat : Int) := by unfold nibI; rw [h]
theorem drop2 (s : ByteArray) (k : Nat) (h : k + 1 < s.size) : s.data.toList.drop k = s[k]'(by omega) :: s[k + 1] :: s.data.toList.drop (k + 2) := by
  have h1 : k < s.data.toList.length := by show k < s.size; omega
  have h2 : k + 1 < s.data.toList.length := h
  rw [List.drop_eq_getElem_cons h1, List.drop_eq_getElem_cons h2]
  rfl

def unhexL : List UInt8 → Option (List UInt8)
  | [] => some []
  | [_] => none
  | a :: c :: r => match nibB a, nibB c with
    | some x, some y => (unhexL r).map ((x * 16 + y) :: ·)
    | _, _ => none

theorem unhexL_cons2 (a c : UInt8) (r : List UInt8) : unhexL (a :: c :: r) = match nibB a, nibB c with
    | some x, some y => (unhexL r).map ((x * 16 + y) :: ·)
    | _, _ => none := rfl
theorem or_all : ∀ x y : Fin 16, bits BinOp.or IntKind.i64 ((x.val : Int) * 16) (y.val : Int) % 256 = ((x.val.toUInt8 * 16 + y.val.toUInt8).toNat : Int) := by decide +kernel
theorem or_nib {x y : UInt8} (hx : x.toNat < 16) (hy : y.toNat < 16) : bits BinOp.or IntKind.i64 ((x.toNat : Int) * 16) (y.toNat : Int) % 256 = ((x * 16 + y).toNat : Int) := by
  have h := or_all ⟨x.toNat, hx⟩ ⟨y.toNat, hy⟩
  simpa using h
/-- what Unhex hands back -/
def UnhexPost (s : ByteArray) (w : World) (e : Ending) (w' : World) : Prop :=
  Fr noB w w' ∧ match unhexL s.data.toList with
    | some l => e = .returned (.tuple #[.string ⟨l.toArray⟩, .nilIface])
    | none => e = .returned (.tuple #[.string ⟨#[]⟩, .iface 46 (.int .i64 3)])

def UnhexRel (w : World) (s : ByteArray) (i : Value) (wr : World) : Prop :=
  ∃ (k : Nat) (acc : List UInt8), k ≤ s.size ∧ i = .int .i64 k ∧ 2 * acc.length = k ∧ unhexL s.data.toList = (unhexL (s.data.toList.drop k)).map (acc ++ ·) ∧ Bld w.heap.size w.heap.size acc wr ∧ Fr noB w wr ∧ w.heap.size ≤ wr.heap.size

theorem unhex_odd : ∀ (l : List UInt8), l.length % 2 = 1 → unhexL l = none
  | [], h => by simp at h
  | [_], _ => rfl
  | a :: c :: r, h => by
    have ih := unhex_odd r (by simp at h; omega)
    unfold unhexL
    rw [ih]
    split <;> rfl

set_option maxRecDepth 100000 in
set_option maxHeartbeats 2000000 in
theorem Unhex_any (s : ByteArray) (w : World) (hs : s.size < 4398046511104) :
    Calls Tryd.prog 119 #[.string s] w (UnhexPost s w) := by
  by_cases hodd : s.size % 2 = 1
  · have ho : (s.size : Int) % 2 = 1 := by omega
    have hn := unhex_odd s.data.toList hodd
    go_enter Tryd.func119, Tryd.ntmps119
    go_wp2
    go_ret2
    unfold UnhexPost
    rw [hn]
    exact ⟨Fr.refl _ _, rfl⟩
  · have ho : ((s.size : Int) % 2 == 1) = false := by rw [beq_eq_false_iff_ne]; omega
    go_enter Tryd.func119, Tryd.ntmps119
    go_wp2
    go_loopw [5] (UnhexRel w s) (fun i _ => s.size - (intOf i).toNat)
    case atStart => exact ⟨0, [], by omega, rfl, by simp, by simp, Bld.new w, (Fr.refl _ _).alloc _, by simp⟩
    case round =>
      obtain ⟨k, acc, hk, rfl, hal, hun, hb, hf, hz⟩ := hrel
      have HUN := Lib.hid hun
      clear hun
      by_cases hks : k < s.size
      · have hki : (k : Int) < (s.size : Int) := by omega
        have hks1 : k + 1 < s.size := by omega
        have hki1 : (k : Int) + 1 < (s.size : Int) := by omega
        have hk0 : 0 ≤ (k : Int) + 1 := by omega
        have hwr : IntKind.i64.wrap ((k : Int) + 1) = (k : Int) + 1 := by rw [IntWalk.i64_left]; exact IntWalk.wrap64_in _ (by omega)
        go_wp2_with fail
        go_quiet ((go_at_call 164; exact quiet_eq (Idx_any _ _)))
        have hdr := Lib.hid (drop2 s k hks1)
        cases hx : nibB s[k] with
        | none =>
          rw [nibI_none hx]
          have hfin : unhexL s.data.toList = none := by rw [HUN.out, hdr.out, unhexL_cons2, hx]; rfl
          go_wp2_with fail
          go_ret2
          unfold UnhexPost
          rw [hfin]
          exact ⟨hf.drewN _, rfl⟩
        | some x =>
          rw [nibI_some hx]
          have hx0 : decide ((x.toNat : Int) < 0) = false := by simp
          cases hy : nibB s[k + 1] with
          | none =>
            rw [nibI_none hy]
            have hfin : unhexL s.data.toList = none := by rw [HUN.out, hdr.out, unhexL_cons2, hx, hy]; rfl
            go_wp2_with fail
            go_ret2
            unfold UnhexPost
            rw [hfin]
            exact ⟨hf.drewN _, rfl⟩
          | some y =>
            rw [nibI_some hy]
            have hy0 : decide ((y.toNat : Int) < 0) = false := by simp
            have hxl := nib_lt hx
            have hyl := nib_lt hy
            have hstep : unhexL s.data.toList = (unhexL (s.data.toList.drop (k + 2))).map ((acc ++ [x * 16 + y]) ++ ·) := by
              rw [HUN.out, hdr.out, unhexL_cons2, hx, hy]; simp only [Option.map_map]; congr 1; funext t; simp
            go_wp2_with fail
            rw [or_nib hxl hyl]
            have hdn := hf.drewN nq
            refine (WriteByte_any _ _ _ _ (wr.drewN nq) hb (by omega) hz).mono ?_
            rintro e w1 ⟨rfl, hb1, hf1⟩
            have hz1 : w.heap.size ≤ w1.heap.size := Nat.le_trans hz hf1.size
            have HST := Lib.hid hstep
            clear hstep hb
            go_wp2
            go_roundw
            case rel => exact ⟨k + 2, acc ++ [x * 16 + y], by omega, by go_num, by simp; omega, HST.out, hb1, hdn.thenBelow hf1, hz1⟩
            case measure => simp [intOf]; omega
      · have hki : ¬ (k : Int) < (s.size : Int) := by omega
        have hfin : unhexL s.data.toList = some acc := by rw [HUN.out, List.drop_eq_nil_of_le (show s.data.toList.length ≤ k by show s.size ≤ k; omega)]; simp [unhexL]
        go_wp2_with fail
        refine (BString_any _ _ _ wr hb hz).mono ?_
        rintro e w1 ⟨rfl, hf1⟩
        go_wp2
        go_ret2
        unfold UnhexPost
        rw [hfin]
        exact ⟨hf.thenBelow hf1, rfl⟩
end Go.Proofs.YtegbacpenolehaaDoor

namespace Go.Proofs.YtegbacpenolehaaDoor
open Go.RowKit

/-- a letter of base 64 -/
def letB (n : Nat) : UInt8 := if n < 26 then (n + 65).toUInt8 else if n < 52 then (n + 71).toUInt8 else if n < 62 then (n - 4).toUInt8 else if n = 62 then 43 else 47
def val3 (a b c : UInt8) : Nat := a.toNat * 65536 + b.toNat * 256 + c.toNat
def sixB (v i : Nat) : UInt8 := letB (v / 2 ^ (18 - 6 * i) % 64)
def b64L : List UInt8 → List UInt8
  | [] => []
  | [a] => [sixB (val3 a 0 0) 0, sixB (val3 a 0 0) 1, 61, 61]
  | [a, b] => [sixB (val3 a b 0) 0, sixB (val3 a b 0) 1, sixB (val3 a b 0) 2, 61]
  | a :: b :: c :: r => sixB (val3 a b c) 0 :: sixB (val3 a b c) 1 :: sixB (val3 a b c) 2 :: sixB (val3 a b c) 3 :: b64L r

/-- the first k bytes (noughts behind the last) as one number -/
def vpart (l : List UInt8) : Nat → Nat
  | 0 => 0
  | k + 1 => vpart l k * 256 + (l.getD k 0).toNat
theorem vpart_lt (l : List UInt8) : ∀ k, vpart l k < 256 ^ k
  | 0 => by simp [vpart]
  | k + 1 => by
    have h := vpart_lt l k
    have h2 := (l.getD k 0).toNat_lt
    rw [vpart, Nat.pow_succ]
    omega
theorem or_low (v x : Nat) (hv : v < 4294967296) (hx : x < 256) : bits .or .i64 ((v : Int) * 256) (x : Int) = ((v * 256 + x : Nat) : Int) := by
  have hm : ((v : Int) * 256) = ((v * 256 : Nat) : Int) := by omega
  rw [hm]
  have h1 : (BitVec.ofInt 64 ((v * 256 : Nat) : Int)).toNat = v * 256 := by
    rw [BitVec.ofInt_natCast, BitVec.toNat_ofNat]; exact Nat.mod_eq_of_lt (by omega)
  have h2 : (BitVec.ofInt 64 (x : Int)).toNat = x := by
    rw [BitVec.ofInt_natCast, BitVec.toNat_ofNat]; exact Nat.mod_eq_of_lt (by omega)
  show IntKind.i64.wrap ((BitVec.ofInt 64 ((v * 256 : Nat) : Int) ||| BitVec.ofInt 64 (x : Int)).toNat : Int) = _
  have h3 : v * 256 ||| x = v * 256 + x := by
    have h := Nat.shiftLeft_add_eq_or_of_lt (show x < 2 ^ 8 from hx) v
    rw [Nat.shiftLeft_eq] at h
    exact h.symm
  rw [BitVec.toNat_or, h1, h2, h3, IntWalk.i64_left]
  exact IntWalk.wrap64_in _ (by omega)
theorem vpart_at (r : ByteArray) (k : Nat) (h : k < r.size) : vpart r.data.toList (k + 1) = vpart r.data.toList k * 256 + r[k].toNat := by
  rw [vpart, List.getD_eq_getElem?_getD, byte_at r k h]; rfl
theorem vpart_off (r : ByteArray) (k : Nat) (h : ¬ k < r.size) : vpart r.data.toList (k + 1) = vpart r.data.toList k * 256 := by
  rw [vpart, List.getD_eq_getElem?_getD, byte_off r k h]; simp only [Option.getD_none]; exact Nat.add_zero _
theorem vpart_val (r : ByteArray) : vpart r.data.toList 3 = val3 (r.data.toList.getD 0 0) (r.data.toList.getD 1 0) (r.data.toList.getD 2 0) := by
  show ((0 * 256 + _) * 256 + _) * 256 + _ = _ * 65536 + _ * 256 + _
  rw [Nat.zero_mul, Nat.zero_add, Nat.add_mul, Nat.mul_assoc]
def outL (v n : Nat) : List UInt8 := [sixB v 0, sixB v 1, if 2 ≤ n then sixB v 2 else 61, if 3 ≤ n then sixB v 3 else 61]
def O4Rel (w : World) (acc : List UInt8) (v n : Nat) (i : Value) (wr : World) : Prop :=
  ∃ k : Nat, k ≤ 4 ∧ i = .int .i64 k ∧ Bld w.heap.size w.heap.size (acc ++ (outL v n).take k) wr ∧ Fr noB w wr ∧ w.heap.size ≤ wr.heap.size
set_option maxRecDepth 100000 in
theorem letterAt : ∀ n (h : n < 64), (⟨#[65, 66, 67, 68, 69, 70, 71, 72, 73, 74, 75, 76, 77, 78, 79, 80, 81, 82, 83, 84, 85, 86, 87, 88, 89, 90, 97, 98, 99, 100, 101, 102, 103, 104, 105, 106, 107, 108, 109, 110, 111, 112, 113, 114, 115, 116, 117, 118, 119, 120, 121, 122, 48, 49, 50, 51, 52, 53, 54, 55, 56, 57, 43, 47]⟩ : ByteArray)[n]'h = letB n := by decide +kernel
theorem and63 (v i : Nat) (hv : v < 16777216) : ∃ m : Nat, m < 64 ∧ letB m = sixB v i ∧ bits .and .i64 ((v / 2 ^ (18 - 6 * i) : Nat) : Int) 63 = (m : Int) := by
  refine ⟨v / 2 ^ (18 - 6 * i) % 64, Nat.mod_lt _ (by decide), rfl, ?_⟩
  have hx : v / 2 ^ (18 - 6 * i) < 16777216 := Nat.lt_of_le_of_lt (Nat.div_le_self _ _) hv
  generalize v / 2 ^ (18 - 6 * i) = x at hx
  have h1 : (BitVec.ofInt 64 (x : Int)).toNat = x := by
    rw [BitVec.ofInt_natCast, BitVec.toNat_ofNat]; exact Nat.mod_eq_of_lt (by omega)
  have h2 : (BitVec.ofInt 64 63).toNat = 63 := by decide
  show IntKind.i64.wrap ((BitVec.ofInt 64 (x : Int) &&& BitVec.ofInt 64 63).toNat : Int) = _
  rw [BitVec.toNat_and, h1, h2, Nat.and_two_pow_sub_one_eq_mod x 6, IntWalk.i64_left]
  exact IntWalk.wrap64_in _ (by omega)
theorem ext_list (r : ByteArray) (n : Nat) : (r.extract n r.size).data.toList = r.data.toList.drop n := by
  rw [ByteArray.data_extract, Array.toList_extract]
  show (r.data.toList.drop n).take (r.data.toList.length - n) = _
  rw [List.take_of_length_le (by simp)]
theorem b64L_list : ∀ (l : List UInt8) (n : Nat), 0 < n → n ≤ 3 → n ≤ l.length → (n < 3 → n = l.length) →
    b64L l = outL (val3 (l.getD 0 0) (l.getD 1 0) (l.getD 2 0)) n ++ b64L (l.drop n)
  | [], n, h0, _, hl, _ => by simp at hl; omega
  | [a], n, h0, _, hl, _ => by
    obtain rfl : n = 1 := by simp at hl; omega
    rfl
  | [a, b], n, h0, _, hl, h => by
    obtain rfl : n = 2 := by simp at hl h; omega
    rfl
  | a :: b :: c :: t, n, h0, h3, hl, h => by
    obtain rfl : n = 3 := by simp at hl h; omega
    rfl
theorem b64L_step (r : ByteArray) (v n : Nat) (hn0 : 0 < n) (hn3 : n ≤ 3) (hnr : n ≤ r.size) (hnk : n < 3 → n = r.size) (hv : v = val3 (r.data.toList.getD 0 0) (r.data.toList.getD 1 0) (r.data.toList.getD 2 0)) :
    b64L r.data.toList = outL v n ++ b64L (r.extract n r.size).data.toList := by
  rw [ext_list, hv]
  exact b64L_list _ n hn0 hn3 hnr hnk
theorem ext_size (r : ByteArray) (n : Nat) : (r.extract n r.size).size = r.size - n := by
  have h : (r.extract n r.size).data.toList.length = (r.data.toList.drop n).length := by rw [ext_list]
  rw [List.length_drop] at h
  exact h
def V3Rel (r : ByteArray) (w0 : World) (v i : Value) (wr : World) : Prop :=
  ∃ k : Nat, k ≤ 3 ∧ i = .int .i64 k ∧ v = .int .i64 (vpart r.data.toList k) ∧ wr = w0
def B64Rel (w : World) (s : ByteArray) (v : Value) (wr : World) : Prop :=
  ∃ (r : ByteArray) (acc : List UInt8), r.size ≤ s.size ∧ v = .string r ∧ acc.length ≤ 4 * (s.size - r.size) ∧ b64L s.data.toList = acc ++ b64L r.data.toList ∧ Bld w.heap.size w.heap.size acc wr ∧ Fr noB w wr ∧ w.heap.size ≤ wr.heap.size
def lenOf : Value → Nat
  | .string r => r.size
  | _ => 0
set_option maxRecDepth 100000 in
set_option maxHeartbeats 4000000 in
theorem Base64_any (s : ByteArray) (w : World) (hs : s.size < 4398046511104) :
    Calls Tryd.prog 122 #[.string s] w fun e w' => e = .returned (.string ⟨(b64L s.data.toList).toArray⟩) ∧ Fr noB w w' := by
  go_enter Tryd.func122, Tryd.ntmps122
  go_wp2
  go_loopw [0] (B64Rel w s) (fun v _ => lenOf v)
  case atStart => exact ⟨s, [], Nat.le_refl _, rfl, by simp, by simp, Bld.new w, (Fr.refl _ _).alloc _, by simp⟩
  case round =>
    obtain ⟨r, acc, hr, rfl, hal, hun, hb, hf, hz⟩ := hrel
    have HUN := Lib.hid hun
    clear hun
    by_cases hr0 : 0 < r.size
    · have hri : (0 : Int) < (r.size : Int) := by omega
      obtain ⟨n, hn0, hn3, hnr, hni, hnk⟩ : ∃ n : Nat, 0 < n ∧ n ≤ 3 ∧ n ≤ r.size ∧ min (3 : Int) (r.size : Int) = (n : Int) ∧ (n < 3 → n = r.size) := ⟨min 3 r.size, by omega, by omega, by omega, by omega, by omega⟩
      go_wp2_with fail
      go_loopw [5, 14] (V3Rel r wr) (fun _ i _ => 3 - (intOf i).toNat)
      case atStart => exact ⟨0, by omega, rfl, rfl, rfl⟩
      case round =>
        obtain ⟨k, hk, rfl, rfl, rfl⟩ := hrel
        by_cases hk3 : k < 3
        · have hki : (k : Int) < 3 := by omega
          have hvb := vpart_lt r.data.toList k
          have hvb2 : vpart r.data.toList k < 65536 := Nat.lt_of_lt_of_le hvb (Nat.le_trans (Nat.pow_le_pow_right (by omega) (show k ≤ 2 by omega)) (by decide))
          have hshl : ¬ (9223372036854775807 : Int) < (vpart r.data.toList k : Int) * 256 := by omega
          by_cases hkn : k < n
          · have hkn' : (k : Int) < (n : Int) := by omega
            have hkr' : k < r.size := by omega
            have hkr : (k : Int) < (r.size : Int) := by omega
            have hst := Lib.hid (vpart_at r k hkr')
            have hxl := r[k].toNat_lt
            go_wp2_with fail
            refine ⟨⟨k + 1, by omega, by go_num, ?_, rfl⟩, by simp [intOf]; omega⟩
            rw [or_low _ _ (Nat.lt_trans hvb2 (by decide)) hxl, hst.out]
          · have hkn' : ¬ (k : Int) < (n : Int) := by omega
            have hst := Lib.hid (vpart_off r k (by omega))
            go_wp2_with fail
            refine ⟨⟨k + 1, by omega, by go_num, ?_, rfl⟩, by simp [intOf]; omega⟩
            rw [hst.out]; rfl
        · have hki : ¬ (k : Int) < 3 := by omega
          have hk' : k = 3 := by omega
          subst hk'
          have hvb := vpart_lt r.data.toList 3
          have hvv := Lib.hid (vpart_val r)
          generalize vpart r.data.toList 3 = v at hvb hvv
          go_wp2_with fail
          go_loopw [29] (O4Rel w acc v n) (fun i _ => 4 - (intOf i).toNat)
          case atStart => exact ⟨0, by omega, rfl, by simpa using hb, hf, hz⟩
          case round =>
            obtain ⟨k, hk, rfl, hb1, hf1, hz1⟩ := hrel
            have hlo : ∀ j, (acc ++ (outL v n).take j).length ≤ 4 * s.size + 4 := by intro j; rw [List.length_append, List.length_take]; show _ + min j 4 ≤ _; omega
            match k, hk, hb1 with
            | 0, _, hb1 =>
              obtain ⟨m, hm, hl, hband⟩ := and63 v 0 hvb
              rw [show (((v / 2 ^ (18 - 6 * 0) : Nat) : Int)) = (v : Int) / 262144 from by omega] at hband
              have hkn : (0 : Int) ≤ (n : Int) := by omega
              have hq : (0 : Int) ≤ (m : Int) ∧ (m : Int) < 64 := by omega
              go_wp2_with fail
              rw [letterAt m hm, hl]
              refine (WriteByte_any _ _ _ (sixB v 0) wr hb1 (by have := hlo 0; omega) hz1).mono ?_
              rintro e w2 ⟨rfl, hb2, hf2⟩
              have hz2 : w.heap.size ≤ w2.heap.size := Nat.le_trans hz1 hf2.size
              have HB2 : Bld w.heap.size w.heap.size (acc ++ (outL v n).take (0 + 1)) w2 := by
                have e : (outL v n).take (0 + 1) = (outL v n).take 0 ++ [(sixB v 0)] := by simp [outL, *]
                rw [e, ← List.append_assoc]; exact hb2
              clear hb1 hb2
              go_wp2
              go_roundw
              case rel => exact ⟨0 + 1, by omega, by go_num, HB2, hf1.thenBelow hf2, hz2⟩
              case measure => simp [intOf]
            | 1, _, hb1 =>
              obtain ⟨m, hm, hl, hband⟩ := and63 v 1 hvb
              rw [show (((v / 2 ^ (18 - 6 * 1) : Nat) : Int)) = (v : Int) / 4096 from by omega] at hband
              have hkn : (1 : Int) ≤ (n : Int) := by omega
              have hq : (0 : Int) ≤ (m : Int) ∧ (m : Int) < 64 := by omega
              go_wp2_with fail
              rw [letterAt m hm, hl]
              refine (WriteByte_any _ _ _ (sixB v 1) wr hb1 (by have := hlo 1; omega) hz1).mono ?_
              rintro e w2 ⟨rfl, hb2, hf2⟩
              have hz2 : w.heap.size ≤ w2.heap.size := Nat.le_trans hz1 hf2.size
              have HB2 : Bld w.heap.size w.heap.size (acc ++ (outL v n).take (1 + 1)) w2 := by
                have e : (outL v n).take (1 + 1) = (outL v n).take 1 ++ [(sixB v 1)] := by simp [outL, *]
                rw [e, ← List.append_assoc]; exact hb2
              clear hb1 hb2
              go_wp2
              go_roundw
              case rel => exact ⟨1 + 1, by omega, by go_num, HB2, hf1.thenBelow hf2, hz2⟩
              case measure => simp [intOf]
            | 2, _, hb1 =>
              obtain ⟨m, hm, hl, hband⟩ := and63 v 2 hvb
              rw [show (((v / 2 ^ (18 - 6 * 2) : Nat) : Int)) = (v : Int) / 64 from by omega] at hband
              by_cases hnk2 : 2 ≤ n
              · have hkn : (2 : Int) ≤ (n : Int) := by omega
                have hq : (0 : Int) ≤ (m : Int) ∧ (m : Int) < 64 := by omega
                go_wp2_with fail
                rw [letterAt m hm, hl]
                refine (WriteByte_any _ _ _ (sixB v 2) wr hb1 (by have := hlo 2; omega) hz1).mono ?_
                rintro e w2 ⟨rfl, hb2, hf2⟩
                have hz2 : w.heap.size ≤ w2.heap.size := Nat.le_trans hz1 hf2.size
                have HB2 : Bld w.heap.size w.heap.size (acc ++ (outL v n).take (2 + 1)) w2 := by
                  have e : (outL v n).take (2 + 1) = (outL v n).take 2 ++ [(sixB v 2)] := by simp [outL, *]
                  rw [e, ← List.append_assoc]; exact hb2
                clear hb1 hb2
                go_wp2
                go_roundw
                case rel => exact ⟨2 + 1, by omega, by go_num, HB2, hf1.thenBelow hf2, hz2⟩
                case measure => simp [intOf]
              · have hkn : ¬ (2 : Int) ≤ (n : Int) := by omega
                go_wp2_with fail
                refine (WriteByte_any _ _ _ 61 wr hb1 (by have := hlo 2; omega) hz1).mono ?_
                rintro e w2 ⟨rfl, hb2, hf2⟩
                have hz2 : w.heap.size ≤ w2.heap.size := Nat.le_trans hz1 hf2.size
                have HB2 : Bld w.heap.size w.heap.size (acc ++ (outL v n).take (2 + 1)) w2 := by
                  have e : (outL v n).take (2 + 1) = (outL v n).take 2 ++ [61] := by simp [outL, *]
                  rw [e, ← List.append_assoc]; exact hb2
                clear hb1 hb2
                go_wp2
                go_roundw
                case rel => exact ⟨2 + 1, by omega, by go_num, HB2, hf1.thenBelow hf2, hz2⟩
                case measure => simp [intOf]
            | 3, _, hb1 =>
              obtain ⟨m, hm, hl, hband⟩ := and63 v 3 hvb
              rw [show (((v / 2 ^ (18 - 6 * 3) : Nat) : Int)) = (v : Int) from by omega] at hband
              by_cases hnk2 : 3 ≤ n
              · have hkn : (3 : Int) ≤ (n : Int) := by omega
                have hq : (0 : Int) ≤ (m : Int) ∧ (m : Int) < 64 := by omega
                go_wp2_with fail
                rw [letterAt m hm, hl]
                refine (WriteByte_any _ _ _ (sixB v 3) wr hb1 (by have := hlo 3; omega) hz1).mono ?_
                rintro e w2 ⟨rfl, hb2, hf2⟩
                have hz2 : w.heap.size ≤ w2.heap.size := Nat.le_trans hz1 hf2.size
                have HB2 : Bld w.heap.size w.heap.size (acc ++ (outL v n).take (3 + 1)) w2 := by
                  have e : (outL v n).take (3 + 1) = (outL v n).take 3 ++ [(sixB v 3)] := by simp [outL, *]
                  rw [e, ← List.append_assoc]; exact hb2
                clear hb1 hb2
                go_wp2
                go_roundw
                case rel => exact ⟨3 + 1, by omega, by go_num, HB2, hf1.thenBelow hf2, hz2⟩
                case measure => simp [intOf]
              · have hkn : ¬ (3 : Int) ≤ (n : Int) := by omega
                go_wp2_with fail
                refine (WriteByte_any _ _ _ 61 wr hb1 (by have := hlo 3; omega) hz1).mono ?_
                rintro e w2 ⟨rfl, hb2, hf2⟩
                have hz2 : w.heap.size ≤ w2.heap.size := Nat.le_trans hz1 hf2.size
                have HB2 : Bld w.heap.size w.heap.size (acc ++ (outL v n).take (3 + 1)) w2 := by
                  have e : (outL v n).take (3 + 1) = (outL v n).take 3 ++ [61] := by simp [outL, *]
                  rw [e, ← List.append_assoc]; exact hb2
                clear hb1 hb2
                go_wp2
                go_roundw
                case rel => exact ⟨3 + 1, by omega, by go_num, HB2, hf1.thenBelow hf2, hz2⟩
                case measure => simp [intOf]
            | 4, _, hb1 =>
              have hout : (outL v n).take 4 = outL v n := rfl
              have hstep := b64L_step r v n hn0 hn3 hnr hnk hvv.out
              go_wp2_with fail
              refine ⟨⟨r.extract n r.size, acc ++ outL v n, ?_, rfl, ?_, ?_, hb1, hf1, hz1⟩, ?_⟩
              · rw [ext_size]; omega
              · rw [ext_size, List.length_append]
                have hn4 : (outL v n).length = 4 := rfl
                omega
              · rw [HUN.out, hstep, List.append_assoc]
              · show (r.extract n r.size).size < r.size
                rw [ext_size]; omega
    · have hri : ¬ (0 : Int) < (r.size : Int) := by omega
      have hfin : b64L s.data.toList = acc := by rw [HUN.out, show r.data.toList = [] from List.eq_nil_of_length_eq_zero (show r.size = 0 by omega)]; simp [b64L]
      go_wp2_with fail
      refine (BString_any _ _ _ wr hb hz).mono ?_
      rintro e w1 ⟨rfl, hf1⟩
      go_wp2
      go_ret
      rw [hfin]
      exact ⟨rfl, hf.thenBelow hf1⟩
end Go.Proofs.YtegbacpenolehaaDoor

namespace Go.Proofs.YtegbacpenolehaaDoor
open Go.RowKit

/-- the number that a letter of base 64 is -/
def letN (c : UInt8) : Option Nat := if 65 ≤ c ∧ c ≤ 90 then some (c.toNat - 65) else if 97 ≤ c ∧ c ≤ 122 then some (c.toNat - 71) else if 48 ≤ c ∧ c ≤ 57 then some (c.toNat + 4) else if c = 43 then some 62 else if c = 47 then some 63 else none
def lettersL : List UInt8 := [65, 66, 67, 68, 69, 70, 71, 72, 73, 74, 75, 76, 77, 78, 79, 80, 81, 82, 83, 84, 85, 86, 87, 88, 89, 90, 97, 98, 99, 100, 101, 102, 103, 104, 105, 106, 107, 108, 109, 110, 111, 112, 113, 114, 115, 116, 117, 118, 119, 120, 121, 122, 48, 49, 50, 51, 52, 53, 54, 55, 56, 57, 43, 47]
def letZ (c : UInt8) : Int := match letN c with | some n => (n : Int) | none => -1
set_option maxRecDepth 100000 in
theorem let_all : ∀ n : Fin 256, Lib.indexByte lettersL n.val.toUInt8 = letZ n.val.toUInt8 := by decide +kernel
theorem let_at (c : UInt8) : Lib.indexByte lettersL c = letZ c := by
  have h := let_all ⟨c.toNat, c.toNat_lt⟩
  simpa using h
theorem let_lt_all : ∀ n : Fin 256, ∀ m, letN n.val.toUInt8 = some m → m < 64 := by
  intro n m h
  have hk : ∀ n : Fin 256, (letN n.val.toUInt8).all (· < 64) = true := by decide +kernel
  have := hk n
  rw [h] at this
  simpa using this
theorem let_lt {c : UInt8} {m : Nat} (h : letN c = some m) : m < 64 := let_lt_all ⟨c.toNat, c.toNat_lt⟩ m (by simpa using h)
theorem letZ_none {c : UInt8} (h : letN c = none) : letZ c = -1 := by unfold letZ; rw [h]
theorem letZ_some {c : UInt8} {m : Nat} (h : letN c = some m) : letZ c = (m : Int) := by unfold letZ; rw [h]
theorem LetIdx_any (c : UInt8) (w : World) :
    Calls Tryd.prog 164 #[.string ⟨#[65, 66, 67, 68, 69, 70, 71, 72, 73, 74, 75, 76, 77, 78, 79, 80, 81, 82, 83, 84, 85, 86, 87, 88, 89, 90, 97, 98, 99, 100, 101, 102, 103, 104, 105, 106, 107, 108, 109, 110, 111, 112, 113, 114, 115, 116, 117, 118, 119, 120, 121, 122, 48, 49, 50, 51, 52, 53, 54, 55, 56, 57, 43, 47]⟩, .int .u8 c.toNat] w fun e w' => e = .returned (.int .i64 (letZ c)) ∧ w = w' :=
  (Tryd.strings_IndexByte _ c.toNat w).mono fun e w' ⟨he, hw⟩ => ⟨by
    have hc : ((c.toNat : Int).toNat.toUInt8) = c := by simp
    rw [hc] at he
    rw [he, ← let_at]; rfl, hw.symm⟩

/-- of up to four letters: the number, noughts behind -/
def qv (l : List UInt8) : Nat → Nat
  | 0 => 0
  | j + 1 => qv l j * 64 + (match l[j]? with | some c => (letN c).getD 0 | none => 0)
theorem qv_lt (l : List UInt8) : ∀ j, qv l j < 64 ^ j
  | 0 => by simp [qv]
  | j + 1 => by
    have h := qv_lt l j
    rw [qv, Nat.pow_succ]
    have h2 : (match l[j]? with | some c => (letN c).getD 0 | none => 0) < 64 := by
      cases e : l[j]? with
      | none => simp
      | some c =>
        cases e2 : letN c with
        | none => simp [e2]
        | some m => simpa [e2] using let_lt e2
    omega
def outQ (v m : Nat) : List UInt8 := (List.range m).map fun k => (v / 2 ^ (16 - 8 * k)).toUInt8
/-- the first j of l are letters -/
def allLet (l : List UInt8) (j : Nat) : Bool := (l.take j).all fun c => (letN c).isSome
def quad (l : List UInt8) : Option (List UInt8) := if allLet l 4 then some (outQ (qv l 4) (min 4 l.length - 1)) else none
def unbGo : Nat → List UInt8 → Option (List UInt8)
  | 0, _ => some []
  | q + 1, t => match quad t with
    | none => none
    | some out => (unbGo q (t.drop 4)).map (out ++ ·)
def unb64 (l : List UInt8) : Option (List UInt8) :=
  if l.length % 4 ≠ 0 then none else match unbGo (l.length / 4) (Lib.trimRightB l 61) with
    | none => none
    | some out => if b64L out = l then some out else none
def Unb64Post (s : ByteArray) (w : World) (e : Ending) (w' : World) : Prop :=
  Fr noB w w' ∧ match unb64 s.data.toList with
    | some l => e = .returned (.tuple #[.string ⟨l.toArray⟩, .nilIface])
    | none => e = .returned (.tuple #[.string ⟨#[]⟩, .iface 46 (.int .i64 3)])

def URel (w : World) (s : ByteArray) (t : ByteArray) (i : Value) (wr : World) : Prop :=
  ∃ (q : Nat) (acc : List UInt8), 4 * q ≤ s.size ∧ i = .int .i64 ((4 * q : Nat) : Int) ∧ acc.length ≤ 3 * q ∧ unbGo (s.size / 4) t.data.toList = (unbGo (s.size / 4 - q) (t.data.toList.drop (4 * q))).map (acc ++ ·) ∧ Bld w.heap.size w.heap.size acc wr ∧ Fr noB w wr ∧ w.heap.size ≤ wr.heap.size

theorem udrop_at (t : ByteArray) (i j : Nat) (h : i + j < t.size) : (t.data.toList.drop i)[j]? = some t[i + j] := by
  rw [List.getElem?_drop]; exact byte_at t (i + j) h
theorem udrop_off (t : ByteArray) (i j : Nat) (h : ¬ i + j < t.size) : (t.data.toList.drop i)[j]? = none := by
  rw [List.getElem?_drop]; exact byte_off t (i + j) h
theorem quad_none {l : List UInt8} {j : Nat} {c : UInt8} (h : l[j]? = some c) (hj : j < 4) (hc : letN c = none) : quad l = none := by
  unfold quad
  rw [if_neg]
  intro ha
  have hm : c ∈ l.take 4 := by
    apply List.mem_of_getElem? (i := j)
    rw [List.getElem?_take_of_lt hj]; exact h
  have := List.all_eq_true.1 ha c hm
  rw [hc] at this
  cases this
theorem quad_some {l : List UInt8} (h : allLet l 4 = true) : quad l = some (outQ (qv l 4) (min 4 l.length - 1)) := by unfold quad; rw [if_pos h]
theorem unbGo_step {p : Nat} {l : List UInt8} (hp : 0 < p) : unbGo p l = match quad l with
    | none => none
    | some out => (unbGo (p - 1) (l.drop 4)).map (out ++ ·) := by
  cases p with
  | zero => exact absurd hp (by omega)
  | succ p => rfl
theorem qv_at {l : List UInt8} {j m : Nat} {c : UInt8} (h : l[j]? = some c) (hc : letN c = some m) : qv l (j + 1) = qv l j * 64 + m := by rw [qv, h]; simp [hc]
theorem qv_off {l : List UInt8} {j : Nat} (h : l[j]? = none) : qv l (j + 1) = qv l j * 64 := by rw [qv, h]; exact Nat.add_zero _
theorem allLet_at {l : List UInt8} {j m : Nat} {c : UInt8} (h : l[j]? = some c) (hc : letN c = some m) (ha : allLet l j = true) : allLet l (j + 1) = true := by
  unfold allLet at ha ⊢
  rw [List.take_add_one, h, List.all_append, ha]
  simp [hc]
theorem allLet_off {l : List UInt8} {j : Nat} (h : l[j]? = none) (ha : allLet l j = true) : allLet l (j + 1) = true := by
  unfold allLet at ha ⊢
  rw [List.take_add_one, h, List.all_append, ha]
  rfl
theorem or_low6 (v x : Nat) (hv : v < 4294967296) (hx : x < 64) : bits .or .i64 ((v : Int) * 64) (x : Int) = ((v * 64 + x : Nat) : Int) := by
  have hm : ((v : Int) * 64) = ((v * 64 : Nat) : Int) := by omega
  rw [hm]
  have h1 : (BitVec.ofInt 64 ((v * 64 : Nat) : Int)).toNat = v * 64 := by
    rw [BitVec.ofInt_natCast, BitVec.toNat_ofNat]; exact Nat.mod_eq_of_lt (by omega)
  have h2 : (BitVec.ofInt 64 (x : Int)).toNat = x := by
    rw [BitVec.ofInt_natCast, BitVec.toNat_ofNat]; exact Nat.mod_eq_of_lt (by omega)
  show IntKind.i64.wrap ((BitVec.ofInt 64 ((v * 64 : Nat) : Int) ||| BitVec.ofInt 64 (x : Int)).toNat : Int) = _
  have h3 : v * 64 ||| x = v * 64 + x := by
    have h := Nat.shiftLeft_add_eq_or_of_lt (show x < 2 ^ 6 from hx) v
    rw [Nat.shiftLeft_eq] at h
    exact h.symm
  rw [BitVec.toNat_or, h1, h2, h3, IntWalk.i64_left]
  exact IntWalk.wrap64_in _ (by omega)
theorem outQ_at (v : Nat) {k m : Nat} (h : k < m) : (outQ v m)[k]? = some (v / 2 ^ (16 - 8 * k)).toUInt8 := by
  unfold outQ
  rw [List.getElem?_map, List.getElem?_range h]; rfl
theorem unb64_none {l : List UInt8} (h : unbGo (l.length / 4) (Lib.trimRightB l 61) = none) : unb64 l = none := by
  unfold unb64; split
  · rfl
  · rw [h]
theorem unb64_some {l out : List UInt8} (h4 : l.length % 4 = 0) (h : unbGo (l.length / 4) (Lib.trimRightB l 61) = some out) : unb64 l = if b64L out = l then some out else none := by
  unfold unb64; rw [if_neg (by omega), h]
def O3Rel (w : World) (acc : List UInt8) (v m : Nat) (i : Value) (wr : World) : Prop :=
  ∃ k : Nat, k ≤ m ∧ i = .int .i64 k ∧ Bld w.heap.size w.heap.size (acc ++ (outQ v m).take k) wr ∧ Fr noB w wr ∧ w.heap.size ≤ wr.heap.size
def IRel (t : ByteArray) (i : Nat) (w0 : World) (v n k : Value) (wr : World) : Prop :=
  ∃ j kk : Nat, j ≤ 4 ∧ kk = i + j ∧ k = .int .i64 kk ∧ v = .int .i64 (qv (t.data.toList.drop i) j) ∧ n = .int .i64 ((min j (t.size - i) : Nat) : Int) ∧ allLet (t.data.toList.drop i) j = true ∧ wr = w0

set_option maxRecDepth 100000 in
set_option maxHeartbeats 4000000 in
theorem Unbase64_any (s : ByteArray) (w : World) (hs : s.size < 4398046511104) :
    Calls Tryd.prog 120 #[.string s] w (Unb64Post s w) := by
  by_cases h4 : s.size % 4 = 0
  · have ho : ((s.size : Int) % 4 == 0) = true := by rw [beq_iff_eq]; omega
    go_enter Tryd.func120, Tryd.ntmps120
    go_wp2_with fail
    refine (Tryd.strings_TrimRight_one s 61 (by decide) _ (by omega)).mono ?_
    rintro e w1 ⟨rfl, rfl⟩
    generalize ht : (⟨(Lib.trimRightB s.data.toList 61).toArray⟩ : ByteArray) = t
    have HT := Lib.hid ht
    clear ht
    go_wp2
    go_loopw [6] (URel w s t) (fun i _ => s.size - (intOf i).toNat)
    case atStart => exact ⟨0, [], by omega, rfl, by simp, by simp, Bld.new w, (Fr.refl _ _).alloc _, by simp⟩
    case round =>
      obtain ⟨q, acc, hq, hi, hal, hun, hb, hf, hz⟩ := hrel
      obtain ⟨i, hiq⟩ : ∃ i, i = 4 * q := ⟨_, rfl⟩
      rw [← hiq] at hi hun hq
      subst hi
      have HUN := Lib.hid hun
      clear hun
      have HIQ := Lib.hid hiq
      clear hiq
      by_cases his : i < s.size
      · have hii : (i : Int) < (s.size : Int) := by omega
        go_wp2_with fail
        go_loopw [7, 8, 9] (IRel t i wr) (fun _ _ k _ => i + 4 - (intOf k).toNat)
        case atStart => exact ⟨0, i, by omega, by omega, rfl, rfl, by simp, by simp [allLet], rfl⟩
        case round =>
          obtain ⟨j, kk, hj, hkk, rfl, rfl, hn, hall, rfl⟩ := hrel
          obtain ⟨nn, hnn⟩ : ∃ nn, nn = min j (t.size - i) := ⟨_, rfl⟩
          rw [← hnn] at hn
          subst hn
          have HNN := Lib.hid hnn
          have HKK := Lib.hid hkk
          have HALL := Lib.hid hall
          clear hnn hkk hall
          by_cases hj4 : j < 4
          · have hkj : (kk : Int) < (i : Int) + 4 := by have := HKK.out; omega
            have hvb : qv (t.data.toList.drop i) j < 262144 := Nat.lt_of_lt_of_le (qv_lt _ j) (Nat.le_trans (Nat.pow_le_pow_right (by omega) (show j ≤ 3 by omega)) (by decide))
            have hshl : ¬ (9223372036854775807 : Int) < (qv (t.data.toList.drop i) j : Int) * 64 := by omega
            by_cases hkt : kk < t.size
            · have hkt' : (kk : Int) < (t.size : Int) := by omega
              go_wp2_with fail
              refine (LetIdx_any t[kk] wr).mono ?_
              rintro e w2 ⟨rfl, rfl⟩
              cases hx : letN t[kk] with
              | none =>
                rw [letZ_none hx]
                go_wp2_with fail
                go_ret2
                have hat := udrop_at t i j (by have := HKK.out; omega)
                have hg : unbGo (s.size / 4) t.data.toList = none := by
                  rw [HUN.out, unbGo_step (by have := HIQ.out; omega), quad_none hat hj4 (by rw [← hx]; congr 1; congr 1; exact HKK.out.symm)]; rfl
                unfold Unb64Post
                rw [unb64_none (by rw [← hg, ← HT.out]; rfl)]
                exact ⟨hf, rfl⟩
              | some m =>
                rw [letZ_some hx]
                have hm := let_lt hx
                have hm0 : ¬ (m : Int) < 0 := by omega
                have hn4 : nn ≤ 4 := by have := HNN.out; omega
                have hat := Lib.hid (udrop_at t i j (by have := HKK.out; omega))
                have hx2 : letN (t[i + j]'(by have := HKK.out; omega)) = some m := by rw [← hx]; congr 1; congr 1; exact HKK.out.symm
                have HX2 := Lib.hid hx2
                clear hx2
                go_wp2_with fail
                refine ⟨⟨j + 1, kk + 1, by omega, by have := HKK.out; omega, by go_num, ?_, ?_, allLet_at hat.out HX2.out HALL.out, rfl⟩, by simp [intOf]; have := HKK.out; omega⟩
                · rw [or_low6 _ _ (Nat.lt_trans hvb (by decide)) hm, qv_at hat.out HX2.out]
                · have h1 : min (j + 1) (t.size - i) = nn + 1 := by have := HNN.out; have := HKK.out; omega
                  rw [h1]; rfl
            · have hkt' : ¬ (kk : Int) < (t.size : Int) := by omega
              have hoff := Lib.hid (udrop_off t i j (by have := HKK.out; omega))
              go_wp2_with fail
              refine ⟨⟨j + 1, kk + 1, by omega, by have := HKK.out; omega, by go_num, ?_, ?_, allLet_off hoff.out HALL.out, rfl⟩, by simp [intOf]; have := HKK.out; omega⟩
              · rw [qv_off hoff.out]; rfl
              · have h1 : min (j + 1) (t.size - i) = nn := by have := HNN.out; have := HKK.out; omega
                rw [h1]
          · have hkj : ¬ (kk : Int) < (i : Int) + 4 := by have := HKK.out; omega
            obtain rfl : j = 4 := by omega
            have hvb : qv (t.data.toList.drop i) 4 < 16777216 := qv_lt _ 4
            obtain ⟨m, hm, hmax⟩ : ∃ m : Nat, m = nn - 1 ∧ max ((nn : Int) - 1) 0 = (m : Int) := ⟨nn - 1, rfl, by omega⟩
            have hm3 : m ≤ 3 := by have := HNN.out; omega
            have hquad := quad_some HALL.out
            have hml : min 4 (t.data.toList.drop i).length - 1 = m := by rw [List.length_drop]; show min 4 (t.size - i) - 1 = m; have := HNN.out; omega
            rw [hml] at hquad
            have HQ := Lib.hid hquad
            have HM := Lib.hid hm
            clear hm hquad hml
            generalize qv (t.data.toList.drop i) 4 = v at hvb HQ
            go_wp2_with fail
            go_loopw [54] (O3Rel w acc v m) (fun i _ => m - (intOf i).toNat)
            case atStart => exact ⟨0, by omega, rfl, by simpa using hb, hf, hz⟩
            case round =>
              obtain ⟨k, hk, rfl, hb1, hf1, hz1⟩ := hrel
              have hlo : ∀ j, (acc ++ (outQ v m).take j).length + 1 ≤ 140737488355328 := by
                intro j
                have h1 : (outQ v m).length = m := by simp [outQ]
                rw [List.length_append, List.length_take, h1]
                have := HIQ.out
                omega
              by_cases hkm : k < m
              · match k, hk, hb1, hkm with
                | 0, _, hb1, hkm =>
                  have hkm' : (0 : Int) < (m : Int) := by omega
                  have hel : (outQ v m)[0]? = some (v / 2 ^ (16 - 8 * 0)).toUInt8 := outQ_at v (by omega)
                  have HEL := Lib.hid hel
                  clear hel
                  go_wp2_with fail
                  rw [show ((v : Int) / 65536 : Int) = (((v / 2 ^ (16 - 8 * 0)).toUInt8.toNat : Nat) : Int) by simp; omega]
                  refine (WriteByte_any _ _ _ _ wr hb1 (hlo 0) hz1).mono ?_
                  rintro e w2 ⟨rfl, hb2, hf2⟩
                  have hz2 : w.heap.size ≤ w2.heap.size := Nat.le_trans hz1 hf2.size
                  have HB2 : Bld w.heap.size w.heap.size (acc ++ (outQ v m).take (0 + 1)) w2 := by
                    rw [List.take_add_one, HEL.out, ← List.append_assoc]; exact hb2
                  clear hb1 hb2
                  go_wp2
                  go_roundw
                  case rel => exact ⟨0 + 1, by omega, by go_num, HB2, hf1.thenBelow hf2, hz2⟩
                  case measure => simp [intOf] <;> omega
                | 1, _, hb1, hkm =>
                  have hkm' : (1 : Int) < (m : Int) := by omega
                  have hel : (outQ v m)[1]? = some (v / 2 ^ (16 - 8 * 1)).toUInt8 := outQ_at v (by omega)
                  have HEL := Lib.hid hel
                  clear hel
                  go_wp2_with fail
                  rw [show ((v : Int) / 256 % 256 : Int) = (((v / 2 ^ (16 - 8 * 1)).toUInt8.toNat : Nat) : Int) by simp]
                  refine (WriteByte_any _ _ _ _ wr hb1 (hlo 1) hz1).mono ?_
                  rintro e w2 ⟨rfl, hb2, hf2⟩
                  have hz2 : w.heap.size ≤ w2.heap.size := Nat.le_trans hz1 hf2.size
                  have HB2 : Bld w.heap.size w.heap.size (acc ++ (outQ v m).take (1 + 1)) w2 := by
                    rw [List.take_add_one, HEL.out, ← List.append_assoc]; exact hb2
                  clear hb1 hb2
                  go_wp2
                  go_roundw
                  case rel => exact ⟨1 + 1, by omega, by go_num, HB2, hf1.thenBelow hf2, hz2⟩
                  case measure => simp [intOf] <;> omega
                | 2, _, hb1, hkm =>
                  have hkm' : (2 : Int) < (m : Int) := by omega
                  have hel : (outQ v m)[2]? = some (v / 2 ^ (16 - 8 * 2)).toUInt8 := outQ_at v (by omega)
                  have HEL := Lib.hid hel
                  clear hel
                  go_wp2_with fail
                  rw [show ((v : Int) % 256 : Int) = (((v / 2 ^ (16 - 8 * 2)).toUInt8.toNat : Nat) : Int) by simp]
                  refine (WriteByte_any _ _ _ _ wr hb1 (hlo 2) hz1).mono ?_
                  rintro e w2 ⟨rfl, hb2, hf2⟩
                  have hz2 : w.heap.size ≤ w2.heap.size := Nat.le_trans hz1 hf2.size
                  have HB2 : Bld w.heap.size w.heap.size (acc ++ (outQ v m).take (2 + 1)) w2 := by
                    rw [List.take_add_one, HEL.out, ← List.append_assoc]; exact hb2
                  clear hb1 hb2
                  go_wp2
                  go_roundw
                  case rel => exact ⟨2 + 1, by omega, by go_num, HB2, hf1.thenBelow hf2, hz2⟩
                  case measure => simp [intOf] <;> omega
                | k + 3, _, _, hkm => exact absurd hkm (by omega)
              · have hkm' : ¬ (k : Int) < (m : Int) := by omega
                obtain rfl : k = m := by omega
                have htk : (outQ v k).take k = outQ v k := List.take_of_length_le (by simp [outQ])
                rw [htk] at hb1
                clear htk
                have hlen : (acc ++ outQ v k).length ≤ 3 * (q + 1) := by rw [List.length_append]; have : (outQ v k).length = k := (by simp [outQ]); omega
                have hst : unbGo (s.size / 4) t.data.toList = (unbGo (s.size / 4 - (q + 1)) (t.data.toList.drop (i + 4))).map ((acc ++ outQ v k) ++ ·) := by
                  rw [HUN.out, unbGo_step (by have := HIQ.out; omega), HQ.out, List.drop_drop, Nat.sub_sub]
                  simp only [Option.map_map]
                  congr 1; funext x; simp
                have HST := Lib.hid hst
                clear hst
                go_wp2
                have hi4 := HIQ.out
                refine ⟨⟨q + 1, acc ++ outQ v k, by omega, ?_, hlen, ?_, hb1, hf1, hz1⟩, by simp [intOf]; omega⟩
                · rw [show ((i : Int) + 4) = ((4 * (q + 1) : Nat) : Int) by omega]
                · rw [show 4 * (q + 1) = i + 4 by omega]; exact HST.out
      · have hii : ¬ (i : Int) < (s.size : Int) := by omega
        go_wp2_with fail
        refine (BString_any _ _ _ wr hb hz).mono ?_
        rintro e w1 ⟨rfl, hf1⟩
        have HF1 := hf.thenBelow hf1
        have hs0 : s.size / 4 - q = 0 := by have := HIQ.out; omega
        have hg : unbGo (s.data.toList.length / 4) (Lib.trimRightB s.data.toList 61) = some acc := by
          have h := HUN.out
          rw [hs0, ← HT.out] at h
          simpa [unbGo] using h
        have HU := Lib.hid (unb64_some h4 hg)
        have haz : (⟨acc.toArray⟩ : ByteArray).size < 4398046511104 := by show acc.toArray.size < _; simp; have := HIQ.out; omega
        clear hg hs0
        go_wp2_with fail
        refine (Base64_any ⟨acc.toArray⟩ w1 haz).mono ?_
        rintro e w2 ⟨rfl, hf2⟩
        have HF2 := HF1.trans hf2
        by_cases heq : b64L acc = s.data.toList
        · have hbq : (b64L acc == s.toList) = true := by rw [Go.ByteArray.toList_eq, beq_iff_eq, heq]
          have hU2 : unb64 s.data.toList = some acc := by rw [HU.out, if_pos heq]
          have HU2 := Lib.hid hU2
          clear hU2 heq
          go_wp2_with fail
          go_ret2
          unfold Unb64Post
          rw [HU2.out]
          exact ⟨HF2, rfl⟩
        · have hbq : (b64L acc == s.toList) = false := by rw [Go.ByteArray.toList_eq, beq_eq_false_iff_ne]; exact heq
          have hU2 : unb64 s.data.toList = none := by rw [HU.out, if_neg heq]
          have HU2 := Lib.hid hU2
          clear hU2 heq
          go_wp2_with fail
          go_ret2
          unfold Unb64Post
          rw [HU2.out]
          exact ⟨HF2, rfl⟩
  · have ho : ((s.size : Int) % 4 == 0) = false := by rw [beq_eq_false_iff_ne]; omega
    have hn : unb64 s.data.toList = none := by unfold unb64; rw [if_pos (show s.data.toList.length % 4 ≠ 0 from h4)]
    go_enter Tryd.func120, Tryd.ntmps120
    go_wp2
    go_ret2
    unfold Unb64Post
    rw [hn]
    exact ⟨Fr.refl _ _, rfl⟩
end Go.Proofs.YtegbacpenolehaaDoor

namespace Go.Proofs.YtegbacpenolehaaDoor
open Go.RowKit

theorem UnhexPost.ok {s : ByteArray} {w w' : World} {e : Ending} {l : List UInt8} (h : UnhexPost s w e w') (hl : unhexL s.data.toList = some l) : e = .returned (.tuple #[.string ⟨l.toArray⟩, .nilIface]) ∧ Fr noB w w' := by
  obtain ⟨hf, h⟩ := h
  rw [hl] at h
  exact ⟨h, hf⟩
theorem UnhexPost.bad {s : ByteArray} {w w' : World} {e : Ending} (h : UnhexPost s w e w') (hl : unhexL s.data.toList = none) : e = .returned (.tuple #[.string ⟨#[]⟩, .iface 46 (.int .i64 3)]) ∧ Fr noB w w' := by
  obtain ⟨hf, h⟩ := h
  rw [hl] at h
  exact ⟨h, hf⟩
theorem Unb64Post.ok {s : ByteArray} {w w' : World} {e : Ending} {l : List UInt8} (h : Unb64Post s w e w') (hl : unb64 s.data.toList = some l) : e = .returned (.tuple #[.string ⟨l.toArray⟩, .nilIface]) ∧ Fr noB w w' := by
  obtain ⟨hf, h⟩ := h
  rw [hl] at h
  exact ⟨h, hf⟩
theorem Unb64Post.bad {s : ByteArray} {w w' : World} {e : Ending} (h : Unb64Post s w e w') (hl : unb64 s.data.toList = none) : e = .returned (.tuple #[.string ⟨#[]⟩, .iface 46 (.int .i64 3)]) ∧ Fr noB w w' := by
  obtain ⟨hf, h⟩ := h
  rw [hl] at h
  exact ⟨h, hf⟩

set_option maxRecDepth 100000 in
set_option maxHeartbeats 2000000 in
theorem coded_any (w : World) :
    Calls Tryd.prog 64 #[] w fun e w' => e = .returned (.bool true) ∧ Fr noB w w' := by
  have c1 := Lib.hid (show unhexL [52, 97, 52, 98] = some [74, 75] by decide +kernel)
  have c2 := Lib.hid (show unb64 [83, 71, 107, 61] = some [72, 105] by decide +kernel)
  have c3 := Lib.hid (show hexL [74] = [52, 97] by decide +kernel)
  have c4 := Lib.hid (show b64L [72, 105, 33] = [83, 71, 107, 104] by decide +kernel)
  have c5 := Lib.hid (show lowL [97, 66, 99] = [97, 98, 99] by decide +kernel)
  go_enter Tryd.func64, Tryd.ntmps64
  go_wp2_with fail
  refine (Unhex_any ⟨#[52, 97, 52, 98]⟩ w (by decide)).mono ?_
  intro e u1 hp
  obtain ⟨rfl, hf1⟩ := hp.ok c1.out
  clear hp
  go_wp2_with fail
  refine (Unbase64_any ⟨#[83, 71, 107, 61]⟩ u1 (by decide)).mono ?_
  intro e u2 hp
  obtain ⟨rfl, hf2⟩ := hp.ok c2.out
  clear hp
  go_wp2_with fail
  refine (Hex_any ⟨#[74]⟩ u2 (by decide)).mono ?_
  rintro e u3 ⟨rfl, hf3⟩
  rw [c3.out]
  go_wp2_with fail
  refine (Base64_any ⟨#[72, 105, 33]⟩ u3 (by decide)).mono ?_
  rintro e u4 ⟨rfl, hf4⟩
  rw [c4.out]
  go_wp2_with fail
  refine (Lower_any ⟨#[97, 66, 99]⟩ u4 (by decide)).mono ?_
  rintro e u5 ⟨rfl, hf5⟩
  rw [c5.out]
  go_wp2
  go_ret
  exact ⟨rfl, (((hf1.trans hf2).trans hf3).trans hf4).trans hf5⟩
end Go.Proofs.YtegbacpenolehaaDoor
