/- Walks: coding.Unhex. -/
import Derived.Test.YtegbacpenolehaaDoorHex
namespace Go.Proofs.YtegbacpenolehaaDoor
open Go.RowKit

/-- the number that a small hexadecimal digit is -/
def nibB (c : UInt8) : Option UInt8 := if 48 ≤ c ∧ c ≤ 57 then some (c - 48) else if 97 ≤ c ∧ c ≤ 102 then some (c - 87) else none
def smallL : List UInt8 := [48, 49, 50, 51, 52, 53, 54, 55, 56, 57, 97, 98, 99, 100, 101, 102]
def nibI (c : UInt8) : Int := match nibB c with | some n => (n.toNat : Int) | none => -1
theorem nib_all : ∀ n : Fin 256, Lib.indexByte smallL n.val.toUInt8 = nibI n.val.toUInt8 := by decide +kernel
theorem nib_at (c : UInt8) : Lib.indexByte smallL c = nibI c := by
  have h := nib_all ⟨c.toNat, c.toNat_lt⟩
  simpa using h
theorem nib_lt_all : ∀ n : Fin 256, ∀ m, nibB n.val.toUInt8 = some m → m < 16 := by decide +kernel
theorem nib_lt {c m : UInt8} (h : nibB c = some m) : m.toNat < 16 := by
  have h1 := nib_lt_all ⟨c.toNat, c.toNat_lt⟩ m (by simpa using h)
  exact UInt8.lt_iff_toNat_lt.1 h1

theorem Idx_any (c : UInt8) (w : World) :
    Calls Tryd.prog 164 #[.string ⟨#[48, 49, 50, 51, 52, 53, 54, 55, 56, 57, 97, 98, 99, 100, 101, 102]⟩, .int .u8 c.toNat] w fun e w' => e = .returned (.int .i64 (nibI c)) ∧ w = w' :=
  (Tryd.strings_IndexByte ⟨#[48, 49, 50, 51, 52, 53, 54, 55, 56, 57, 97, 98, 99, 100, 101, 102]⟩ c.toNat w).mono fun e w' ⟨he, hw⟩ => ⟨by
    have hc : ((c.toNat : Int).toNat.toUInt8) = c := by simp
    rw [hc] at he
    rw [he, ← nib_at]; rfl, hw.symm⟩

theorem nibI_none {c : UInt8} (h : nibB c = none) : nibI c = -1 := by unfold nibI; rw [h]
theorem nibI_some {c m : UInt8} (h : nibB c = some m) : nibI c = (m.toNat : Int) := by unfold nibI; rw [h]
theorem drop2 (s : ByteArray) (k : Nat) (h : k + 1 < s.size) : s.data.toList.drop k = s[k]'(by omega) :: s[k + 1] :: s.data.toList.drop (k + 2) := by
  have h1 : k < s.data.toList.length := by show k < s.size; omega
  have h2 : k + 1 < s.data.toList.length := h
  rw [List.drop_eq_getElem_cons h1, List.drop_eq_getElem_cons h2]
  rfl

def unhexL : List UInt8 → Option (List UInt8)
  | [] => some []
  | [_] => none
  | a :: c :: r => match nibB a, nibB c with
    | some x, some y => (unhexL r).map ((x * 16 + y) :: ·)
    | _, _ => none

theorem unhexL_cons2 (a c : UInt8) (r : List UInt8) : unhexL (a :: c :: r) = match nibB a, nibB c with
    | some x, some y => (unhexL r).map ((x * 16 + y) :: ·)
    | _, _ => none := rfl
theorem or_all : ∀ x y : Fin 16, bits BinOp.or IntKind.i64 ((x.val : Int) * 16) (y.val : Int) % 256 = ((x.val.toUInt8 * 16 + y.val.toUInt8).toNat : Int) := by decide +kernel
theorem or_nib {x y : UInt8} (hx : x.toNat < 16) (hy : y.toNat < 16) : bits BinOp.or IntKind.i64 ((x.toNat : Int) * 16) (y.toNat : Int) % 256 = ((x * 16 + y).toNat : Int) := by
  have h := or_all ⟨x.toNat, hx⟩ ⟨y.toNat, hy⟩
  simpa using h
/-- what Unhex hands back -/
def UnhexPost (s : ByteArray) (w : World) (e : Ending) (w' : World) : Prop :=
  Fr noB w w' ∧ match unhexL s.data.toList with
    | some l => e = .returned (.tuple #[.string ⟨l.toArray⟩, .nilIface])
    | none => e = .returned (.tuple #[.string ⟨#[]⟩, .iface 46 (.int .i64 3)])

def UnhexRel (w : World) (s : ByteArray) (i : Value) (wr : World) : Prop :=
  ∃ (k : Nat) (acc : List UInt8), k ≤ s.size ∧ i = .int .i64 k ∧ 2 * acc.length = k ∧ unhexL s.data.toList = (unhexL (s.data.toList.drop k)).map (acc ++ ·) ∧ Bld w.heap.size w.heap.size acc wr ∧ Fr noB w wr ∧ w.heap.size ≤ wr.heap.size

theorem unhex_odd : ∀ (l : List UInt8), l.length % 2 = 1 → unhexL l = none
  | [], h => by simp at h
  | [_], _ => rfl
  | a :: c :: r, h => by
    have ih := unhex_odd r (by simp at h; omega)
    unfold unhexL
    rw [ih]
    split <;> rfl

set_option maxRecDepth 100000 in
set_option maxHeartbeats 2000000 in
theorem Unhex_any (s : ByteArray) (w : World) (hs : s.size < 4398046511104) :
    Calls Tryd.prog 119 #[.string s] w (UnhexPost s w) := by
  by_cases hodd : s.size % 2 = 1
  · have ho : (s.size : Int) % 2 = 1 := by omega
    have hn := unhex_odd s.data.toList hodd
    go_enter Tryd.func119, Tryd.ntmps119
    go_wp2
    go_ret2
    unfold UnhexPost
    rw [hn]
    exact ⟨Fr.refl _ _, rfl⟩
  · have ho : ((s.size : Int) % 2 == 1) = false := by rw [beq_eq_false_iff_ne]; omega
    go_enter Tryd.func119, Tryd.ntmps119
    go_wp2
    go_loopw [5] (UnhexRel w s) (fun i _ => s.size - (intOf i).toNat)
    case atStart => exact ⟨0, [], by omega, rfl, by simp, by simp, Bld.new w, (Fr.refl _ _).alloc _, by simp⟩
    case round =>
      obtain ⟨k, acc, hk, rfl, hal, hun, hb, hf, hz⟩ := hrel
      have HUN := Lib.hid hun
      clear hun
      by_cases hks : k < s.size
      · have hki : (k : Int) < (s.size : Int) := by omega
        have hks1 : k + 1 < s.size := by omega
        have hki1 : (k : Int) + 1 < (s.size : Int) := by omega
        have hk0 : 0 ≤ (k : Int) + 1 := by omega
        have hwr : IntKind.i64.wrap ((k : Int) + 1) = (k : Int) + 1 := by rw [IntWalk.i64_left]; exact IntWalk.wrap64_in _ (by omega)
        go_wp2_with fail
        go_quiet ((go_at_call 164; exact quiet_eq (Idx_any _ _)))
        have hdr := Lib.hid (drop2 s k hks1)
        cases hx : nibB s[k] with
        | none =>
          rw [nibI_none hx]
          have hfin : unhexL s.data.toList = none := by rw [HUN.out, hdr.out, unhexL_cons2, hx]; rfl
          go_wp2_with fail
          go_ret2
          unfold UnhexPost
          rw [hfin]
          exact ⟨hf.drewN _, rfl⟩
        | some x =>
          rw [nibI_some hx]
          have hx0 : decide ((x.toNat : Int) < 0) = false := by simp
          cases hy : nibB s[k + 1] with
          | none =>
            rw [nibI_none hy]
            have hfin : unhexL s.data.toList = none := by rw [HUN.out, hdr.out, unhexL_cons2, hx, hy]; rfl
            go_wp2_with fail
            go_ret2
            unfold UnhexPost
            rw [hfin]
            exact ⟨hf.drewN _, rfl⟩
          | some y =>
            rw [nibI_some hy]
            have hy0 : decide ((y.toNat : Int) < 0) = false := by simp
            have hxl := nib_lt hx
            have hyl := nib_lt hy
            have hstep : unhexL s.data.toList = (unhexL (s.data.toList.drop (k + 2))).map ((acc ++ [x * 16 + y]) ++ ·) := by
              rw [HUN.out, hdr.out, unhexL_cons2, hx, hy]; simp only [Option.map_map]; congr 1; funext t; simp
            go_wp2_with fail
            rw [or_nib hxl hyl]
            have hdn := hf.drewN nq
            refine (WriteByte_any _ _ _ _ (wr.drewN nq) hb (by omega) hz).mono ?_
            rintro e w1 ⟨rfl, hb1, hf1⟩
            have hz1 : w.heap.size ≤ w1.heap.size := Nat.le_trans hz hf1.size
            have HST := Lib.hid hstep
            clear hstep hb
            go_wp2
            go_roundw
            case rel => exact ⟨k + 2, acc ++ [x * 16 + y], by omega, by go_num, by simp; omega, HST.out, hb1, hdn.thenBelow hf1, hz1⟩
            case measure => simp [intOf]; omega
      · have hki : ¬ (k : Int) < (s.size : Int) := by omega
        have hfin : unhexL s.data.toList = some acc := by rw [HUN.out, List.drop_eq_nil_of_le (show s.data.toList.length ≤ k by show s.size ≤ k; omega)]; simp [unhexL]
        go_wp2_with fail
        refine (BString_any _ _ _ wr hb hz).mono ?_
        rintro e w1 ⟨rfl, hf1⟩
        go_wp2
        go_ret2
        unfold UnhexPost
        rw [hfin]
        exact ⟨hf.thenBelow hf1, rfl⟩
end Go.Proofs.YtegbacpenolehaaDoor
