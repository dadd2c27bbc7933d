/- Walks over the package token: Is, Quote. -/
import Derived.Test.YtkoobhgedoanhaaGreatDoorToken3
namespace Go.Proofs.YtkoobhgedoanhaaGreatDoor
open Go.RowKit

/-- token.Is -/
def isL (l : List UInt8) : Bool := l.all byteB && !l.isEmpty

theorem all_take_succ {p : UInt8 → Bool} {l : List UInt8} {k : Nat} {x : UInt8} (h : l[k]? = some x) : (l.take (k + 1)).all p = ((l.take k).all p && p x) := by
  rw [List.take_add_one, h]; simp
theorem all_false_of {p : UInt8 → Bool} {l : List UInt8} {k : Nat} {x : UInt8} (h : l[k]? = some x) (hp : p x = false) : l.all p = false := by
  rw [List.all_eq_false]
  exact ⟨x, List.mem_of_getElem? h, by simp [hp]⟩

set_option maxHeartbeats 1000000 in
theorem Is_any (s : ByteArray) (w : World) (hs : s.size < 17592186044416) :
    Calls Tryz.prog 51 #[.string s] w fun e w' => e = .returned (.bool (isL s.data.toList)) ∧ w = w' := by
  go_enter Tryz.func51, Tryz.ntmps51
  go_wp2
  go_loop [6] (fun i => ∃ k : Nat, k ≤ s.size ∧ i = .int .i64 k ∧ (s.data.toList.take k).all byteB = true) (fun i => s.size - (intOf i).toNat)
  case atStart => exact ⟨0, Nat.zero_le _, rfl, by simp⟩
  case round =>
    obtain ⟨k, hk, rfl, hall⟩ := hrel
    have HALL := Lib.hid hall
    clear hall
    by_cases hks : k < s.size
    · have hat := Lib.hid (byte_at s k hks)
      generalize hx : s[k] = x at hat
      cases e1 : byteB x
      · have hfin := Lib.hid (show isL s.data.toList = false by unfold isL; rw [all_false_of hat.out e1]; rfl)
        go_wp2_with (go_at_call 110; refine (Byte_any _ _).mono ?_; rintro e w' ⟨rfl, rfl⟩)
        go_ret
        rw [hfin.out]
        exact ⟨rfl, rfl⟩
      · have hnx := Lib.hid (show (s.data.toList.take (k + 1)).all byteB = true by rw [all_take_succ hat.out, HALL.out, e1]; rfl)
        go_wp2_with (go_at_call 110; refine (Byte_any _ _).mono ?_; rintro e w' ⟨rfl, rfl⟩)
        go_round
        case rel => exact ⟨k + 1, by omega, by go_num, hnx.out⟩
        case measure => simp [intOf]; omega
    · have hall2 := Lib.hid (show s.data.toList.all byteB = true by have h := HALL.out; rw [List.take_of_length_le (by simp; omega)] at h; exact h)
      go_wp2
      go_ret
      refine ⟨ret_bool ?_, rfl⟩
      unfold isL
      rw [hall2.out, ByteArray.toList_eq]
      simp

def escL (l : List UInt8) : List UInt8 := l.flatMap (fun c => if c == 34 || c == 92 then [92, c] else [c])
def quoteL (l : List UInt8) : List UInt8 := 34 :: (escL l ++ [34])
theorem escL_le (l : List UInt8) : (escL l).length ≤ 2 * l.length := by
  induction l with
  | nil => simp [escL]
  | cons c l ih => simp [escL] at ih ⊢; split <;> simp <;> omega
theorem escL_snoc {l : List UInt8} {k : Nat} {x : UInt8} (h : l[k]? = some x) : escL (l.take (k + 1)) = escL (l.take k) ++ (if x == 34 || x == 92 then [92, x] else [x]) := by
  rw [List.take_add_one, h]; simp [escL]
def textL (l : List UInt8) : Bool := l.all textB
def QuotePost (s : ByteArray) (w : World) (e : Ending) (w' : World) : Prop :=
  e = .returned (.tuple (if textL s.data.toList then #[.string ⟨(quoteL s.data.toList).toArray⟩, .nilIface] else #[.string ⟨#[]⟩, .iface 93 (.int .i64 3)])) ∧ Fr noB w w'
def QuRel (s : ByteArray) (w : World) (v i : Value) (wr : World) : Prop :=
  ∃ k : Nat, k ≤ s.size ∧ i = .int .i64 k ∧ Bytes w.heap.size wr v (34 :: escL (s.data.toList.take k)) ∧ Fr noB w wr ∧ (s.data.toList.take k).all textB = true

set_option maxRecDepth 100000 in
set_option maxHeartbeats 1000000 in
theorem Quote_any (s : ByteArray) (w : World) (hs : s.size < 17592186044416) :
    Calls Tryz.prog 45 #[.string s] w (QuotePost s w) := by
  go_enter Tryz.func45, Tryz.ntmps45
  go_wp2
  go_loopw [4, 9] (QuRel s w) (fun _ i _ => s.size - (intOf i).toNat)
  case atStart =>
    exact ⟨0, Nat.zero_le _, rfl, Bytes.new1 w 34, (Fr.refl _ _).alloc _, by simp⟩
  case round =>
    obtain ⟨k, hk, rfl, hown, hfr, hall⟩ := hrel
    have HALL := Lib.hid hall
    clear hall
    have hbase : w.heap.size ≤ wr.heap.size := hfr.size
    have HLE := Lib.hid (show (escL (s.data.toList.take k)).length ≤ 2 * k from Nat.le_trans (escL_le _) (Nat.mul_le_mul_left 2 (by simp; omega)))
    obtain ⟨av, cv, hv⟩ := hown.form
    subst hv
    by_cases hks : k < s.size
    · have hat := Lib.hid (byte_at s k hks)
      generalize hx : s[k] = x at hat
      cases e1 : textB x
      · have hfin := Lib.hid (show textL s.data.toList = false from all_false_of hat.out e1)
        go_wp2_with (go_at_call 109; refine (text_any _ _).mono ?_; rintro e w' ⟨rfl, rfl⟩)
        go_ret2
        refine ⟨?_, hfr⟩
        rw [hfin.out]
        rfl
      · have hnx := Lib.hid (show (s.data.toList.take (k + 1)).all textB = true by rw [all_take_succ hat.out, HALL.out, e1]; rfl)
        have hes := Lib.hid (escL_snoc hat.out)
        cases e2 : x == 34
        · cases e3 : x == 92
          · have n1 : ((x.toNat : Int) == 34) = false := by rw [← e2]; exact u8_eq 34 (by decide)
            have n2 : ((x.toNat : Int) == 92) = false := by rw [← e3]; exact u8_eq 92 (by decide)
            have hes2 := Lib.hid (show escL (s.data.toList.take (k + 1)) = escL (s.data.toList.take k) ++ [x] by rw [hes.out, e2, e3]; rfl)
            clear e2 e3
            go_wp2_with (first | (at_builtin; refine wpList_byte (o := ⟨some 36, _, _, _, _, _⟩) rfl _ _ rfl w.heap.size (.slice av _ cv) (34 :: escL (s.data.toList.take k)) rfl (by apply Bytes.alloc; exact hown) ⟨wr.heap.size, 0, none⟩ 1 x rfl (new_cell _ _ _ _) (by have := HLE.out; simp; omega) (by simp; omega) ?_; intro v' w2 hown2 hg2) | (go_at_call 109; refine (text_any _ _).mono ?_; rintro e w' ⟨rfl, rfl⟩))
            go_roundw
            case rel => exact ⟨k + 1, by omega, by go_num, by rw [hes2.out]; exact hown2, (hfr.alloc _).grownNew hg2 hown.block, hnx.out⟩
            case measure => simp [intOf]; omega
          · have n1 : ((x.toNat : Int) == 34) = false := by rw [← e2]; exact u8_eq 34 (by decide)
            have n2 : ((x.toNat : Int) == 92) = true := by rw [← e3]; exact u8_eq 92 (by decide)
            have hes2 := Lib.hid (show escL (s.data.toList.take (k + 1)) = escL (s.data.toList.take k) ++ [92, x] by rw [hes.out]; simp only [e2, e3, Bool.or_true, if_true])
            clear e2 e3
            go_wp2_with (first | (at_builtin; refine wpList_byte (o := ⟨some 30, _, _, _, _, _⟩) rfl _ _ rfl w.heap.size (.slice av _ cv) (34 :: escL (s.data.toList.take k)) rfl (by apply Bytes.alloc; exact hown) ⟨wr.heap.size, 0, none⟩ 1 92 rfl (new_cell _ _ _ _) (by have := HLE.out; simp; omega) (by simp; omega) ?_; intro v1 w1 hown1 hg1; have hb1 : wr.heap.size + 1 ≤ w1.heap.size := by simpa using hg1.size) | (at_builtin; refine wpList_byte (o := ⟨some 36, _, _, _, _, _⟩) rfl _ _ rfl w.heap.size v1 (34 :: escL (s.data.toList.take k) ++ [92]) rfl (by apply Bytes.alloc; exact hown1) ⟨w1.heap.size, 0, none⟩ 1 x rfl (new_cell _ _ _ _) (by have := HLE.out; simp; omega) (by simp; omega) ?_; intro v' w2 hown2 hg2) | (go_at_call 109; refine (text_any _ _).mono ?_; rintro e w' ⟨rfl, rfl⟩))
            go_roundw
            case rel => exact ⟨k + 1, by omega, by go_num, by rw [hes2.out]; simpa using hown2, ((((hfr.alloc _).grownNew hg1 hown.block).alloc _).grownNew hg2 hown1.block), hnx.out⟩
            case measure => simp [intOf]; omega
        · have n1 : ((x.toNat : Int) == 34) = true := by rw [← e2]; exact u8_eq 34 (by decide)
          have hes2 := Lib.hid (show escL (s.data.toList.take (k + 1)) = escL (s.data.toList.take k) ++ [92, x] by rw [hes.out]; simp only [e2, Bool.true_or, if_true])
          clear e2
          go_wp2_with (first | (at_builtin; refine wpList_byte (o := ⟨some 30, _, _, _, _, _⟩) rfl _ _ rfl w.heap.size (.slice av _ cv) (34 :: escL (s.data.toList.take k)) rfl (by apply Bytes.alloc; exact hown) ⟨wr.heap.size, 0, none⟩ 1 92 rfl (new_cell _ _ _ _) (by have := HLE.out; simp; omega) (by simp; omega) ?_; intro v1 w1 hown1 hg1; have hb1 : wr.heap.size + 1 ≤ w1.heap.size := by simpa using hg1.size) | (at_builtin; refine wpList_byte (o := ⟨some 36, _, _, _, _, _⟩) rfl _ _ rfl w.heap.size v1 (34 :: escL (s.data.toList.take k) ++ [92]) rfl (by apply Bytes.alloc; exact hown1) ⟨w1.heap.size, 0, none⟩ 1 x rfl (new_cell _ _ _ _) (by have := HLE.out; simp; omega) (by simp; omega) ?_; intro v' w2 hown2 hg2) | (go_at_call 109; refine (text_any _ _).mono ?_; rintro e w' ⟨rfl, rfl⟩))
          go_roundw
          case rel => exact ⟨k + 1, by omega, by go_num, by rw [hes2.out]; simpa using hown2, ((((hfr.alloc _).grownNew hg1 hown.block).alloc _).grownNew hg2 hown1.block), hnx.out⟩
          case measure => simp [intOf]; omega
    · have hall2 := Lib.hid (show s.data.toList.take k = s.data.toList from List.take_of_length_le (by simp; omega))
      go_wp2_with (at_builtin; refine wpList_byte (o := ⟨some 40, _, _, _, _, _⟩) rfl _ _ rfl w.heap.size (.slice av _ cv) (34 :: escL (s.data.toList.take k)) rfl (by apply Bytes.alloc; exact hown) ⟨wr.heap.size, 0, none⟩ 1 34 rfl (new_cell _ _ _ _) (by have := HLE.out; simp; omega) (by simp; omega) ?_; intro v1 w1 hown1 hg1; obtain ⟨a1, c1, hv1⟩ := hown1.form; subst hv1; have ht1 := hown1.text; simp only [List.length_append, List.length_cons, List.length_nil, Nat.zero_add] at ht1)
      go_ret2
      refine ⟨?_, (hfr.alloc _).grownNew hg1 hown.block⟩
      have hall3 : textL s.data.toList = true := by rw [← hall2.out]; exact HALL.out
      rw [if_pos hall3, hall2.out]
      rfl
end Go.Proofs.YtkoobhgedoanhaaGreatDoor
