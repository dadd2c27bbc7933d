/- Walks over the package token: Is, Quote. Walks: coding.Lower, token.Same. Slices of strings: read, and made by the call itself; errors. Walks: token.List. Plain laws of lists of words: what is joined is read; two lists, one behind the other. No program in sight. Texts between marks: plain laws. No program in sight. -/
import Derived.Test.YtkoobhgedoanhaaGreatDoorDigestKnownB1
import Derived.Test.YtkoobhgedoanhaaGreatDoorShelf
import Derived.Lib.Repeat
namespace Go.Proofs.YtkoobhgedoanhaaGreatDoor
open Go.RowKit

/-- token.Is -/
def isL (l : List UInt8) : Bool := l.all byteB && !l.isEmpty

theorem all_take_succ {p : UInt8 → Bool} {l : List UInt8} {k : Nat} {x : UInt8} (h : l[k]? = some x) : (l.take (k + 1)).all p = ((l.take k).all p && p x) := by
  rw [List.take_add_one, h]; simp
theorem all_false_of {p : UInt8 → Bool} {l : List UInt8} {k : Nat} {x : UInt8} (h : l[k]? = some x) (hp : p x = false) : l.all p = false := by
  rw [List.all_eq_false]
  exact ⟨x, List.mem_of_getElem? h, by simp [hp]⟩

set_option maxHeartbeats 1000000 in
theorem Is_any (s : ByteArray) (w : World) (hs : s.size < 17592186044416) :
    Calls Tryz.prog 51 #[.string s] w fun e w' => e = .returned (.bool (isL s.data.toList)) ∧ w = w' := by
  go_enter Tryz.func51, Tryz.ntmps51
  go_wp2
  go_loop [6] (fun i => ∃ k : Nat, k ≤ s.size ∧ i = .int .i64 k ∧ (s.data.toList.take k).all byteB = true) (fun i => s.size - (intOf i).toNat)
  case atStart => exact ⟨0, Nat.zero_le _, rfl, by simp⟩
  case round =>
    obtain ⟨k, hk, rfl, hall⟩ := hrel
    have HALL := Lib.hid hall
    clear hall
    by_cases hks : k < s.size
    · have hat := Lib.hid (byte_at s k hks)
      generalize hx : s[k] = x at hat
      cases e1 : byteB x
      · have hfin := Lib.hid (show isL s.data.toList = false by unfold isL; rw [all_false_of hat.out e1]; rfl)
        go_wp2_with (go_at_call 110; refine (Byte_any _ _).mono ?_; rintro e w' ⟨rfl, rfl⟩)
        go_ret
        rw [hfin.out]
        exact ⟨rfl, rfl⟩
      · have hnx := Lib.hid (show (s.data.toList.take (k + 1)).all byteB = true by rw [all_take_succ hat.out, HALL.out, e1]; rfl)
        go_wp2_with (go_at_call 110; refine (Byte_any _ _).mono ?_; rintro e w' ⟨rfl, rfl⟩)
        go_round
        case rel => exact ⟨k + 1, by omega, by go_num, hnx.out⟩
        case measure => simp [intOf]; omega
    · have hall2 := Lib.hid (show s.data.toList.all byteB = true by have h := HALL.out; rw [List.take_of_length_le (by simp; omega)] at h; exact h)
      go_wp2
      go_ret
      refine ⟨ret_bool ?_, rfl⟩
      unfold isL
      rw [hall2.out, ByteArray.toList_eq]
      simp

def escL (l : List UInt8) : List UInt8 := l.flatMap (fun c => if c == 34 || c == 92 then [92, c] else [c])
def quoteL (l : List UInt8) : List UInt8 := 34 :: (escL l ++ [34])
theorem escL_le (l : List UInt8) : (escL l).length ≤ 2 * l.length := by
  induction l with
  | nil => simp [escL]
  | cons c l ih => simp [escL] at ih ⊢; split <;> simp <;> omega
theorem escL_snoc {l : List UInt8} {k : Nat} {x : UInt8} (h : l[k]? = some x) : escL (l.take (k + 1)) = escL (l.take k) ++ (if x == 34 || x == 92 then [92, x] else [x]) := by
  rw [List.take_add_one, h]; simp [escL]
def textL (l : List UInt8) : Bool := l.all textB
def QuotePost (s : ByteArray) (w : World) (e : Ending) (w' : World) : Prop :=
  e = .returned (.tuple (if textL s.data.toList then #[.string ⟨(quoteL s.data.toList).toArray⟩, .nilIface] else #[.string ⟨#[]⟩, .iface 93 (.int .i64 3)])) ∧ Fr noB w w'
def QuRel (s : ByteArray) (w : World) (v i : Value) (wr : World) : Prop :=
  ∃ k : Nat, k ≤ s.size ∧ i = .int .i64 k ∧ Bytes w.heap.size wr v (34 :: escL (s.data.toList.take k)) ∧ Fr noB w wr ∧ (s.data.toList.take k).all textB = true

set_option maxRecDepth 100000 in
set_option maxHeartbeats 1000000 in
theorem Quote_any (s : ByteArray) (w : World) (hs : s.size < 17592186044416) :
    Calls Tryz.prog 45 #[.string s] w (QuotePost s w) := by
  go_enter Tryz.func45, Tryz.ntmps45
  go_wp2
  go_loopw [4, 9] (QuRel s w) (fun _ i _ => s.size - (intOf i).toNat)
  case atStart =>
    exact ⟨0, Nat.zero_le _, rfl, Bytes.new1 w 34, (Fr.refl _ _).alloc _, by simp⟩
  case round =>
    obtain ⟨k, hk, rfl, hown, hfr, hall⟩ := hrel
    have HALL := Lib.hid hall
    clear hall
    have hbase : w.heap.size ≤ wr.heap.size := hfr.size
    have HLE := Lib.hid (show (escL (s.data.toList.take k)).length ≤ 2 * k from Nat.le_trans (escL_le _) (Nat.mul_le_mul_left 2 (by simp; omega)))
    obtain ⟨av, cv, hv⟩ := hown.form
    subst hv
    by_cases hks : k < s.size
    · have hat := Lib.hid (byte_at s k hks)
      generalize hx : s[k] = x at hat
      cases e1 : textB x
      · have hfin := Lib.hid (show textL s.data.toList = false from all_false_of hat.out e1)
        go_wp2_with (go_at_call 109; refine (text_any _ _).mono ?_; rintro e w' ⟨rfl, rfl⟩)
        go_ret2
        refine ⟨?_, hfr⟩
        rw [hfin.out]
        rfl
      · have hnx := Lib.hid (show (s.data.toList.take (k + 1)).all textB = true by rw [all_take_succ hat.out, HALL.out, e1]; rfl)
        have hes := Lib.hid (escL_snoc hat.out)
        cases e2 : x == 34
        · cases e3 : x == 92
          · have n1 : ((x.toNat : Int) == 34) = false := by rw [← e2]; exact u8_eq 34 (by decide)
            have n2 : ((x.toNat : Int) == 92) = false := by rw [← e3]; exact u8_eq 92 (by decide)
            have hes2 := Lib.hid (show escL (s.data.toList.take (k + 1)) = escL (s.data.toList.take k) ++ [x] by rw [hes.out, e2, e3]; rfl)
            clear e2 e3
            go_wp2_with (first | (at_builtin; refine wpList_byte (o := ⟨some 36, _, _, _, _, _⟩) rfl _ _ rfl w.heap.size (.slice av _ cv) (34 :: escL (s.data.toList.take k)) rfl (by apply Bytes.alloc; exact hown) ⟨wr.heap.size, 0, none⟩ 1 x rfl (new_cell _ _ _ _) (by have := HLE.out; simp; omega) (by simp; omega) ?_; intro v' w2 hown2 hg2) | (go_at_call 109; refine (text_any _ _).mono ?_; rintro e w' ⟨rfl, rfl⟩))
            go_roundw
            case rel => exact ⟨k + 1, by omega, by go_num, by rw [hes2.out]; exact hown2, (hfr.alloc _).grownNew hg2 hown.block, hnx.out⟩
            case measure => simp [intOf]; omega
          · have n1 : ((x.toNat : Int) == 34) = false := by rw [← e2]; exact u8_eq 34 (by decide)
            have n2 : ((x.toNat : Int) == 92) = true := by rw [← e3]; exact u8_eq 92 (by decide)
            have hes2 := Lib.hid (show escL (s.data.toList.take (k + 1)) = escL (s.data.toList.take k) ++ [92, x] by rw [hes.out]; simp only [e2, e3, Bool.or_true, if_true])
            clear e2 e3
            go_wp2_with (first | (at_builtin; refine wpList_byte (o := ⟨some 30, _, _, _, _, _⟩) rfl _ _ rfl w.heap.size (.slice av _ cv) (34 :: escL (s.data.toList.take k)) rfl (by apply Bytes.alloc; exact hown) ⟨wr.heap.size, 0, none⟩ 1 92 rfl (new_cell _ _ _ _) (by have := HLE.out; simp; omega) (by simp; omega) ?_; intro v1 w1 hown1 hg1; have hb1 : wr.heap.size + 1 ≤ w1.heap.size := by simpa using hg1.size) | (at_builtin; refine wpList_byte (o := ⟨some 36, _, _, _, _, _⟩) rfl _ _ rfl w.heap.size v1 (34 :: escL (s.data.toList.take k) ++ [92]) rfl (by apply Bytes.alloc; exact hown1) ⟨w1.heap.size, 0, none⟩ 1 x rfl (new_cell _ _ _ _) (by have := HLE.out; simp; omega) (by simp; omega) ?_; intro v' w2 hown2 hg2) | (go_at_call 109; refine (text_any _ _).mono ?_; rintro e w' ⟨rfl, rfl⟩))
            go_roundw
            case rel => exact ⟨k + 1, by omega, by go_num, by rw [hes2.out]; simpa using hown2, ((((hfr.alloc _).grownNew hg1 hown.block).alloc _).grownNew hg2 hown1.block), hnx.out⟩
            case measure => simp [intOf]; omega
        · have n1 : ((x.toNat : Int) == 34) = true := by rw [← e2]; exact u8_eq 34 (by decide)
          have hes2 := Lib.hid (show escL (s.data.toList.take (k + 1)) = escL (s.data.toList.take k) ++ [92, x] by rw [hes.out]; simp only [e2, Bool.true_or, if_true])
          clear e2
          go_wp2_with (first | (at_builtin; refine wpList_byte (o := ⟨some 30, _, _, _, _, _⟩) rfl _ _ rfl w.heap.size (.slice av _ cv) (34 :: escL (s.data.toList.take k)) rfl (by apply Bytes.alloc; exact hown) ⟨wr.heap.size, 0, none⟩ 1 92 rfl (new_cell _ _ _ _) (by have := HLE.out; simp; omega) (by simp; omega) ?_; intro v1 w1 hown1 hg1; have hb1 : wr.heap.size + 1 ≤ w1.heap.size := by simpa using hg1.size) | (at_builtin; refine wpList_byte (o := ⟨some 36, _, _, _, _, _⟩) rfl _ _ rfl w.heap.size v1 (34 :: escL (s.data.toList.take k) ++ [92]) rfl (by apply Bytes.alloc; exact hown1) ⟨w1.heap.size, 0, none⟩ 1 x rfl (new_cell _ _ _ _) (by have := HLE.out; simp; omega) (by simp; omega) ?_; intro v' w2 hown2 hg2) | (go_at_call 109; refine (text_any _ _).mono ?_; rintro e w' ⟨rfl, rfl⟩))
          go_roundw
          case rel => exact ⟨k + 1, by omega, by go_num, by rw [hes2.out]; simpa using hown2, ((((hfr.alloc _).grownNew hg1 hown.block).alloc _).grownNew hg2 hown1.block), hnx.out⟩
          case measure => simp [intOf]; omega
    · have hall2 := Lib.hid (show s.data.toList.take k = s.data.toList from List.take_of_length_le (by simp; omega))
      go_wp2_with (at_builtin; refine wpList_byte (o := ⟨some 40, _, _, _, _, _⟩) rfl _ _ rfl w.heap.size (.slice av _ cv) (34 :: escL (s.data.toList.take k)) rfl (by apply Bytes.alloc; exact hown) ⟨wr.heap.size, 0, none⟩ 1 34 rfl (new_cell _ _ _ _) (by have := HLE.out; simp; omega) (by simp; omega) ?_; intro v1 w1 hown1 hg1; obtain ⟨a1, c1, hv1⟩ := hown1.form; subst hv1; have ht1 := hown1.text; simp only [List.length_append, List.length_cons, List.length_nil, Nat.zero_add] at ht1)
      go_ret2
      refine ⟨?_, (hfr.alloc _).grownNew hg1 hown.block⟩
      have hall3 : textL s.data.toList = true := by rw [← hall2.out]; exact HALL.out
      rw [if_pos hall3, hall2.out]
      rfl
end Go.Proofs.YtkoobhgedoanhaaGreatDoor

namespace Go.Proofs.YtkoobhgedoanhaaGreatDoor
open Go.RowKit

def lowB (c : UInt8) : UInt8 := if 65 ≤ c.toNat ∧ c.toNat ≤ 90 then c + 32 else c
def lowL (l : List UInt8) : List UInt8 := l.map lowB
theorem lowB_toNat (c : UInt8) : (lowB c).toNat = if 65 ≤ c.toNat ∧ c.toNat ≤ 90 then c.toNat + 32 else c.toNat := by
  unfold lowB
  split
  · rename_i h
    rw [UInt8.toNat_add]
    have : (32 : UInt8).toNat = 32 := rfl
    rw [this]; omega
  · rfl

/-- block g is what []byte(s) has laid: the bytes l, spare room, and a mark behind its end -/
def RowAt (w : World) (g : Nat) (l : List UInt8) : Prop := ∃ t : List Value, w.heap[g]? = some (.cells (u8s l ++ t).toArray 5 ((u8s l ++ t).length, (u8s l ++ t).length + 1))
theorem RowAt.cell {w : World} {g : Nat} {l : List UInt8} (h : RowAt w g l) {j : Nat} {c : UInt8} (hj : l[j]? = some c) : w.cell? ⟨g, j, none⟩ = some (.int .u8 (c.toNat : Int)) := by
  obtain ⟨t, h⟩ := h
  obtain ⟨hl, he⟩ := List.getElem?_eq_some_iff.1 hj
  simp only [World.cell?, h]
  simp [u8s, List.getElem?_append_left, hl, he]
theorem RowAt.free {w : World} {g : Nat} {l : List UInt8} (h : RowAt w g l) {j : Nat} (hj : j < l.length) : w.frozen? ⟨g, j, none⟩ = false := by
  obtain ⟨t, h⟩ := h
  simp only [World.frozen?, h]
  simp [u8s]; omega
theorem RowAt.set {w : World} {g : Nat} {l : List UInt8} (h : RowAt w g l) {j : Nat} (hj : j < l.length) (c : UInt8) : RowAt (w.setCell ⟨g, j, none⟩ (.int .u8 (c.toNat : Int))) g (l.set j c) := by
  obtain ⟨t, h⟩ := h
  refine ⟨t, ?_⟩
  simp only [World.setCell, Array.getElem?_modify, h]
  simp [u8s, hj, List.map_set]
theorem RowAt.new (w : World) (s : ByteArray) (cap : Nat) : RowAt (w.drew.alloc (.cells (bytesRow s cap) 5 ((bytesRow s cap).size, (bytesRow s cap).size + 1))) w.heap.size s.data.toList := by
  refine ⟨List.replicate (cap - s.size) (Value.int .u8 0), ?_⟩
  have e : bytesRow s cap = (u8s s.data.toList ++ List.replicate (cap - s.size) (Value.int .u8 0)).toArray := by
    apply Array.toList_inj.1
    simp [bytesRow, u8s]
  have h := new_block w.drew (.cells (bytesRow s cap) 5 ((bytesRow s cap).size, (bytesRow s cap).size + 1))
  have h' : (w.drew.alloc (.cells (bytesRow s cap) 5 ((bytesRow s cap).size, (bytesRow s cap).size + 1))).heap[w.heap.size]? = some (.cells (bytesRow s cap) 5 ((bytesRow s cap).size, (bytesRow s cap).size + 1)) := h
  rw [h', e]; simp
theorem RowAt.text {w : World} {g : Nat} {l : List UInt8} (h : RowAt w g l) (n c : Nat) (hn : n = l.length) :
    (convert 95 9 (.slice (some ⟨g, 0, none⟩) n c)).run Tryz.prog w = .ok (.string ⟨l.toArray⟩) w := by
  subst hn
  refine run_convert_bytes_back (P := Tryz.prog) w 95 9 5 ⟨g, 0, none⟩ c l Tryz.underlying95 Tryz.underlying5 Tryz.underlying9 ?_
  intro j hj
  have ea : (Addr.add ⟨g, 0, none⟩ j) = ⟨g, j, none⟩ := by unfold Addr.add; split <;> simp_all
  rw [ea]
  exact h.cell (List.getElem?_eq_getElem hj)

/-- the first k bytes turned -/
def lowTo (l : List UInt8) (k : Nat) : List UInt8 := lowL (l.take k) ++ l.drop k
theorem lowTo_len (l : List UInt8) (k : Nat) : (lowTo l k).length = l.length := by simp [lowTo, lowL]; omega
theorem lowTo_at {l : List UInt8} {k : Nat} {x : UInt8} (h : l[k]? = some x) : (lowTo l k)[k]? = some x := by
  have hk := (List.getElem?_eq_some_iff.1 h).1
  unfold lowTo
  rw [List.getElem?_append_right (by simp [lowL]; omega)]
  have e : k - (lowL (l.take k)).length = 0 := by simp [lowL]; omega
  rw [e, drop_at h]; rfl
theorem lowTo_succ {l : List UInt8} {k : Nat} {x : UInt8} (h : l[k]? = some x) : lowTo l (k + 1) = (lowTo l k).set k (lowB x) := by
  have hk := (List.getElem?_eq_some_iff.1 h).1
  have el : (lowL (l.take k)).length = k := by simp [lowL]; omega
  unfold lowTo
  rw [drop_at h, List.take_add_one, h, List.set_append]
  rw [if_neg (by omega), show k - (lowL (l.take k)).length = 0 from by omega]
  simp [lowL]
theorem lowTo_same {l : List UInt8} {k : Nat} {x : UInt8} (h : l[k]? = some x) (hx : lowB x = x) : lowTo l (k + 1) = lowTo l k := by
  rw [lowTo_succ h, hx]
  apply List.ext_getElem?
  intro j
  by_cases hj : k = j
  · subst hj
    rw [lowTo_at h, List.getElem?_set_self (by rw [lowTo_len]; exact (List.getElem?_eq_some_iff.1 h).1)]
  · rw [List.getElem?_set_ne hj]
theorem lowTo_all (l : List UInt8) (k : Nat) (h : l.length ≤ k) : lowTo l k = lowL l := by
  unfold lowTo; rw [List.take_of_length_le h, List.drop_eq_nil_of_le h]; simp

def LowRel (s : ByteArray) (w : World) (i : Value) (wr : World) : Prop :=
  ∃ k : Nat, k ≤ s.size ∧ i = .int .i64 k ∧ RowAt wr w.heap.size (lowTo s.data.toList k) ∧ Fr noB w wr

set_option maxRecDepth 100000 in
set_option maxHeartbeats 1000000 in
theorem Lower_any (s : ByteArray) (w : World) (hs : s.size < 17592186044416) :
    Calls Tryz.prog 76 #[.string s] w fun e w' => e = .returned (.string ⟨(lowL s.data.toList).toArray⟩) ∧ Fr noB w w' := by
  have kc := fun (wx : World) => run_bytes_of_string (P := Tryz.prog) wx 9 95 5 s Tryz.underlying9 Tryz.underlying95 Tryz.underlying5
  go_enter Tryz.func76, Tryz.ntmps76
  go_wp2
  go_loopw [10] (LowRel s w) (fun i _ => s.size - (intOf i).toNat)
  case atStart => exact ⟨0, Nat.zero_le _, rfl, RowAt.new w s _, ((Fr.refl _ w).drew).alloc _⟩
  case round =>
    obtain ⟨k, hk, rfl, hrow, hfr⟩ := hrel
    by_cases hks : k < s.size
    · have hat := Lib.hid (byte_at s k hks)
      generalize hx : s[k] = x at hat
      have hc := hrow.cell (lowTo_at hat.out)
      have hf := hrow.free (j := k) (by rw [lowTo_len]; simpa using hks)
      by_cases h1 : 65 ≤ x.toNat
      · by_cases h2 : x.toNat ≤ 90
        · have hset := Lib.hid (hrow.set (j := k) (by rw [lowTo_len]; simpa using hks) (lowB x))
          have hsc := Lib.hid (lowTo_succ hat.out)
          have hlb := Lib.hid (show ((lowB x).toNat : Int) = (x.toNat : Int) + 32 by rw [lowB_toNat, if_pos ⟨h1, h2⟩]; omega)
          go_wp2
          go_roundw
          case rel => exact ⟨k + 1, by omega, by go_num, by rw [hsc.out]; have h := hset.out; rw [hlb.out] at h; exact h, hfr.setNew (p := ⟨w.heap.size, k, none⟩) (Nat.le_refl _) _⟩
          case measure => simp [intOf]; omega
        · have hsm := Lib.hid (lowTo_same hat.out (by unfold lowB; rw [if_neg (by omega)]))
          go_wp2
          go_roundw
          case rel => exact ⟨k + 1, by omega, by go_num, by rw [hsm.out]; exact hrow, hfr⟩
          case measure => simp [intOf]; omega
      · have hsm := Lib.hid (lowTo_same hat.out (by unfold lowB; rw [if_neg (by omega)]))
        go_wp2
        go_roundw
        case rel => exact ⟨k + 1, by omega, by go_num, by rw [hsm.out]; exact hrow, hfr⟩
        case measure => simp [intOf]; omega
    · have hrow2 := hrow
      rw [lowTo_all s.data.toList k (by simp; omega)] at hrow2
      have htext := fun c => hrow2.text s.size c (by simp [lowL])
      go_wp2
      go_ret
      exact ⟨rfl, hfr⟩

/-- token.Same -/
def sameL (a b : List UInt8) : Bool := lowL a == lowL b
set_option maxHeartbeats 1000000 in
theorem Same_any (a b : ByteArray) (w : World) (ha : a.size < 17592186044416) (hb : b.size < 17592186044416) :
    Calls Tryz.prog 50 #[.string a, .string b] w fun e w' => e = .returned (.bool (sameL a.data.toList b.data.toList)) ∧ Fr noB w w' := by
  go_enter Tryz.func50, Tryz.ntmps50
  go_wp2_with fail
  refine (Lower_any a w ha).mono ?_
  rintro e w1 ⟨rfl, hf1⟩
  go_wp2_with fail
  refine (Lower_any b w1 hb).mono ?_
  rintro e w2 ⟨rfl, hf2⟩
  go_wp2
  go_ret
  exact ⟨ret_bool (by simp [sameL]), hf1.trans hf2⟩
end Go.Proofs.YtkoobhgedoanhaaGreatDoor

namespace Go.Proofs.YtkoobhgedoanhaaGreatDoor
open Go.RowKit

/-- v reads as the strings ss -/
def StrsAt (w : World) (v : Value) (ss : List ByteArray) : Prop :=
  (∃ a c, v = .slice a 0 c ∧ ss = [] ∧ (a = none → c = 0)) ∨
  ∃ bk o c, v = .slice (some ⟨bk, o, none⟩) ss.length c ∧ ss.length ≤ c ∧ c ≤ maxLen ∧ bk < w.heap.size ∧ ∀ (j : Nat) x, ss[j]? = some x → w.cell? ⟨bk, o + j, none⟩ = some (.string x)
theorem StrsAt.nil (w : World) : StrsAt w (.slice none 0 0) [] := Or.inl ⟨_, _, rfl, rfl, fun _ => rfl⟩
theorem StrsAt.fr {S : Nat → Prop} {w w' : World} {v : Value} {ss : List ByteArray} (h : StrsAt w v ss) (hf : Fr S w w') (hn : ∀ k, v.ownBlock = some k → ¬ S k) : StrsAt w' v ss := by
  rcases h with h | ⟨bk, o, c, hv, h1, h2, h3, h4⟩
  · exact Or.inl h
  · refine Or.inr ⟨bk, o, c, hv, h1, h2, Nat.lt_of_lt_of_le h3 hf.size, fun j x hj => ?_⟩
    rw [hf.cell (p := ⟨bk, o + j, none⟩) h3 (hn bk (by rw [hv]; rfl))]
    exact h4 j x hj
theorem StrsAt.frNone {w w' : World} {v : Value} {ss : List ByteArray} (h : StrsAt w v ss) (hf : Fr noB w w') : StrsAt w' v ss := h.fr hf (fun _ _ h => h)
theorem StrsAt.form {w : World} {v : Value} {ss : List ByteArray} (h : StrsAt w v ss) : ∃ a c, v = .slice a ss.length c := by
  rcases h with ⟨a, c, hv, hs, _⟩ | ⟨bk, o, c, hv, _⟩
  · exact ⟨a, c, by rw [hv, hs]; rfl⟩
  · exact ⟨_, _, hv⟩

theorem info_str : (Tryz.prog.info? 9).map (fun i => (i.zero, i.size, i.bytes)) = some (some (.string ⟨#[]⟩), 1, 16) := by kernel_rfl

/-- v is a slice of the call's own (blocks from base on) that holds the strings ss -/
def Strs (base : Nat) (w : World) (v : Value) (ss : List ByteArray) : Prop := w.ownsRow base 9 1 v ss.length (ss.map Value.string)
section
variable {base : Nat} {w w' : World} {v : Value} {ss : List ByteArray}
theorem Strs.nil (base : Nat) (w : World) : Strs base w (.slice none 0 0) [] := World.ownsRow_nil _ _ _ _
theorem Strs.alloc (h : Strs base w v ss) (o : Obj) : Strs base (w.alloc o) v ss := World.ownsRow.alloc h o
theorem Strs.drewN {n : Nat} (h : Strs base w v ss) : Strs base (w.drewN n) v ss := h
theorem Strs.drew (h : Strs base w v ss) : Strs base w.drew v ss := h
theorem Strs.form (h : Strs base w v ss) : ∃ a c, v = .slice a ss.length c := by
  rcases h.2 with ⟨hv, hn⟩ | ⟨g, cap, cur, hv, _⟩
  · exact ⟨none, 0, by rw [hv, hn]⟩
  · exact ⟨_, _, hv⟩
theorem Strs.fr {S : Nat → Prop} (h : Strs base w v ss) (hf : Fr S w w') (hS : ∀ k, S k → k < base) : Strs base w' v ss := by
  obtain ⟨h1, h2⟩ := h
  refine ⟨h1, ?_⟩
  rcases h2 with h2 | ⟨g, cap, cur, hv, hg, hh, r⟩
  · exact Or.inl h2
  · exact Or.inr ⟨g, cap, cur, hv, hg, hf.keep hh (fun hs => absurd (hS g hs) (by omega)), r⟩
theorem Strs.block (h : Strs base w v ss) : ∀ k, v.ownBlock = some k → base ≤ k := by
  intro k hk
  rcases h.2 with ⟨hv, _⟩ | ⟨g, cap, cur, hv, hg, _⟩
  · rw [hv] at hk; simp [Value.ownBlock] at hk
  · rw [hv] at hk; simp [Value.ownBlock] at hk; omega
theorem Strs.at (h : Strs base w v ss) : StrsAt w v ss := by
  obtain ⟨h1, h2⟩ := h
  rcases h2 with ⟨hv, hn⟩ | ⟨g, cap, cur, hv, hg, hh, h3, h4, h5, h6⟩
  · exact Or.inl ⟨none, 0, hv, List.eq_nil_of_length_eq_zero hn, fun _ => rfl⟩
  · refine Or.inr ⟨g, 0, cap, hv, h3, h4, lt_of_some hh, fun j x hj => ?_⟩
    have hl := (List.getElem?_eq_some_iff.1 hj).1
    have e : (cur.toList.take (ss.length * 1))[j]? = some (.string x) := by rw [h6]; simp [hj]
    rw [List.getElem?_take_of_lt (by omega)] at e
    have e2 : cur[j]? = some (.string x) := by simpa using e
    simp [World.cell?, hh, e2]
end

/-- l = append(l, x): one string -/
theorem wpList_str {ops : Array Oper} {rest : List Oper} {o : Oper} {a : Act} {Q : Exit → Act → World → Prop} {w : World} (hgd : o.guard = none) (s x : Operand)
    (ho : o.op = .call { callee := .builtin .append, args := #[s, x], argTypes := #[22, 22] }) (base : Nat) (v : Value) (l : List ByteArray) (hs : a.eval s = v) (hown : Strs base w v l)
    (ad : Addr) (c : Nat) (y : ByteArray) (hx : a.eval x = .slice (some ad) 1 c) (hy : w.cell? ad = some (.string y)) (hlen : l.length < 4398046511104) (hbase : base ≤ w.heap.size)
    (h : ∀ v' w', Strs base w' v' (l ++ [y]) → w.grownBy w' v.ownBlock → wpList Tryz.prog ops Q rest (a.put o.dst v') w') : wpList Tryz.prog ops Q (o :: rest) a w := by
  obtain ⟨i0, hi, hz0, hz1, hz2⟩ := info_parts info_str
  refine wpList_append_own w hgd s x 22 ho base 9 i0 (.string ⟨#[]⟩) 1 16 Tryz.underlying22 hi hz0 hz1 hz2 rfl (by decide) v l.length (l.map Value.string) hs hown ad 1 c [.string y] hx rfl ?_ ?_ ?_ ?_ hbase ?_
  · intro j u hj
    match j, hj with
    | 0, hj => simp at hj; subst hj; simpa [Addr.add] using hy
  · intro u hu; simp at hu; subst hu; rfl
  · unfold maxLen; omega
  · omega
  · intro v' w' h1 h2 _
    exact h v' w' (by unfold Strs; simpa using h1) h2

/-- slices.Equal at strings -/
theorem EqualS_any (v1 v2 : Value) (xs ys : List ByteArray) (w : World) (h1 : StrsAt w v1 xs) (h2 : StrsAt w v2 ys) (hl : ys.length ≤ maxLen) :
    Calls Tryz.prog 48 #[v1, v2] w fun e w' => e = .returned (.bool (decide (xs = ys))) ∧ ∃ q, w' = w.drewN q := by
  unfold maxLen at hl
  obtain ⟨a1, c1, f1⟩ := h1.form
  obtain ⟨a2, c2, f2⟩ := h2.form
  by_cases hn : xs.length = ys.length
  · by_cases h0 : xs.length = 0
    · have e1 : xs = [] := List.eq_nil_of_length_eq_zero h0
      have e2 : ys = [] := List.eq_nil_of_length_eq_zero (by omega)
      subst e1; subst e2
      rw [f1, f2]
      exact (Tryz.slices_Equal_string_empty a1 a2 c1 0 c2 w (by omega)).mono fun e w' ⟨he, hw⟩ => ⟨by rw [he]; simp, 0, hw⟩
    · rcases h1 with ⟨_, _, _, e, _⟩ | ⟨b1, o1, d1, g1, k1, k2, k3, k4⟩
      · rw [e] at h0; exact absurd rfl h0
      rcases h2 with ⟨_, _, _, e, _⟩ | ⟨b2, o2, d2, g2, l1, l2, l3, l4⟩
      · rw [e] at hn; exact absurd (hn.trans rfl) h0
      rw [g1, g2]
      have hcx : ∀ j, j < xs.length → w.cell? ⟨b1, o1 + j, none⟩ = some (.string (xs.getD j ByteArray.empty)) := fun j hj => k4 j _ (by simp [List.getD, hj])
      have hcy : ∀ j, j < ys.length → w.cell? ⟨b2, o2 + j, none⟩ = some (.string (ys.getD j ByteArray.empty)) := fun j hj => l4 j _ (by simp [List.getD, hj])
      refine (Tryz.slices_Equal_string b1 o1 xs.length d1 b2 o2 ys.length d2 xs ys w (Nat.le_refl _) (Nat.le_refl _) (by omega) (by omega) hcx hcy).mono fun e w' ⟨he, hw⟩ => ⟨?_, hw⟩
      rw [he]; simp
  · rw [f1, f2]
    refine (Tryz.slices_Equal_string_lens a1 a2 xs.length c1 ys.length c2 w hn).mono fun e w' ⟨he, hw⟩ => ⟨?_, 0, hw⟩
    rw [he, decide_eq_false (fun e => hn (by rw [e]))]

end Go.Proofs.YtkoobhgedoanhaaGreatDoor

namespace Go.Proofs.YtkoobhgedoanhaaGreatDoor
open Go.RowKit

/-- an error: nil, an Errno, or one with a place -/
def ErrIs (w : World) (v : Value) : Option (Nat × Option Nat) → Prop
  | none => v = .nilIface
  | some (n, none) => v = .iface 93 (.int .i64 n)
  | some (n, some p) => ∃ g, v = .iface 148 (.pointer (some ⟨g, 0, none⟩)) ∧ w.heap[g]? = some (.cells #[.int .i64 n, .int .i64 p] 150 (0, 0))

/-- the words of a list, read off what is left of it; else how many bytes are left where it falls -/
def listN : Nat → List UInt8 → Except Nat (List (List UInt8))
  | 0, _ => .ok []
  | f + 1, r =>
    let r1 := r.dropWhile blankB
    let w := r1.takeWhile byteB
    let r3 := (r1.dropWhile byteB).dropWhile blankB
    let ws := if w.isEmpty then [] else [w]
    match r3 with
    | [] => .ok ws
    | c :: r4 => if c == 44 then (listN f r4).map (ws ++ ·) else .error (r4.length + 1)
def listAll (l : List UInt8) : Except Nat (List (List UInt8)) := listN (l.length + 1) l

theorem dropWhile_eq_drop (p : UInt8 → Bool) (l : List UInt8) : l.dropWhile p = l.drop (l.takeWhile p).length := by
  induction l with
  | nil => rfl
  | cons a t ih => by_cases h : p a <;> simp [h, ih]
theorem drop_spanEnd (p : UInt8 → Bool) (l : List UInt8) (i : Nat) : l.drop (spanEnd p l i) = (l.drop i).dropWhile p := by
  rw [dropWhile_eq_drop, List.drop_drop, spanEnd]
theorem takeWhile_eq_take (p : UInt8 → Bool) (l : List UInt8) : l.takeWhile p = l.take (l.takeWhile p).length := by
  induction l with
  | nil => rfl
  | cons a t ih => by_cases h : p a <;> simp [h]; exact ih
theorem extract_span (p : UInt8 → Bool) (s : ByteArray) (i : Nat) : (s.extract i (spanEnd p s.data.toList i)) = ⟨((s.data.toList.drop i).takeWhile p).toArray⟩ := by
  apply Go.WideShapes.bytes_inj
  rw [Lib.extract_data, takeWhile_eq_take, List.take_drop]
  rw [spanEnd, List.drop_take]
  generalize (List.takeWhile p (List.drop i s.data.toList)).length = n
  rw [show i + (i + n - i) - i = n from by omega]
def wordsB (l : List (List UInt8)) : List ByteArray := l.map fun w => ⟨w.toArray⟩

/-- a round of the list's loop: where it comes to -/
def lk1 (l : List UInt8) (k : Nat) : Nat := spanEnd blankB l k
def lk2 (l : List UInt8) (k : Nat) : Nat := spanEnd byteB l (lk1 l k)
def lk3 (l : List UInt8) (k : Nat) : Nat := spanEnd blankB l (lk2 l k)
def lword (l : List UInt8) (k : Nat) : List UInt8 := (l.drop (lk1 l k)).takeWhile byteB
def lws (l : List UInt8) (k : Nat) : List (List UInt8) := if (lword l k).isEmpty then [] else [lword l k]

theorem listN_round (f : Nat) (l : List UInt8) (k : Nat) : listN (f + 1) (l.drop k) =
    match l.drop (lk3 l k) with
    | [] => .ok (lws l k)
    | c :: r4 => if c == 44 then (listN f r4).map (lws l k ++ ·) else .error (r4.length + 1) := by
  rw [listN]
  simp only [lk3, lk2, lk1, drop_spanEnd, lws, lword]
theorem listN_end {f : Nat} {l : List UInt8} {k : Nat} (h : l.length ≤ lk3 l k) : listN (f + 1) (l.drop k) = .ok (lws l k) := by
  rw [listN_round, List.drop_eq_nil_of_le h]
theorem listN_comma {f : Nat} {l : List UInt8} {k : Nat} (h : l[lk3 l k]? = some 44) : listN (f + 1) (l.drop k) = (listN f (l.drop (lk3 l k + 1))).map (lws l k ++ ·) := by
  rw [listN_round, drop_at h]; rfl
theorem listN_bad {f : Nat} {l : List UInt8} {k : Nat} {c : UInt8} (h : l[lk3 l k]? = some c) (hc : (c == 44) = false) : listN (f + 1) (l.drop k) = .error (l.length - lk3 l k) := by
  rw [listN_round, drop_at h]; simp only [hc, Bool.false_eq_true, if_false]
  have := (List.getElem?_eq_some_iff.1 h).1
  simp; omega
theorem lk_mono (l : List UInt8) (k : Nat) : k ≤ lk1 l k ∧ lk1 l k ≤ lk2 l k ∧ lk2 l k ≤ lk3 l k := ⟨spanEnd_ge, spanEnd_ge, spanEnd_ge⟩
theorem lk_le {l : List UInt8} {k : Nat} (h : k ≤ l.length) : lk1 l k ≤ l.length ∧ lk2 l k ≤ l.length ∧ lk3 l k ≤ l.length :=
  ⟨spanEnd_le h, spanEnd_le (spanEnd_le h), spanEnd_le (spanEnd_le (spanEnd_le h))⟩
theorem span_idem (p : UInt8 → Bool) (l : List UInt8) (k : Nat) : spanEnd p l (spanEnd p l k) = spanEnd p l k := by
  unfold spanEnd
  have h : (l.drop (k + ((l.drop k).takeWhile p).length)).takeWhile p = [] := by
    rw [← List.drop_drop, ← dropWhile_eq_drop]
    cases hd : (l.drop k).dropWhile p with
    | nil => rfl
    | cons a t =>
      have := List.head_dropWhile_not p (l := l.drop k) (by rw [hd]; simp)
      simp only [hd, List.head_cons] at this
      simp [this]
  rw [h]; rfl
theorem lword_empty {l : List UInt8} {k : Nat} (h : lword l k = []) : lk2 l k = lk1 l k ∧ lk3 l k = lk1 l k := by
  have h1 : lk2 l k = lk1 l k := by unfold lk2 spanEnd; rw [show (l.drop (lk1 l k)).takeWhile byteB = [] from h]; rfl
  exact ⟨h1, by unfold lk3; rw [h1]; exact span_idem _ _ _⟩

theorem listN_fuel : ∀ (f : Nat) {r : List UInt8}, r.length < f → listN f r = listN (r.length + 1) r
  | 0, _, h => absurd h (Nat.not_lt_zero _)
  | f + 1, r, h => by
    have key : ∀ (c : UInt8) (r4 : List UInt8), ((r.dropWhile blankB).dropWhile byteB).dropWhile blankB = c :: r4 → r4.length < r.length := by
      intro c r4 e
      have h1 := ((List.dropWhile_suffix (p := blankB) (l := (r.dropWhile blankB).dropWhile byteB))).length_le
      have h2 := ((List.dropWhile_suffix (p := byteB) (l := r.dropWhile blankB))).length_le
      have h3 := ((List.dropWhile_suffix (p := blankB) (l := r))).length_le
      rw [e] at h1; simp at h1; omega
    rw [listN, listN]
    cases e : ((r.dropWhile blankB).dropWhile byteB).dropWhile blankB with
    | nil => rfl
    | cons c r4 =>
      have hk := key c r4 e
      simp only
      rw [listN_fuel f (show r4.length < f by omega), listN_fuel r.length hk]

/-- the outcome, as Go tells it -/
def ListPost (s : ByteArray) (w : World) (e : Ending) (w' : World) : Prop :=
  ∃ v er, e = .returned (.tuple #[v, er]) ∧ Fr noB w w' ∧
    match listAll s.data.toList with
    | .ok ws => if 40 < ws.length then v = .slice none 0 0 ∧ ErrIs w' er (some (4, none)) else Strs w.heap.size w' v (wordsB ws) ∧ er = .nilIface
    | .error m => v = .slice none 0 0 ∧ ErrIs w' er (some (3, some (s.size - m)))
theorem ListPost.ok {s : ByteArray} {w w' : World} {v : Value} {ws : List (List UInt8)} (h : listAll s.data.toList = .ok ws) (hn : ws.length ≤ 40) (hv : Strs w.heap.size w' v (wordsB ws)) (hf : Fr noB w w') :
    ListPost s w (.returned (.tuple #[v, .nilIface])) w' := ⟨v, _, rfl, hf, by rw [h]; show (if 40 < ws.length then _ else _); rw [if_neg (show ¬ 40 < ws.length by omega)]; exact ⟨hv, rfl⟩⟩
theorem ListPost.long {s : ByteArray} {w w' : World} {ws : List (List UInt8)} (h : listAll s.data.toList = .ok ws) (hn : 40 < ws.length) (hf : Fr noB w w') :
    ListPost s w (.returned (.tuple #[.slice none 0 0, .iface 93 (.int .i64 4)])) w' := ⟨_, _, rfl, hf, by rw [h]; show (if 40 < ws.length then _ else _); rw [if_pos hn]; exact ⟨rfl, rfl⟩⟩
theorem ListPost.bad {s : ByteArray} {w w' : World} {m g : Nat} (h : listAll s.data.toList = .error m) (hg : w'.heap[g]? = some (.cells #[.int .i64 3, .int .i64 (s.size - m : Nat)] 150 (0, 0))) (hf : Fr noB w w') :
    ListPost s w (.returned (.tuple #[.slice none 0 0, .iface 148 (.pointer (some ⟨g, 0, none⟩))])) w' := ⟨_, _, rfl, hf, by rw [h]; exact ⟨rfl, g, rfl, hg⟩⟩

def LRel (s : ByteArray) (w : World) (v : Value) (wr : World) : Prop :=
  ∃ k acc, k ≤ s.size ∧ acc.length ≤ k ∧ CurAt wr w.heap.size s k ∧ Strs (w.heap.size + 1) wr v (wordsB acc) ∧ Fr noB w wr ∧
    listAll s.data.toList = (listN (s.size - k + 1) (s.data.toList.drop k)).map (acc ++ ·)

theorem Fr.newOne {w wr w1 : World} {c : Nat} (h : Fr noB w wr) (g : Fr (one c) wr w1) (hc : w.heap.size ≤ c) : Fr noB w w1 := h.step g (fun k hk e => by have e' : k = c := e; omega)
theorem wordsB_snoc (a : List (List UInt8)) (x : List UInt8) : wordsB (a ++ [x]) = wordsB a ++ [⟨x.toArray⟩] := by simp [wordsB]
theorem wordsB_len (a : List (List UInt8)) : (wordsB a).length = a.length := by simp [wordsB]
theorem lws_one {l : List UInt8} {k : Nat} (h : lword l k ≠ []) : lws l k = [lword l k] := by unfold lws; rw [if_neg (by simpa using h)]
theorem lws_none {l : List UInt8} {k : Nat} (h : lword l k = []) : lws l k = [] := by unfold lws; rw [h]; rfl
theorem err_block {w : World} {o : Obj} {g : Nat} (h : g = w.heap.size) : (w.alloc o).heap[g]? = some o := by rw [h]; exact new_block w o
theorem map_ok {a b : List (List UInt8)} {r : Except Nat (List (List UInt8))} (h : r = .ok b) : r.map (a ++ ·) = .ok (a ++ b) := by rw [h]; rfl
theorem map_error {a : List (List UInt8)} {m : Nat} {r : Except Nat (List (List UInt8))} (h : r = .error m) : r.map (a ++ ·) = .error m := by rw [h]; rfl
theorem map_map {a b : List (List UInt8)} (r : Except Nat (List (List UInt8))) : (r.map (b ++ ·)).map (a ++ ·) = r.map ((a ++ b) ++ ·) := by cases r <;> simp [Except.map]

theorem ownsRow_up {b b' : Nat} {w : World} {v : Value} {ss : List ByteArray} (h : Strs b' w v ss) (hb : b ≤ b') : Strs b w v ss := by
  obtain ⟨h1, h2⟩ := h
  refine ⟨h1, ?_⟩
  rcases h2 with h2 | ⟨g, cap, cur, hv, hg, r⟩
  · exact Or.inl h2
  · exact Or.inr ⟨g, cap, cur, hv, Nat.le_trans hb hg, r⟩

set_option maxRecDepth 100000 in
set_option maxHeartbeats 2000000 in
theorem List_any (s : ByteArray) (w : World) (hs : s.size < 4398046511104) :
    Calls Tryz.prog 44 #[.string s] w (ListPost s w) := by
  have hm : s.size ≤ maxLen := by unfold maxLen; omega
  go_enter Tryz.func44, Tryz.ntmps44
  go_wp2_with (go_at_call 46; refine (On_any _ _).mono ?_; rintro e w1 ⟨rfl, rfl⟩)
  go_loopw [4] (LRel s w) (fun _ wr => s.size - curPos wr w.heap.size)
  case atStart => exact ⟨0, [], Nat.zero_le _, Nat.le_refl _, new_block _ _, Strs.nil _ _, (Fr.refl _ _).alloc _, by rw [List.drop_zero]; cases h : listN (s.size - 0 + 1) s.data.toList <;> simp [listAll, Except.map] <;> simpa using h⟩
  case round =>
    obtain ⟨k, acc, hk, hacc, hc, hown, hfr, hres⟩ := hrel
    have HRES := Lib.hid hres
    clear hres
    have hbase : w.heap.size + 1 ≤ wr.heap.size := hc.lt
    have hmono := lk_mono s.data.toList k
    have hle := lk_le (l := s.data.toList) (k := k) (by simpa using hk)
    have hsz : s.data.toList.length = s.size := by simp
    rw [hsz] at hle
    obtain ⟨m1, m2, m3⟩ := hmono
    obtain ⟨q1, q2, q3⟩ := hle
    have hpos := Lib.hid hc.pos
    obtain ⟨acc2, hacc2⟩ : ∃ x, x = acc ++ lws s.data.toList k := ⟨_, rfl⟩
    have HACC := Lib.hid hacc2
    clear hacc2
    go_wp2_with fail
    refine (Blanks_any _ s k wr hc hm hk).mono ?_
    rintro e w1 ⟨rfl, hc1, hf1⟩
    have HF1 := hfr.newOne hf1 (Nat.le_refl _)
    have hown1 := hown.fr hf1 (fun k hk => by have e : k = w.heap.size := hk; omega)
    have hs1 : w.heap.size + 1 ≤ w1.heap.size := hc1.lt
    go_wp2_with fail
    refine (Word_any _ s _ w1 hc1 hm q1).mono ?_
    rintro e w2 ⟨rfl, hc2, hf2⟩
    have HF2 := HF1.newOne hf2 (Nat.le_refl _)
    have hown2 := hown1.fr hf2 (fun k hk => by have e : k = w.heap.size := hk; omega)
    have hs2 : w.heap.size + 1 ≤ w2.heap.size := hc2.lt
    have hc2' : CurAt w2 w.heap.size s (lk2 s.data.toList k) := hc2
    rw [extract_span]
    have hW : ((s.data.toList.drop (spanEnd blankB s.data.toList k)).takeWhile byteB) = lword s.data.toList k := rfl
    rw [hW]
    clear hW hc2 hc1 hf1 hf2
    generalize hW2 : lword s.data.toList k = W
    have HW := Lib.hid hW2
    clear hW2
    cases W with
    | nil =>
      have hem := Lib.hid (lword_empty HW.out)
      have hc3 : CurAt w2 w.heap.size s (lk3 s.data.toList k) := by have h := hc2'; rw [hem.out.1, ← hem.out.2] at h; exact h
      have hv3 : Strs (w.heap.size + 1) w2 u4 (wordsB acc2) := by rw [HACC.out, lws_none HW.out, List.append_nil]; exact hown2
      clear hc2' hown2 hown1 hown
      have hlen : acc2.length ≤ k + 1 := by have e := HACC.out; rw [lws_none HW.out, List.append_nil] at e; rw [e]; omega
      obtain ⟨av, cv, hv⟩ := hv3.form
      subst hv
      go_wp2_with fail
      by_cases hend : s.size ≤ lk3 s.data.toList k
      · have hfin := Lib.hid (show listAll s.data.toList = .ok acc2 by rw [HRES.out, map_ok (listN_end (by simpa using hend)), HACC.out])
        have hd : decide (s.size ≤ lk3 s.data.toList k) = true := by simpa using hend
        refine (End_any _ s _ w2 hc3).mono ?_
        rintro e w4 ⟨rfl, n4, rfl⟩
        rw [hd]
        by_cases h40 : 40 < (wordsB acc2).length
        · have h40' : ((40 : Int) < ((wordsB acc2).length : Int)) := by omega
          go_wp2
          go_ret2
          exact ListPost.long hfin.out (by rw [wordsB_len] at h40; exact h40) (HF2.drewN _)
        · have h40' : ¬ ((40 : Int) < ((wordsB acc2).length : Int)) := by omega
          go_wp2
          go_ret2
          exact ListPost.ok hfin.out (by rw [wordsB_len] at h40; omega) (ownsRow_up hv3 (Nat.le_succ _)) (HF2.drewN _)
      · have hd : decide (s.size ≤ lk3 s.data.toList k) = false := by simpa using hend
        refine (End_any _ s _ w2 hc3).mono ?_
        rintro e w4 ⟨rfl, n4, rfl⟩
        rw [hd]
        have hc4 : CurAt (w2.drewN n4) w.heap.size s (lk3 s.data.toList k) := hc3
        have hv4 : Strs (w.heap.size + 1) (w2.drewN n4) _ (wordsB acc2) := hv3
        have HF4 := HF2.drewN n4
        go_wp2_with fail
        refine (Mark_any _ s _ 44 _ hc4 hm).mono ?_
        rintro e w5 ⟨rfl, hc5, hf5⟩
        have HF5 := HF4.newOne hf5 (Nat.le_refl _)
        have hv5 := hv4.fr hf5 (fun k hk => by have e : k = w.heap.size := hk; omega)
        have hlt : lk3 s.data.toList k < s.data.toList.length := by simpa using hend
        have hat := Lib.hid (List.getElem?_eq_getElem hlt)
        cases e1 : markB s (lk3 s.data.toList k) 44
        · have hfin := Lib.hid (show listAll s.data.toList = .error (s.data.toList.length - lk3 s.data.toList k) by
            rw [HRES.out, map_error (listN_bad hat.out (by have h := e1; unfold markB at h; rw [hat.out] at h; simpa using h))])
          rw [markTo_no e1] at hc5
          have c1 := hc5.cell1
          have hpl := Lib.hid (show s.size - (s.data.toList.length - lk3 s.data.toList k) = lk3 s.data.toList k by rw [hsz] at hlt ⊢; omega)
          go_wp2
          go_region
          all_goals
            go_wp2
            go_ret2
            exact ListPost.bad hfin.out (by rw [hpl.out]; exact new_block w5 _) ((HF5.alloc _).drew)
        · have hfin := Lib.hid (show listAll s.data.toList = (listN (s.size - (lk3 s.data.toList k + 1) + 1) (s.data.toList.drop (lk3 s.data.toList k + 1))).map (acc2 ++ ·) by
            rw [HRES.out, HACC.out, listN_comma (by have h := e1; unfold markB at h; simpa using h), map_map]
            rw [listN_fuel (f := s.size - k) (by simp; omega), listN_fuel (f := s.size - (lk3 s.data.toList k + 1) + 1) (by simp)])
          rw [markTo_yes e1] at hc5
          go_wp2
          go_roundw
          case rel => exact ⟨_, acc2, by omega, by omega, hc5, hv5, HF5, hfin.out⟩
          case measure => rw [hpos.out, hc5.pos]; omega
    | cons x W' =>
      have hne : lword s.data.toList k ≠ [] := by rw [HW.out]; simp
      have HNE := Lib.hid hne
      clear hne
      have HSN := Lib.hid (show wordsB acc2 = wordsB acc ++ [⟨(x :: W').toArray⟩] by rw [HACC.out, lws_one HNE.out, HW.out, wordsB_snoc])
      have hlen : acc2.length ≤ k + 1 := by have e := HACC.out; rw [lws_one HNE.out] at e; rw [e]; simp; omega
      obtain ⟨av, cv, hv⟩ := hown2.form
      subst hv
      have hlA : acc.length < 4398046511104 := by omega
      have hwl := Lib.hid (wordsB_len acc)
      clear hown1 hown
      go_wp2_with (at_builtin; refine wpList_str rfl _ _ rfl (w.heap.size + 1) (.slice av _ cv) (wordsB acc) rfl (by apply Strs.alloc; exact hown2) ⟨w2.heap.size, 0, none⟩ 1 ⟨(x :: W').toArray⟩ rfl (new_cell _ _ _ _) (by rw [hwl.out]; exact hlA) (by simp; omega) ?_; intro v' w3 hown3 hg3)
      have hc2a : CurAt w3 w.heap.size s (lk2 s.data.toList k) := by
        have h2 : CurAt (w2.alloc (.cells #[.string ⟨(x :: W').toArray⟩] 9)) w.heap.size s (lk2 s.data.toList k) := hc2'.alloc
        unfold CurAt at h2 ⊢
        rw [hg3.block _ (lt_of_some h2) (fun e => by have := hown2.block _ e.symm; omega)]
        exact h2
      have HF3 := (HF2.alloc (.cells #[.string ⟨(x :: W').toArray⟩] 9)).grownNew hg3 (fun k hk => by have := hown2.block k hk; omega)
      rw [← HSN.out] at hown3
      clear hown2 hg3 hc2'
      have hs3 : w.heap.size + 1 ≤ w3.heap.size := hc2a.lt
      go_wp2_with fail
      refine (Blanks_any _ s _ w3 hc2a hm q2).mono ?_
      rintro e w6 ⟨rfl, hc3, hf6⟩
      have hc3 : CurAt w6 w.heap.size s (lk3 s.data.toList k) := hc3
      have HF6 := HF3.newOne hf6 (Nat.le_refl _)
      have hv3 := hown3.fr hf6 (fun k hk => by have e : k = w.heap.size := hk; omega)
      clear hown3 hf6 hc2a
      have hs6 : w.heap.size + 1 ≤ w6.heap.size := hc3.lt
      obtain ⟨av3, cv3, hv⟩ := hv3.form
      subst hv
      go_wp2_with fail
      by_cases hend : s.size ≤ lk3 s.data.toList k
      · have hfin := Lib.hid (show listAll s.data.toList = .ok acc2 by rw [HRES.out, map_ok (listN_end (by simpa using hend)), HACC.out])
        have hd : decide (s.size ≤ lk3 s.data.toList k) = true := by simpa using hend
        refine (End_any _ s _ w6 hc3).mono ?_
        rintro e w4 ⟨rfl, n4, rfl⟩
        rw [hd]
        by_cases h40 : 40 < (wordsB acc2).length
        · have h40' : ((40 : Int) < ((wordsB acc2).length : Int)) := by omega
          go_wp2
          go_ret2
          exact ListPost.long hfin.out (by rw [wordsB_len] at h40; exact h40) (HF6.drewN _)
        · have h40' : ¬ ((40 : Int) < ((wordsB acc2).length : Int)) := by omega
          go_wp2
          go_ret2
          exact ListPost.ok hfin.out (by rw [wordsB_len] at h40; omega) (ownsRow_up hv3 (Nat.le_succ _)) (HF6.drewN _)
      · have hd : decide (s.size ≤ lk3 s.data.toList k) = false := by simpa using hend
        refine (End_any _ s _ w6 hc3).mono ?_
        rintro e w4 ⟨rfl, n4, rfl⟩
        rw [hd]
        have hc4 : CurAt (w6.drewN n4) w.heap.size s (lk3 s.data.toList k) := hc3
        have hv4 : Strs (w.heap.size + 1) (w6.drewN n4) _ (wordsB acc2) := hv3
        have HF4 := HF6.drewN n4
        go_wp2_with fail
        refine (Mark_any _ s _ 44 _ hc4 hm).mono ?_
        rintro e w5 ⟨rfl, hc5, hf5⟩
        have HF5 := HF4.newOne hf5 (Nat.le_refl _)
        have hv5 := hv4.fr hf5 (fun k hk => by have e : k = w.heap.size := hk; omega)
        have hlt : lk3 s.data.toList k < s.data.toList.length := by simpa using hend
        have hat := Lib.hid (List.getElem?_eq_getElem hlt)
        cases e1 : markB s (lk3 s.data.toList k) 44
        · have hfin := Lib.hid (show listAll s.data.toList = .error (s.data.toList.length - lk3 s.data.toList k) by
            rw [HRES.out, map_error (listN_bad hat.out (by have h := e1; unfold markB at h; rw [hat.out] at h; simpa using h))])
          rw [markTo_no e1] at hc5
          have c1 := hc5.cell1
          have hpl := Lib.hid (show s.size - (s.data.toList.length - lk3 s.data.toList k) = lk3 s.data.toList k by rw [hsz] at hlt ⊢; omega)
          go_wp2
          go_region
          all_goals
            go_wp2
            go_ret2
            exact ListPost.bad hfin.out (by rw [hpl.out]; exact new_block w5 _) ((HF5.alloc _).drew)
        · have hfin := Lib.hid (show listAll s.data.toList = (listN (s.size - (lk3 s.data.toList k + 1) + 1) (s.data.toList.drop (lk3 s.data.toList k + 1))).map (acc2 ++ ·) by
            rw [HRES.out, HACC.out, listN_comma (by have h := e1; unfold markB at h; simpa using h), map_map]
            rw [listN_fuel (f := s.size - k) (by simp; omega), listN_fuel (f := s.size - (lk3 s.data.toList k + 1) + 1) (by simp)])
          rw [markTo_yes e1] at hc5
          go_wp2
          go_roundw
          case rel => exact ⟨_, acc2, by omega, by omega, hc5, hv5, HF5, hfin.out⟩
          case measure => rw [hpos.out, hc5.pos]; omega
end Go.Proofs.YtkoobhgedoanhaaGreatDoor

namespace Go.Proofs.YtkoobhgedoanhaaGreatDoor
open Go.RowKit

theorem blank_byte {c : UInt8} (h : blankB c = true) : byteB c = false := by
  unfold blankB at h
  simp only [Bool.or_eq_true, beq_iff_eq] at h
  rcases h with rfl | rfl <;> decide
theorem byte_blank {c : UInt8} (h : byteB c = true) : blankB c = false := by
  cases hb : blankB c
  · rfl
  · rw [blank_byte hb] at h; cases h
theorem isL_parts {w : List UInt8} (h : isL w = true) : w.all byteB = true ∧ ∃ c w', w = c :: w' := by
  unfold isL at h
  simp only [Bool.and_eq_true, Bool.not_eq_true'] at h
  refine ⟨h.1, ?_⟩
  cases w with
  | nil => simp at h
  | cons c w' => exact ⟨c, w', rfl⟩
theorem takeW {w t : List UInt8} (h : w.all byteB = true) (ht : ∀ c, t.head? = some c → byteB c = false) : (w ++ t).takeWhile byteB = w := by
  rw [List.takeWhile_append_of_pos (by simpa [List.all_eq_true] using h)]
  cases t with
  | nil => simp
  | cons c t => rw [List.takeWhile_cons_of_neg (by simp [ht c rfl])]; simp
theorem dropW {w t : List UInt8} (h : w.all byteB = true) (ht : ∀ c, t.head? = some c → byteB c = false) : (w ++ t).dropWhile byteB = t := by
  rw [dropWhile_eq_drop, takeW h ht]; simp

/-- a word ahead -/
theorem listN_word (f : Nat) {w t : List UInt8} (hw : isL w = true) (ht : ∀ c, t.head? = some c → byteB c = false) : listN (f + 1) (w ++ t) =
    match t.dropWhile blankB with
    | [] => .ok [w]
    | c :: r4 => if c == 44 then (listN f r4).map ([w] ++ ·) else .error (r4.length + 1) := by
  obtain ⟨ha, c, w', rfl⟩ := isL_parts hw
  have hc : byteB c = true := by simp only [List.all_cons, Bool.and_eq_true] at ha; exact ha.1
  rw [listN]
  have e1 : ((c :: w') ++ t).dropWhile blankB = (c :: w') ++ t := by
    rw [List.cons_append, List.dropWhile_cons_of_neg (by simp [byte_blank hc])]
  simp only [e1, takeW ha ht, dropW ha ht]
  rfl
/-- blanks ahead are nothing -/
theorem listN_blank (f : Nat) {c : UInt8} {t : List UInt8} (h : blankB c = true) : listN (f + 1) (c :: t) = listN (f + 1) t := by
  rw [listN, listN]
  simp only [List.dropWhile_cons_of_pos h]

/-- what is joined is read -/
theorem listN_join : ∀ (ws : List (List UInt8)) (f : Nat), (∀ w ∈ ws, isL w = true) → ws.length < f → listN f (Lib.join ws [44, 32]) = .ok ws
  | [], 0, _, h => absurd h (Nat.not_lt_zero _)
  | [], f + 1, _, _ => rfl
  | [w], 0, _, h => absurd h (Nat.not_lt_zero _)
  | [w], f + 1, hw, _ => by
    have h := listN_word f (w := w) (t := []) (hw w (by simp)) (by simp)
    rw [List.append_nil] at h
    rw [Lib.join_one, h]; rfl
  | w :: w2 :: r, 0, _, h => absurd h (Nat.not_lt_zero _)
  | w :: w2 :: r, 1, _, h => by simp at h
  | w :: w2 :: r, f + 2, hw, hf => by
    have e : Lib.join (w :: w2 :: r) [44, 32] = w ++ (44 :: 32 :: Lib.join (w2 :: r) [44, 32]) := by
      rw [Lib.join_cons, Lib.join_cons]; simp [Lib.joinTail]
    rw [e, listN_word (f + 1) (hw w (by simp)) (by simp; decide)]
    rw [List.dropWhile_cons_of_neg (by decide)]
    simp only [beq_self_eq_true, if_true]
    rw [listN_blank f (by decide), listN_join (w2 :: r) (f + 1) (fun x hx => hw x (List.mem_cons_of_mem _ hx)) (by simp at hf ⊢; omega)]
    rfl
theorem wjoin_len : ∀ (ws : List (List UInt8)), (∀ w ∈ ws, isL w = true) → ws.length ≤ (Lib.join ws [44, 32]).length
  | [], _ => by simp
  | [w], hw => by
    obtain ⟨_, c, w', rfl⟩ := isL_parts (hw w (by simp))
    rw [Lib.join_one]; simp
  | w :: w2 :: r, hw => by
    have ih := wjoin_len (w2 :: r) (fun x hx => hw x (List.mem_cons_of_mem _ hx))
    have e : Lib.join (w :: w2 :: r) [44, 32] = w ++ (44 :: 32 :: Lib.join (w2 :: r) [44, 32]) := by
      rw [Lib.join_cons, Lib.join_cons]; simp [Lib.joinTail]
    rw [e]; simp at ih ⊢; omega
theorem listAll_join (ws : List (List UInt8)) (h : ∀ w ∈ ws, isL w = true) : listAll (Lib.join ws [44, 32]) = .ok ws :=
  listN_join ws _ h (Nat.lt_succ_of_le (wjoin_len ws h))

/-- each of a list is a word -/
theorem listN_words : ∀ (f : Nat) (r : List UInt8) (ws : List (List UInt8)), listN f r = .ok ws → ∀ w ∈ ws, isL w = true
  | 0, r, ws, h, w, hw => by rw [listN] at h; cases h; cases hw
  | f + 1, r, ws, h, w, hw => by
    rw [listN] at h
    try simp only at h
    have one : ∀ x ∈ (if ((r.dropWhile blankB).takeWhile byteB).isEmpty then [] else [(r.dropWhile blankB).takeWhile byteB]), isL x = true := by
      intro x hx
      by_cases he : ((r.dropWhile blankB).takeWhile byteB).isEmpty = true
      · rw [if_pos he] at hx; cases hx
      · rw [if_neg he] at hx
        simp at hx; subst hx
        unfold isL
        rw [List.all_takeWhile]; simpa using he
    cases e : ((r.dropWhile blankB).dropWhile byteB).dropWhile blankB with
    | nil => rw [e] at h; simp only at h; cases h; exact one w hw
    | cons c r4 =>
      rw [e] at h
      simp only at h
      by_cases hc : (c == 44) = true
      · rw [if_pos hc] at h
        cases hr : listN f r4 with
        | error m => rw [hr] at h; cases h
        | ok ws2 =>
          rw [hr] at h
          simp only [Except.map] at h
          cases h
          rcases List.mem_append.1 hw with g | g
          · exact one w g
          · exact listN_words f r4 ws2 hr w g
      · rw [if_neg hc] at h; cases h

theorem dropWhile_app (p : UInt8 → Bool) (l t : List UInt8) : (l ++ t).dropWhile p = if (l.dropWhile p).isEmpty then t.dropWhile p else l.dropWhile p ++ t := by
  rw [List.dropWhile_append]
theorem takeWhile_app {p : UInt8 → Bool} {l t : List UInt8} (ht : ∀ c, t.head? = some c → p c = false) : (l ++ t).takeWhile p = l.takeWhile p := by
  induction l with
  | nil =>
    cases t with
    | nil => rfl
    | cons c t => rw [List.nil_append, List.takeWhile_cons_of_neg (by simp [ht c rfl])]; rfl
  | cons a l ih => by_cases h : p a <;> simp [h, ih]
theorem dropWhile_stop {p : UInt8 → Bool} {t : List UInt8} (ht : ∀ c, t.head? = some c → p c = false) : t.dropWhile p = t := by
  cases t with
  | nil => rfl
  | cons c t => rw [List.dropWhile_cons_of_neg (by simp [ht c rfl])]
theorem dropWhile_keep {p : UInt8 → Bool} {l t : List UInt8} (ht : ∀ c, t.head? = some c → p c = false) : (l ++ t).dropWhile p = l.dropWhile p ++ t := by
  rw [dropWhile_app]
  split
  · rename_i h
    rw [dropWhile_stop ht, List.isEmpty_iff.1 h]; rfl
  · rfl

/-- the words of a round -/
def oneW (w : List UInt8) : List (List UInt8) := if w.isEmpty then [] else [w]
/-- a list, and a comma behind it (blanks about it), and more -/
theorem listN_then : ∀ (f g : Nat) (a t : List UInt8) (x : List (List UInt8)), a.length < f → a.length + t.length + 3 < g → listN f a = .ok x →
    listN g (a ++ (32 :: 44 :: 9 :: t)) = (listAll t).map (x ++ ·)
  | 0, _, _, _, _, h, _, _ => absurd h (Nat.not_lt_zero _)
  | f + 1, 0, _, _, _, _, h, _ => absurd h (Nat.not_lt_zero _)
  | f + 1, g + 1, a, t, x, hf, hg, h => by
    have hT : ∀ c, (32 :: 44 :: 9 :: t : List UInt8).head? = some c → byteB c = false := by intro c hc; simp at hc; subst hc; decide
    have hT2 : (32 :: 44 :: 9 :: t : List UInt8).dropWhile blankB = 44 :: 9 :: t := by
      rw [List.dropWhile_cons_of_pos (by decide), List.dropWhile_cons_of_neg (by decide)]
    have hT3 : ∀ c, (44 :: 9 :: t : List UInt8).head? = some c → byteB c = false := by intro c hc; simp at hc; subst hc; decide
    have tail : ∀ g', t.length + 1 < g' → listN g' (9 :: t) = listAll t := by
      intro g' hg'
      cases g' with
      | zero => omega
      | succ g' => rw [listN_blank g' (by decide), listN_fuel (g' + 1) (by omega)]; rfl
    rw [listN] at h ⊢
    try simp only at h ⊢
    rw [dropWhile_app blankB a]
    by_cases he : (a.dropWhile blankB).isEmpty = true
    · rw [if_pos he, hT2]
      rw [List.isEmpty_iff.1 he] at h
      have hx : x = [] := by cases h; rfl
      subst hx
      rw [dropWhile_stop hT3, List.takeWhile_cons_of_neg (by decide), List.dropWhile_cons_of_neg (by decide)]
      simp only [beq_self_eq_true, if_true]
      rw [tail g (by omega)]
      simp
    · rw [if_neg he]
      have hlen := (List.dropWhile_suffix (p := blankB) (l := a)).length_le
      generalize a.dropWhile blankB = a1 at h he hlen ⊢
      rw [takeWhile_app hT, dropWhile_keep hT, dropWhile_app blankB (a1.dropWhile byteB)]
      have hlen2 := (List.dropWhile_suffix (p := byteB) (l := a1)).length_le
      have hlen3 := (List.dropWhile_suffix (p := blankB) (l := a1.dropWhile byteB)).length_le
      cases e : (a1.dropWhile byteB).dropWhile blankB with
      | nil =>
        rw [e] at h
        simp only at h
        cases h
        rw [if_pos (show ([] : List UInt8).isEmpty = true from rfl), hT2]
        simp only [beq_self_eq_true, if_true]
        rw [tail g (by omega)]
      | cons c r4 =>
        rw [e] at h hlen3
        simp at hlen3
        simp only at h
        rw [if_neg (by simp)]
        simp only [List.cons_append]
        by_cases hc : (c == 44) = true
        · rw [if_pos hc] at h ⊢
          cases hr : listN f r4 with
          | error m => rw [hr] at h; cases h
          | ok x2 =>
            rw [hr] at h
            simp only [Except.map] at h
            cases h
            rw [listN_then f g r4 t x2 (by omega) (by omega) hr]
            cases listAll t <;> simp [Except.map]
        · rw [if_neg hc] at h; cases h

theorem listAll_then {a t : List UInt8} {x : List (List UInt8)} (h : listAll a = .ok x) : listAll (a ++ (32 :: 44 :: 9 :: t)) = (listAll t).map (x ++ ·) :=
  listN_then _ _ a t x (Nat.lt_succ_self _) (by simp; omega) h
theorem listAll_seps : ∀ (n : Nat) (b : List UInt8), listAll (Lib.repeatL [32, 44, 9] n ++ b) = listAll b
  | 0, b => rfl
  | n + 1, b => by
    have h := listAll_then (a := []) (t := Lib.repeatL [32, 44, 9] n ++ b) (x := []) (by rfl)
    have e : Lib.repeatL [32, 44, 9] (n + 1) ++ b = [] ++ (32 :: 44 :: 9 :: (Lib.repeatL [32, 44, 9] n ++ b)) := by simp [Lib.repeatL]
    rw [e, h, listAll_seps n b]
    cases listAll b <;> simp [Except.map]
/-- two lists, one behind the other -/
theorem listAll_pieces {a b : List UInt8} {x y : List (List UInt8)} (n : Nat) (ha : listAll a = .ok x) (hb : listAll b = .ok y) : listAll (a ++ Lib.repeatL [32, 44, 9] (n + 1) ++ b) = .ok (x ++ y) := by
  have e : a ++ Lib.repeatL [32, 44, 9] (n + 1) ++ b = a ++ (32 :: 44 :: 9 :: (Lib.repeatL [32, 44, 9] n ++ b)) := by simp [Lib.repeatL]
  rw [e, listAll_then ha, listAll_seps, hb]
  rfl
end Go.Proofs.YtkoobhgedoanhaaGreatDoor

namespace Go.Proofs.YtkoobhgedoanhaaGreatDoor
open Go.RowKit

theorem qgo_esc : ∀ (l m : List UInt8), l.all textB = true → qgo (escL l ++ 34 :: m) = some (l, m)
  | [], m, _ => by rw [qgo.eq_def]; simp [escL]
  | c :: l, m, h => by
    simp only [List.all_cons, Bool.and_eq_true] at h
    have ih := qgo_esc l m h.2
    by_cases hc : (c == 34 || c == 92) = true
    · have e : escL (c :: l) ++ 34 :: m = 92 :: c :: (escL l ++ 34 :: m) := by simp only [escL, List.flatMap_cons, hc, if_true]; rfl
      rw [e, qgo.eq_def]
      simp only [show ((92 : UInt8) == 34) = false from rfl, show ((92 : UInt8) == 92) = true from rfl, h.1, ih, Bool.false_eq_true, if_false, if_true]
      rfl
    · have hc' : (c == 34 || c == 92) = false := by simpa using hc
      have e : escL (c :: l) ++ 34 :: m = c :: (escL l ++ 34 :: m) := by simp only [escL, List.flatMap_cons, hc', Bool.false_eq_true, if_false]; rfl
      simp only [Bool.or_eq_false_iff] at hc'
      rw [e, qgo.eq_def]
      simp only [hc'.1, hc'.2, h.1, ih, Bool.false_eq_true, if_false, if_true]
      rfl
theorem quoted_back (l m : List UInt8) (h : textL l = true) : quotedAt (quoteL l ++ m) 0 = some (l, (quoteL l).length) := by
  have e : quoteL l ++ m = 34 :: (escL l ++ 34 :: m) := by simp [quoteL]
  unfold quotedAt
  rw [e, if_pos (show (34 :: (escL l ++ 34 :: m))[0]? = some 34 from rfl), qres, List.drop_succ_cons, List.drop_zero, qgo_esc l m h]
  simp [quoteL]; omega

theorem qgo_len : ∀ (f : Nat) (r a z : List UInt8), r.length ≤ f → qgo r = some (a, z) → a.length + z.length + 1 ≤ r.length
  | 0, r, a, z, hf, h => by
    have : r = [] := List.eq_nil_of_length_eq_zero (by omega)
    subst this; rw [qgo.eq_def] at h; simp at h
  | f + 1, [], a, z, hf, h => by rw [qgo.eq_def] at h; simp at h
  | f + 1, x :: r, a, z, hf, h => by
    rw [qgo.eq_def] at h
    simp only at h
    by_cases h1 : (x == 34) = true
    · rw [if_pos h1] at h; cases h; simp
    · rw [if_neg h1] at h
      by_cases h2 : (x == 92) = true
      · rw [if_pos h2] at h
        cases r with
        | nil => simp at h
        | cons y r' =>
          simp only at h
          by_cases h3 : textB y = true
          · rw [if_pos h3] at h
            cases hq : qgo r' with
            | none => rw [hq] at h; simp at h
            | some p =>
              rw [hq] at h; simp at h
              obtain ⟨rfl, rfl⟩ := h
              have := qgo_len f r' p.1 p.2 (by simp at hf; omega) hq
              simp; omega
          · rw [if_neg h3] at h; simp at h
      · rw [if_neg h2] at h
        by_cases h3 : textB x = true
        · rw [if_pos h3] at h
          cases hq : qgo r with
          | none => rw [hq] at h; simp at h
          | some p =>
            rw [hq] at h; simp at h
            obtain ⟨rfl, rfl⟩ := h
            have := qgo_len f r p.1 p.2 (by simp at hf; omega) hq
            simp; omega
        · rw [if_neg h3] at h; simp at h
theorem quoted_len {l a : List UInt8} {i j : Nat} (h : quotedAt l i = some (a, j)) : i + 1 < j ∧ a.length + i + 2 ≤ j ∧ j ≤ l.length := by
  unfold quotedAt at h
  by_cases hi : l[i]? = some 34
  · rw [if_pos hi] at h
    unfold qres at h
    have hl := (List.getElem?_eq_some_iff.1 hi).1
    cases hq : qgo (l.drop (i + 1)) with
    | none => rw [hq] at h; simp at h
    | some p =>
      rw [hq] at h; simp at h
      have := qgo_len _ _ p.1 p.2 (Nat.le_refl _) hq
      simp at this
      obtain ⟨rfl, rfl⟩ := h
      omega
  · rw [if_neg hi] at h; simp at h
end Go.Proofs.YtkoobhgedoanhaaGreatDoor
