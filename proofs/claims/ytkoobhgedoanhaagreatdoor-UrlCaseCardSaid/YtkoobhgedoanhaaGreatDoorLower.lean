/- Walks: coding.Lower, token.Same. -/
import Derived.Test.YtkoobhgedoanhaaGreatDoorBytes
namespace Go.Proofs.YtkoobhgedoanhaaGreatDoor
open Go.RowKit

def lowB (c : UInt8) : UInt8 := if 65 ≤ c.toNat ∧ c.toNat ≤ 90 then c + 32 else c
def lowL (l : List UInt8) : List UInt8 := l.map lowB
theorem lowB_toNat (c : UInt8) : (lowB c).toNat = if 65 ≤ c.toNat ∧ c.toNat ≤ 90 then c.toNat + 32 else c.toNat := by
  unfold lowB
  split
  · rename_i h
    rw [UInt8.toNat_add]
    have : (32 : UInt8).toNat = 32 := rfl
    rw [this]; omega
  · rfl

/-- block g is what []byte(s) has laid: the bytes l, spare room, and a mark behind its end -/
def RowAt (w : World) (g : Nat) (l : List UInt8) : Prop := ∃ t : List Value, w.heap[g]? = some (.cells (u8s l ++ t).toArray 5 ((u8s l ++ t).length, (u8s l ++ t).length + 1))
theorem RowAt.cell {w : World} {g : Nat} {l : List UInt8} (h : RowAt w g l) {j : Nat} {c : UInt8} (hj : l[j]? = some c) : w.cell? ⟨g, j, none⟩ = some (.int .u8 (c.toNat : Int)) := by
  obtain ⟨t, h⟩ := h
  obtain ⟨hl, he⟩ := List.getElem?_eq_some_iff.1 hj
  simp only [World.cell?, h]
  simp [u8s, List.getElem?_append_left, hl, he]
theorem RowAt.free {w : World} {g : Nat} {l : List UInt8} (h : RowAt w g l) {j : Nat} (hj : j < l.length) : w.frozen? ⟨g, j, none⟩ = false := by
  obtain ⟨t, h⟩ := h
  simp only [World.frozen?, h]
  simp [u8s]; omega
theorem RowAt.set {w : World} {g : Nat} {l : List UInt8} (h : RowAt w g l) {j : Nat} (hj : j < l.length) (c : UInt8) : RowAt (w.setCell ⟨g, j, none⟩ (.int .u8 (c.toNat : Int))) g (l.set j c) := by
  obtain ⟨t, h⟩ := h
  refine ⟨t, ?_⟩
  simp only [World.setCell, Array.getElem?_modify, h]
  simp [u8s, hj, List.map_set]
theorem RowAt.new (w : World) (s : ByteArray) (cap : Nat) : RowAt (w.drew.alloc (.cells (bytesRow s cap) 5 ((bytesRow s cap).size, (bytesRow s cap).size + 1))) w.heap.size s.data.toList := by
  refine ⟨List.replicate (cap - s.size) (Value.int .u8 0), ?_⟩
  have e : bytesRow s cap = (u8s s.data.toList ++ List.replicate (cap - s.size) (Value.int .u8 0)).toArray := by
    apply Array.toList_inj.1
    simp [bytesRow, u8s]
  have h := new_block w.drew (.cells (bytesRow s cap) 5 ((bytesRow s cap).size, (bytesRow s cap).size + 1))
  have h' : (w.drew.alloc (.cells (bytesRow s cap) 5 ((bytesRow s cap).size, (bytesRow s cap).size + 1))).heap[w.heap.size]? = some (.cells (bytesRow s cap) 5 ((bytesRow s cap).size, (bytesRow s cap).size + 1)) := h
  rw [h', e]; simp
theorem RowAt.text {w : World} {g : Nat} {l : List UInt8} (h : RowAt w g l) (n c : Nat) (hn : n = l.length) :
    (convert 95 9 (.slice (some ⟨g, 0, none⟩) n c)).run Tryz.prog w = .ok (.string ⟨l.toArray⟩) w := by
  subst hn
  refine run_convert_bytes_back (P := Tryz.prog) w 95 9 5 ⟨g, 0, none⟩ c l Tryz.underlying95 Tryz.underlying5 Tryz.underlying9 ?_
  intro j hj
  have ea : (Addr.add ⟨g, 0, none⟩ j) = ⟨g, j, none⟩ := by unfold Addr.add; split <;> simp_all
  rw [ea]
  exact h.cell (List.getElem?_eq_getElem hj)

/-- the first k bytes turned -/
def lowTo (l : List UInt8) (k : Nat) : List UInt8 := lowL (l.take k) ++ l.drop k
theorem lowTo_len (l : List UInt8) (k : Nat) : (lowTo l k).length = l.length := by simp [lowTo, lowL]; omega
theorem lowTo_at {l : List UInt8} {k : Nat} {x : UInt8} (h : l[k]? = some x) : (lowTo l k)[k]? = some x := by
  have hk := (List.getElem?_eq_some_iff.1 h).1
  unfold lowTo
  rw [List.getElem?_append_right (by simp [lowL]; omega)]
  have e : k - (lowL (l.take k)).length = 0 := by simp [lowL]; omega
  rw [e, drop_at h]; rfl
theorem lowTo_succ {l : List UInt8} {k : Nat} {x : UInt8} (h : l[k]? = some x) : lowTo l (k + 1) = (lowTo l k).set k (lowB x) := by
  have hk := (List.getElem?_eq_some_iff.1 h).1
  have el : (lowL (l.take k)).length = k := by simp [lowL]; omega
  unfold lowTo
  rw [drop_at h, List.take_add_one, h, List.set_append]
  rw [if_neg (by omega), show k - (lowL (l.take k)).length = 0 from by omega]
  simp [lowL]
theorem lowTo_same {l : List UInt8} {k : Nat} {x : UInt8} (h : l[k]? = some x) (hx : lowB x = x) : lowTo l (k + 1) = lowTo l k := by
  rw [lowTo_succ h, hx]
  apply List.ext_getElem?
  intro j
  by_cases hj : k = j
  · subst hj
    rw [lowTo_at h, List.getElem?_set_self (by rw [lowTo_len]; exact (List.getElem?_eq_some_iff.1 h).1)]
  · rw [List.getElem?_set_ne hj]
theorem lowTo_all (l : List UInt8) (k : Nat) (h : l.length ≤ k) : lowTo l k = lowL l := by
  unfold lowTo; rw [List.take_of_length_le h, List.drop_eq_nil_of_le h]; simp

def LowRel (s : ByteArray) (w : World) (i : Value) (wr : World) : Prop :=
  ∃ k : Nat, k ≤ s.size ∧ i = .int .i64 k ∧ RowAt wr w.heap.size (lowTo s.data.toList k) ∧ Fr noB w wr

set_option maxRecDepth 100000 in
set_option maxHeartbeats 1000000 in
theorem Lower_any (s : ByteArray) (w : World) (hs : s.size < 17592186044416) :
    Calls Tryz.prog 76 #[.string s] w fun e w' => e = .returned (.string ⟨(lowL s.data.toList).toArray⟩) ∧ Fr noB w w' := by
  have kc := fun (wx : World) => run_bytes_of_string (P := Tryz.prog) wx 9 95 5 s Tryz.underlying9 Tryz.underlying95 Tryz.underlying5
  go_enter Tryz.func76, Tryz.ntmps76
  go_wp2
  go_loopw [10] (LowRel s w) (fun i _ => s.size - (intOf i).toNat)
  case atStart => exact ⟨0, Nat.zero_le _, rfl, RowAt.new w s _, ((Fr.refl _ w).drew).alloc _⟩
  case round =>
    obtain ⟨k, hk, rfl, hrow, hfr⟩ := hrel
    by_cases hks : k < s.size
    · have hat := Lib.hid (byte_at s k hks)
      generalize hx : s[k] = x at hat
      have hc := hrow.cell (lowTo_at hat.out)
      have hf := hrow.free (j := k) (by rw [lowTo_len]; simpa using hks)
      by_cases h1 : 65 ≤ x.toNat
      · by_cases h2 : x.toNat ≤ 90
        · have hset := Lib.hid (hrow.set (j := k) (by rw [lowTo_len]; simpa using hks) (lowB x))
          have hsc := Lib.hid (lowTo_succ hat.out)
          have hlb := Lib.hid (show ((lowB x).toNat : Int) = (x.toNat : Int) + 32 by rw [lowB_toNat, if_pos ⟨h1, h2⟩]; omega)
          go_wp2
          go_roundw
          case rel => exact ⟨k + 1, by omega, by go_num, by rw [hsc.out]; have h := hset.out; rw [hlb.out] at h; exact h, hfr.setNew (p := ⟨w.heap.size, k, none⟩) (Nat.le_refl _) _⟩
          case measure => simp [intOf]; omega
        · have hsm := Lib.hid (lowTo_same hat.out (by unfold lowB; rw [if_neg (by omega)]))
          go_wp2
          go_roundw
          case rel => exact ⟨k + 1, by omega, by go_num, by rw [hsm.out]; exact hrow, hfr⟩
          case measure => simp [intOf]; omega
      · have hsm := Lib.hid (lowTo_same hat.out (by unfold lowB; rw [if_neg (by omega)]))
        go_wp2
        go_roundw
        case rel => exact ⟨k + 1, by omega, by go_num, by rw [hsm.out]; exact hrow, hfr⟩
        case measure => simp [intOf]; omega
    · have hrow2 := hrow
      rw [lowTo_all s.data.toList k (by simp; omega)] at hrow2
      have htext := fun c => hrow2.text s.size c (by simp [lowL])
      go_wp2
      go_ret
      exact ⟨rfl, hfr⟩

/-- token.Same -/
def sameL (a b : List UInt8) : Bool := lowL a == lowL b
set_option maxHeartbeats 1000000 in
theorem Same_any (a b : ByteArray) (w : World) (ha : a.size < 17592186044416) (hb : b.size < 17592186044416) :
    Calls Tryz.prog 50 #[.string a, .string b] w fun e w' => e = .returned (.bool (sameL a.data.toList b.data.toList)) ∧ Fr noB w w' := by
  go_enter Tryz.func50, Tryz.ntmps50
  go_wp2_with fail
  refine (Lower_any a w ha).mono ?_
  rintro e w1 ⟨rfl, hf1⟩
  go_wp2_with fail
  refine (Lower_any b w1 hb).mono ?_
  rintro e w2 ⟨rfl, hf2⟩
  go_wp2
  go_ret
  exact ⟨ret_bool (by simp [sameL]), hf1.trans hf2⟩
end Go.Proofs.YtkoobhgedoanhaaGreatDoor
