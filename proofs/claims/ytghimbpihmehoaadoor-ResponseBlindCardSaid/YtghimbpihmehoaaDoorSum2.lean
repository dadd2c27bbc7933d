/- Package sum: text. -/
import Derived.Test.YtghimbpihmehoaaDoorSum1
import Derived.Test.YtghimbpihmehoaaDoorHex
namespace Go.Proofs.YtghimbpihmehoaaDoor
open Go.RowKit

def byteW (little : Bool) (x : Int) (i : Nat) : UInt8 := if little then (x / 2 ^ (8 * i) % 256).toNat.toUInt8 else (x / 2 ^ (24 - 8 * i) % 256).toNat.toUInt8
def wordB (little : Bool) (x : Int) : List UInt8 := (List.range 4).map (byteW little x)
def wordsBy (little : Bool) (ws : List Int) : List UInt8 := ws.flatMap (wordB little)
def sumTextL (little : Bool) (ws : List Int) : List UInt8 := hexL (wordsBy little ws)
theorem wordB_len (little : Bool) (x : Int) : (wordB little x).length = 4 := by simp [wordB]
theorem wordB_snoc (little : Bool) (x : Int) (j : Nat) (hj : j < 4) : (wordB little x).take (j + 1) = (wordB little x).take j ++ [byteW little x j] := by
  have hg : (wordB little x)[j]? = some (byteW little x j) := by simp [wordB, hj]
  rw [List.take_add_one, hg]; rfl
theorem wordsBy_len (little : Bool) (ws : List Int) : (wordsBy little ws).length = 4 * ws.length := by
  unfold wordsBy
  induction ws with
  | nil => rfl
  | cons a l ih => rw [List.flatMap_cons, List.length_append, wordB_len, ih, List.length_cons]; omega
theorem wordsBy_snoc (little : Bool) {ws : List Int} {k : Nat} {x : Int} (h : ws[k]? = some x) : wordsBy little (ws.take (k + 1)) = wordsBy little (ws.take k) ++ wordB little x := by
  rw [List.take_add_one, h]; simp [wordsBy]
theorem byte_int (x : Int) (e : Nat) : (((x / 2 ^ e % 256).toNat.toUInt8.toNat : Nat) : Int) = x / 2 ^ e % 256 := by
  have h1 := Int.emod_nonneg (x / 2 ^ e) (show (256 : Int) ≠ 0 by decide)
  have h2 := Int.emod_lt_of_pos (x / 2 ^ e) (show (0 : Int) < 256 by decide)
  generalize x / 2 ^ e % 256 = y at *
  rw [show y.toNat.toUInt8.toNat = y.toNat from by simp [Nat.toUInt8]; omega]
  omega

def TxRel (little : Bool) (ws : List Int) (w : World) (v i : Value) (wr : World) : Prop := ∃ k : Nat, k ≤ ws.length ∧ i = .int .i64 k ∧ Bytes w.heap.size wr v (wordsBy little (ws.take k)) ∧ Fr noB w wr
def TxIn (little : Bool) (pre : List UInt8) (x : Int) (w : World) (v i : Value) (wr : World) : Prop := ∃ j : Nat, j ≤ 4 ∧ i = .int .i64 j ∧ Bytes w.heap.size wr v (pre ++ (wordB little x).take j) ∧ Fr noB w wr
set_option maxRecDepth 100000 in
set_option maxHeartbeats 4000000 in
theorem sumText_any (g : Nat) (ws : List Int) (little : Bool) (w : World) (hl : ws.length ≤ 8) (hg : g < w.heap.size) (hc : ∀ (j : Nat) x, ws[j]? = some x → w.cell? ⟨g, j, none⟩ = some (.int .u32 x)) (hx : ∀ x ∈ ws, 0 ≤ x ∧ x < 4294967296) :
    Calls Tryd.prog 70 #[.slice (some ⟨g, 0, none⟩) ws.length ws.length, .bool little] w fun e w' => e = .returned (.string ⟨(sumTextL little ws).toArray⟩) ∧ Fr noB w w' := by
  have HC := Lib.hid hc
  have HX := Lib.hid hx
  clear hc hx
  cases little
  all_goals
    go_enter Tryd.func70, Tryd.ntmps70
    go_wp2
  · go_loopw [5, 11] (TxRel false ws w) (fun _ i _ => ws.length - (intOf i).toNat)
    case atStart => exact ⟨0, Nat.zero_le _, rfl, Bytes.nil _ _, Fr.refl _ _⟩
    case round =>
      obtain ⟨k, hk, rfl, hown, hfr⟩ := hrel
      by_cases hks : k < ws.length
      · have hat := Lib.hid (List.getElem?_eq_getElem hks)
        obtain ⟨x0, x1⟩ := HX.out _ (List.getElem_mem hks)
        have hcell : wr.cell? ⟨g, k, none⟩ = some (.int .u32 ws[k]) := (hfr.cell (p := ⟨g, k, none⟩) hg (fun h => h)).trans (HC.out k _ hat.out)
        generalize ws[k] = x at *
        have hsn := Lib.hid (wordsBy_snoc false hat.out)
        have hpl := Lib.hid (show (wordsBy false (ws.take k)).length ≤ 32 by rw [wordsBy_len, List.length_take]; omega)
        generalize wordsBy false (ws.take k) = pre at *
        obtain ⟨av, cv, hv⟩ := hown.form
        subst hv
        go_wp2
        clear hcell
        go_loopw [5, 15] (TxIn false pre x w) (fun _ i _ => 4 - (intOf i).toNat)
        case atStart => exact ⟨0, by omega, rfl, by simpa using hown, hfr⟩
        case round =>
          obtain ⟨j, hj, rfl, hown2, hfr2⟩ := hrel
          have hbase : w.heap.size ≤ wr.heap.size := hfr2.size
          obtain ⟨av, cv, hv⟩ := hown2.form
          subst hv
          by_cases hj4 : j < 4
          · have hji : (j : Int) < 4 := by omega
            have hwb := Lib.hid (wordB_snoc false x j hj4)
            have hby : x / 2 ^ (24 - 8 * j) % 256 = ((byteW false x j).toNat : Int) := (byte_int x (24 - 8 * j)).symm
            generalize byteW false x j = c at *
            have hlen2 := Lib.hid (show (pre ++ (wordB false x).take j).length < 100 by rw [List.length_append, List.length_take, wordB_len]; have := hpl.out; omega)
            go_wp2_with (at_builtin; refine wpList_byte rfl _ _ rfl w.heap.size (.slice av _ cv) (pre ++ (wordB false x).take j) rfl (by apply Bytes.alloc; exact hown2) ⟨wr.heap.size, 0, none⟩ 1 c rfl (new_cell _ _ _ _) (by have := hlen2.out; omega) (by simp; omega) ?_; intro v' w2 hown3 hg2)
            go_roundw
            case rel => exact ⟨j + 1, by omega, by go_num, by rw [hwb.out, ← List.append_assoc]; exact hown3, (hfr2.alloc _).grownNew hg2 hown2.block⟩
            case measure => simp [intOf]; omega
          · have hj5 : j = 4 := by omega
            subst hj5
            have hown3 : Bytes w.heap.size wr (.slice av (pre ++ (wordB false x).take 4).length cv) (pre ++ wordB false x) := by
              have h := hown2; rw [List.take_of_length_le (by rw [wordB_len]; omega)] at h ⊢; exact h
            have HO := Lib.hid hown3
            clear hown3 hown2
            go_wp2
            go_roundw
            case rel => exact ⟨k + 1, by omega, by go_num, by rw [hsn.out]; exact HO.out, hfr2⟩
            case measure => simp [intOf]; omega
      · rw [List.take_of_length_le (by omega)] at hown
        have hwl : (wordsBy false ws).length ≤ 32 := by rw [wordsBy_len]; omega
        have hst := Lib.hid (show sumTextL false ws = hexL (wordsBy false ws) from rfl)
        generalize wordsBy false ws = bs at *
        obtain ⟨av, cv, hv⟩ := hown.form
        subst hv
        have htext := hown.text
        go_wp2_with fail
        refine (Hex_any ⟨bs.toArray⟩ wr (by show bs.toArray.size < _; simp; omega)).mono ?_
        rintro e w3 ⟨rfl, hf3⟩
        go_wp2
        go_ret
        rw [hst.out]
        exact ⟨rfl, hfr.trans hf3⟩
  · go_loopw [5, 11] (TxRel true ws w) (fun _ i _ => ws.length - (intOf i).toNat)
    case atStart => exact ⟨0, Nat.zero_le _, rfl, Bytes.nil _ _, Fr.refl _ _⟩
    case round =>
      obtain ⟨k, hk, rfl, hown, hfr⟩ := hrel
      by_cases hks : k < ws.length
      · have hat := Lib.hid (List.getElem?_eq_getElem hks)
        obtain ⟨x0, x1⟩ := HX.out _ (List.getElem_mem hks)
        have hcell : wr.cell? ⟨g, k, none⟩ = some (.int .u32 ws[k]) := (hfr.cell (p := ⟨g, k, none⟩) hg (fun h => h)).trans (HC.out k _ hat.out)
        generalize ws[k] = x at *
        have hsn := Lib.hid (wordsBy_snoc true hat.out)
        have hpl := Lib.hid (show (wordsBy true (ws.take k)).length ≤ 32 by rw [wordsBy_len, List.length_take]; omega)
        generalize wordsBy true (ws.take k) = pre at *
        obtain ⟨av, cv, hv⟩ := hown.form
        subst hv
        go_wp2
        clear hcell
        go_loopw [5, 15] (TxIn true pre x w) (fun _ i _ => 4 - (intOf i).toNat)
        case atStart => exact ⟨0, by omega, rfl, by simpa using hown, hfr⟩
        case round =>
          obtain ⟨j, hj, rfl, hown2, hfr2⟩ := hrel
          have hbase : w.heap.size ≤ wr.heap.size := hfr2.size
          obtain ⟨av, cv, hv⟩ := hown2.form
          subst hv
          by_cases hj4 : j < 4
          · have hji : (j : Int) < 4 := by omega
            have hwb := Lib.hid (wordB_snoc true x j hj4)
            have hby : x / 2 ^ (8 * j) % 256 = ((byteW true x j).toNat : Int) := (byte_int x (8 * j)).symm
            generalize byteW true x j = c at *
            have hlen2 := Lib.hid (show (pre ++ (wordB true x).take j).length < 100 by rw [List.length_append, List.length_take, wordB_len]; have := hpl.out; omega)
            go_wp2_with (at_builtin; refine wpList_byte rfl _ _ rfl w.heap.size (.slice av _ cv) (pre ++ (wordB true x).take j) rfl (by apply Bytes.alloc; exact hown2) ⟨wr.heap.size, 0, none⟩ 1 c rfl (new_cell _ _ _ _) (by have := hlen2.out; omega) (by simp; omega) ?_; intro v' w2 hown3 hg2)
            go_roundw
            case rel => exact ⟨j + 1, by omega, by go_num, by rw [hwb.out, ← List.append_assoc]; exact hown3, (hfr2.alloc _).grownNew hg2 hown2.block⟩
            case measure => simp [intOf]; omega
          · have hj5 : j = 4 := by omega
            subst hj5
            have hown3 : Bytes w.heap.size wr (.slice av (pre ++ (wordB true x).take 4).length cv) (pre ++ wordB true x) := by
              have h := hown2; rw [List.take_of_length_le (by rw [wordB_len]; omega)] at h ⊢; exact h
            have HO := Lib.hid hown3
            clear hown3 hown2
            go_wp2
            go_roundw
            case rel => exact ⟨k + 1, by omega, by go_num, by rw [hsn.out]; exact HO.out, hfr2⟩
            case measure => simp [intOf]; omega
      · rw [List.take_of_length_le (by omega)] at hown
        have hwl : (wordsBy true ws).length ≤ 32 := by rw [wordsBy_len]; omega
        have hst := Lib.hid (show sumTextL true ws = hexL (wordsBy true ws) from rfl)
        generalize wordsBy true ws = bs at *
        obtain ⟨av, cv, hv⟩ := hown.form
        subst hv
        have htext := hown.text
        go_wp2_with fail
        refine (Hex_any ⟨bs.toArray⟩ wr (by show bs.toArray.size < _; simp; omega)).mono ?_
        rintro e w3 ⟨rfl, hf3⟩
        go_wp2
        go_ret
        rw [hst.out]
        exact ⟨rfl, hfr.trans hf3⟩
end Go.Proofs.YtghimbpihmehoaaDoor
