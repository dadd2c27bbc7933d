/- The fact proved; the law CountOrder: its walk. -/
import Derived.Test.YtghimbpihmehoaaDoorResp
import Derived.Test.YtghimbpihmehoaaDoorBasic
import Derived.Test.YtghimbpihmehoaaDoorPick
import Derived.KernelRfl
namespace Go.Proofs.YtghimbpihmehoaaDoor
open Go.RowKit

def rfcIn : RespIn := ⟨false, false, ⟨#[116, 101, 115, 116, 114, 101, 97, 108, 109, 64, 104, 111, 115, 116, 46, 99, 111, 109]⟩, ⟨#[100, 99, 100, 57, 56, 98, 55, 49, 48, 50, 100, 100, 50, 102, 48, 101, 56, 98, 49, 49, 100, 48, 102, 54, 48, 48, 98, 102, 98, 48, 99, 48, 57, 51]⟩, ⟨#[97, 117, 116, 104]⟩, ⟨#[77, 117, 102, 97, 115, 97]⟩, ⟨#[67, 105, 114, 99, 108, 101, 32, 79, 102, 32, 76, 105, 102, 101]⟩, ⟨#[71, 69, 84]⟩, ⟨#[47, 100, 105, 114, 47, 105, 110, 100, 101, 120, 46, 104, 116, 109, 108]⟩, ⟨#[]⟩, ⟨#[48, 97, 52, 102, 49, 49, 51, 98]⟩, 1⟩
set_option maxRecDepth 1000000 in
theorem rfc_resp : respB rfcIn = ⟨#[54, 54, 50, 57, 102, 97, 101, 52, 57, 51, 57, 51, 97, 48, 53, 51, 57, 55, 52, 53, 48, 57, 55, 56, 53, 48, 55, 99, 52, 101, 102, 49]⟩ := by decide +kernel
theorem rfc_basic : basicB ⟨#[65, 108, 97, 100, 100, 105, 110]⟩ ⟨#[111, 112, 101, 110, 32, 115, 101, 115, 97, 109, 101]⟩ = ⟨#[66, 97, 115, 105, 99, 32, 81, 87, 120, 104, 90, 71, 82, 112, 98, 106, 112, 118, 99, 71, 86, 117, 73, 72, 78, 108, 99, 50, 70, 116, 90, 81, 61, 61]⟩ := by decide +kernel
theorem rfc_fine : (fineB ⟨#[65, 108, 97, 100, 100, 105, 110]⟩ && fineB ⟨#[111, 112, 101, 110, 32, 115, 101, 115, 97, 109, 101]⟩) = true := by decide +kernel
theorem rfc_colon : ¬ 0 ≤ Lib.indexByte (⟨#[65, 108, 97, 100, 100, 105, 110]⟩ : ByteArray).data.toList 58 := by decide +kernel
theorem rfc_count : (⟨(countL 255).toArray⟩ : ByteArray) = ⟨#[48, 48, 48, 48, 48, 48, 102, 102]⟩ := by decide +kernel
theorem rfc_small : rfcIn.Small := ⟨by decide, by decide, by decide, by decide, by decide, by decide, by decide, by decide, by decide, by decide⟩
theorem ask_cells {w : World} {g : Nat} (h : w.heap[g]? = some (.cells #[.int .i64 2, .string ⟨#[116, 101, 115, 116, 114, 101, 97, 108, 109, 64, 104, 111, 115, 116, 46, 99, 111, 109]⟩, .string ⟨#[100, 99, 100, 57, 56, 98, 55, 49, 48, 50, 100, 100, 50, 102, 48, 101, 56, 98, 49, 49, 100, 48, 102, 54, 48, 48, 98, 102, 98, 48, 99, 48, 57, 51]⟩, .string ⟨#[]⟩, .bool false, .string ⟨#[97, 117, 116, 104]⟩, .bool false, .slice none 0 0] 38 (0, 0))) :
    w.cell? ⟨g, 0, none⟩ = some (.int .i64 2) ∧ w.cell? ⟨g, 1, none⟩ = some (.string ⟨#[116, 101, 115, 116, 114, 101, 97, 108, 109, 64, 104, 111, 115, 116, 46, 99, 111, 109]⟩) ∧ w.cell? ⟨g, 2, none⟩ = some (.string ⟨#[100, 99, 100, 57, 56, 98, 55, 49, 48, 50, 100, 100, 50, 102, 48, 101, 56, 98, 49, 49, 100, 48, 102, 54, 48, 48, 98, 102, 98, 48, 99, 48, 57, 51]⟩) ∧ w.cell? ⟨g, 3, none⟩ = some (.string ⟨#[]⟩) ∧ w.cell? ⟨g, 4, none⟩ = some (.bool false) ∧ w.cell? ⟨g, 5, none⟩ = some (.string ⟨#[97, 117, 116, 104]⟩) ∧ w.cell? ⟨g, 6, none⟩ = some (.bool false) ∧ w.cell? ⟨g, 7, none⟩ = some (.slice none 0 0) := by
  simp [World.cell?, h]
set_option maxRecDepth 100000 in
set_option maxHeartbeats 4000000 in
theorem proved_any (w : World) (ht : MdTabs w) (hdb : TabAt w 11 .u8 dbL) :
    Calls Tryd.prog 24 #[] w fun e w' => e = .returned (.bool true) ∧ Fr noB w w' := by
  have HT := Lib.hid (And.intro ht hdb)
  have hfa : Fr noB w (w.alloc (.cells #[.int .i64 2, .string ⟨#[116, 101, 115, 116, 114, 101, 97, 108, 109, 64, 104, 111, 115, 116, 46, 99, 111, 109]⟩, .string ⟨#[100, 99, 100, 57, 56, 98, 55, 49, 48, 50, 100, 100, 50, 102, 48, 101, 56, 98, 49, 49, 100, 48, 102, 54, 48, 48, 98, 102, 98, 48, 99, 48, 57, 51]⟩, .string ⟨#[]⟩, .bool false, .string ⟨#[97, 117, 116, 104]⟩, .bool false, .slice none 0 0] 38)) := (Fr.refl noB w).alloc _
  have HFA := Lib.hid hfa
  have HBK := Lib.hid (new_block w (.cells #[.int .i64 2, .string ⟨#[116, 101, 115, 116, 114, 101, 97, 108, 109, 64, 104, 111, 115, 116, 46, 99, 111, 109]⟩, .string ⟨#[100, 99, 100, 57, 56, 98, 55, 49, 48, 50, 100, 100, 50, 102, 48, 101, 56, 98, 49, 49, 100, 48, 102, 54, 48, 48, 98, 102, 98, 48, 99, 48, 57, 51]⟩, .string ⟨#[]⟩, .bool false, .string ⟨#[97, 117, 116, 104]⟩, .bool false, .slice none 0 0] 38))
  clear hfa
  clear ht hdb
  go_enter Tryd.func24, Tryd.ntmps24
  go_wp2_with fail
  refine (Basic_any _ _ _ (by decide) (by decide)).mono ?_
  rintro e u1 ⟨hp, hf1⟩
  have he : e = .returned (.tuple #[.string ⟨#[66, 97, 115, 105, 99, 32, 81, 87, 120, 104, 90, 71, 82, 112, 98, 106, 112, 118, 99, 71, 86, 117, 73, 72, 78, 108, 99, 50, 70, 116, 90, 81, 61, 61]⟩, .nilIface]) := by
    unfold BasicPost at hp
    rw [if_neg rfc_colon, if_pos rfc_fine, rfc_basic] at hp
    exact hp
  subst he
  clear hp
  have HK1 := Lib.hid (hf1.keep HBK.out (fun h => h))
  have HF1 := Lib.hid (HFA.out.trans hf1)
  clear hf1
  go_wp2_with fail
  refine (Count_any 255 u1 (by decide) (HT.out.2.fr HF1.out)).mono ?_
  rintro e u2 ⟨rfl, hf2⟩
  rw [rfc_count]
  obtain ⟨c0, c1, c2, c3, c4, c5, c6, c7⟩ := ask_cells (hf2.keep HK1.out (fun h => h))
  have HF2 := Lib.hid (HF1.out.trans hf2)
  clear hf2
  have HR := Lib.hid (Response_any ⟨2, ⟨#[116, 101, 115, 116, 114, 101, 97, 108, 109, 64, 104, 111, 115, 116, 46, 99, 111, 109]⟩, ⟨#[100, 99, 100, 57, 56, 98, 55, 49, 48, 50, 100, 100, 50, 102, 48, 101, 56, 98, 49, 49, 100, 48, 102, 54, 48, 48, 98, 102, 98, 48, 99, 48, 57, 51]⟩, ⟨#[]⟩, false, ⟨#[97, 117, 116, 104]⟩, false, .slice none 0 0⟩ rfcIn u2 rfc_small rfl rfl rfl rfl rfl rfl (HT.out.2.fr HF2.out) (hash_md 2 (by decide) u2 (HT.out.1.fr HF2.out)))
  go_wp2_with fail
  refine HR.out.mono ?_
  rintro e u3 ⟨rfl, hf3⟩
  rw [rfc_resp]
  go_wp2
  go_ret
  exact ⟨rfl, HF2.out.trans hf3⟩

theorem bytes_eq_iff {a b : List UInt8} : ((⟨a.toArray⟩ : ByteArray).toList == (⟨b.toArray⟩ : ByteArray).toList) = decide (a = b) := by
  rw [ByteArray.toList_eq, ByteArray.toList_eq]
  by_cases h : a = b
  · subst h; simp
  · simp [h]
set_option maxRecDepth 100000 in
set_option maxHeartbeats 4000000 in
theorem CountOrder_walk (a0 a1 : Int) (w : World) (ht : MdTabs w) (hdb : TabAt w 11 .u8 dbL) :
    Calls Tryd.prog 5 #[.int .i64 a0, .int .i64 a1] w fun e w' => e = .returned (.bool true) ∧ Below w.heap.size w w' := by
  have HT := Lib.hid (And.intro ht hdb)
  clear ht hdb
  go_enter Tryd.func5, Tryd.ntmps5
  go_wp2_with fail
  refine (proved_any w HT.out.1 HT.out.2).mono ?_
  rintro e u1 ⟨rfl, hf1⟩
  obtain ⟨p0, p1⟩ := pickI_range a0 4294967296 (by omega)
  obtain ⟨q0, q1⟩ := pickI_range a1 4294967296 (by omega)
  obtain ⟨n, hn⟩ : ∃ n : Nat, pickI a0 4294967296 = (n : Int) := ⟨(pickI a0 4294967296).toNat, by omega⟩
  obtain ⟨m, hm⟩ : ∃ m : Nat, pickI a1 4294967296 = (m : Int) := ⟨(pickI a1 4294967296).toNat, by omega⟩
  go_wp2_with fail
  refine (pick_any a0 4294967296 u1 (by decide) (by decide)).mono ?_
  rintro e u2 ⟨rfl, rfl⟩
  go_wp2_with fail
  refine (pick_any a1 4294967296 u1 (by decide) (by decide)).mono ?_
  rintro e u3 ⟨rfl, rfl⟩
  rw [hm]
  rw [hn] at p0 p1
  rw [hm] at q0 q1
  clear hn hm
  have hn2 : n < 4294967296 := by omega
  have hm2 : m < 4294967296 := by omega
  have HF1 := Lib.hid hf1
  clear hf1
  have HL := Lib.hid (show Op.bytesLess (countL n) (countL m) = true ↔ n < m from hexFix_less 8 n m (by show n < 4294967296; omega) (by show m < 4294967296; omega))
  have HE := Lib.hid (show countL n = countL m ↔ n = m from hexFix_inj 8 n m (by show n < 4294967296; omega) (by show m < 4294967296; omega))
  go_wp2_with fail
  refine (Count_any n u1 hn2 (HT.out.2.fr HF1.out)).mono ?_
  rintro e u4 ⟨rfl, hf4⟩
  have HF4 := Lib.hid (HF1.out.trans hf4)
  clear hf4
  go_wp2_with fail
  refine (Count_any m u4 hm2 (HT.out.2.fr HF4.out)).mono ?_
  rintro e u5 ⟨rfl, hf5⟩
  have HF5 := Lib.hid (HF4.out.trans hf5)
  clear hf5
  have hl1 : (countL n).length = 8 := hexFix_len 8 n
  have hl2 : (countL m).length = 8 := hexFix_len 8 m
  have hs1 : (⟨(countL n).toArray⟩ : ByteArray).size = 8 := count_size n
  have hs2 : (⟨(countL m).toArray⟩ : ByteArray).size = 8 := count_size m
  have HLB := Lib.hid (show Op.bytesLess (⟨(countL n).toArray⟩ : ByteArray).toList (⟨(countL m).toArray⟩ : ByteArray).toList = true ↔ n < m by rw [ByteArray.toList_eq, ByteArray.toList_eq]; exact HL.out)
  have HEB := Lib.hid (show (⟨(countL n).toArray⟩ : ByteArray).toList = (⟨(countL m).toArray⟩ : ByteArray).toList ↔ n = m by rw [ByteArray.toList_eq, ByteArray.toList_eq]; exact HE.out)
  generalize (⟨(countL n).toArray⟩ : ByteArray) = x at *
  generalize (⟨(countL m).toArray⟩ : ByteArray) = y at *
  have HCV := Lib.hid (show ∀ a b : Nat, ((a : Int) < (b : Int) ↔ a < b) ∧ ((a : Int) = (b : Int) ↔ a = b) from fun a b => by omega)
  clear hl1 hl2 HL HE p0 p1 q0 q1 hn2 hm2
  by_cases h1 : n < m
  · have e1 : (n : Int) < (m : Int) := by omega
    have e2 : ¬ (n : Int) = (m : Int) := by omega
    have e3 : Op.bytesLess x.toList y.toList = true := HLB.out.2 h1
    have e4 : ¬ x.toList = y.toList := fun h => by have := HEB.out.1 h; omega
    have hfin : (((n : Int) == (m : Int)) == (x.toList == y.toList)) = true := by rw [beq_eq_false_iff_ne.2 e2, beq_eq_false_iff_ne.2 e4]; rfl
    clear HCV
    go_wp2
    go_ret
    exact ⟨rfl, HF5.out.none_below⟩
  · have e3 : Op.bytesLess x.toList y.toList = false := by cases hh : Op.bytesLess x.toList y.toList with | false => rfl | true => exact absurd (HLB.out.1 hh) h1
    have e1 : ¬ (n : Int) < (m : Int) := by omega
    by_cases h2 : n = m
    · have e4 : x.toList = y.toList := HEB.out.2 h2
      have e5 : x = y := toList_inj.1 e4
      subst e5 h2
      clear HCV e4 HEB HLB
      go_wp2
      go_ret
      exact ⟨ret_bool (by simp), HF5.out.none_below⟩
    · have e4 : ¬ x.toList = y.toList := fun h => h2 (HEB.out.1 h)
      have e2 : ¬ (n : Int) = (m : Int) := by omega
      have hfin := Lib.hid (show (((n : Int) == (m : Int)) == (x.toList == y.toList)) = true by rw [beq_eq_false_iff_ne.2 e2, beq_eq_false_iff_ne.2 e4]; rfl)
      clear HCV
      go_wp2
      go_ret
      exact ⟨ret_bool hfin.out, HF5.out.none_below⟩
end Go.Proofs.YtghimbpihmehoaaDoor
