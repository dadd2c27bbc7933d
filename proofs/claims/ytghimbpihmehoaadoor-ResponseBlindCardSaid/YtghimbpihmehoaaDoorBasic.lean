/- Package proof: Basic. -/
import Derived.Test.YtghimbpihmehoaaDoorTypes
import Derived.Test.YtghimbpihmehoaaDoorBasePure
namespace Go.Proofs.YtghimbpihmehoaaDoor
open Go.RowKit

def badB (c : UInt8) : Bool := c < 32 || c == 127
def fineB (s : ByteArray) : Bool := s.data.toList.all fun c => !badB c
def basicB (user pass : ByteArray) : ByteArray := ⟨([66, 97, 115, 105, 99, 32] ++ b64L (user.data.toList ++ [58] ++ pass.data.toList)).toArray⟩
def BasicPost (user pass : ByteArray) (e : Ending) : Prop :=
  if 0 ≤ Lib.indexByte user.data.toList 58 then e = .returned (.tuple #[.string ⟨#[]⟩, .iface 78 (.int .i64 1)])
  else if fineB user && fineB pass then e = .returned (.tuple #[.string (basicB user pass), .nilIface])
  else e = .returned (.tuple #[.string ⟨#[]⟩, .iface 78 (.int .i64 3)])
def BsOut (user pass : ByteArray) (w : World) (i : Value) (wr : World) : Prop := ∃ k : Nat, k ≤ 2 ∧ i = .int .i64 k ∧ (0 < k → fineB user = true) ∧ (1 < k → fineB pass = true) ∧ Fr noB w wr
def BsIn (s : ByteArray) (w : World) (i : Value) (wr : World) : Prop := ∃ k : Nat, k ≤ s.size ∧ i = .int .i64 k ∧ (s.data.toList.take k).all (fun c => !badB c) = true ∧ Fr noB w wr
theorem two_at {a b x : ByteArray} {k : Nat} (h : [a, b][k]? = some x) : k = 0 ∧ x = a ∨ k = 1 ∧ x = b := by
  match k, h with
  | 0, h => exact .inl ⟨rfl, by simpa using h.symm⟩
  | 1, h => exact .inr ⟨rfl, by simpa using h.symm⟩
  | k + 2, h => simp at h
set_option maxRecDepth 100000 in
set_option maxHeartbeats 2000000 in
theorem Basic_any (user pass : ByteArray) (w : World) (hu : user.size ≤ 100000) (hp : pass.size ≤ 100000) :
    Calls Tryd.prog 32 #[.agg #[.string user, .string pass]] w fun e w' => BasicPost user pass e ∧ Fr noB w w' := by
  have hfb : Fr noB w (w.alloc (.cells #[.string user, .string pass] 40)) := (Fr.refl noB w).alloc _
  have hblk := new_block w (.cells #[.string user, .string pass] 40)
  by_cases hc : 0 ≤ Lib.indexByte user.data.toList 58
  · have HP := Lib.hid (show ∀ e, BasicPost user pass e ↔ e = .returned (.tuple #[.string ⟨#[]⟩, .iface 78 (.int .i64 1)]) from fun e => by unfold BasicPost; rw [if_pos hc])
    have hd : decide (0 ≤ Lib.indexByte user.data.toList 58) = true := decide_eq_true hc
    go_enter Tryd.func32, Tryd.ntmps32
    go_wp2_with fail
    refine (Tryd.strings_Contains_one user 58 _).mono ?_
    rintro e u1 ⟨rfl, rfl⟩
    rw [hd]
    go_wp2
    go_ret2
    exact ⟨(HP.out _).2 rfl, hfb⟩
  · have hd : decide (0 ≤ Lib.indexByte user.data.toList 58) = false := decide_eq_false hc
    have HBAD := Lib.hid (show (fineB user && fineB pass) = false → BasicPost user pass (.returned (.tuple #[.string ⟨#[]⟩, .iface 78 (.int .i64 3)])) from fun h => by unfold BasicPost; rw [if_neg hc, if_neg (by simp [h])])
    have HOK := Lib.hid (show (fineB user && fineB pass) = true → BasicPost user pass (.returned (.tuple #[.string (basicB user pass), .nilIface])) from fun h => by unfold BasicPost; rw [if_neg hc, if_pos h])
    have HFB := Lib.hid hfb
    have HCA := Lib.hid (show ∀ U, Fr noB (w.alloc (.cells #[.string user, .string pass] 40)) U → U.cell? ⟨w.heap.size, 0, none⟩ = some (.string user) ∧ U.cell? ⟨w.heap.size, 1, none⟩ = some (.string pass) from fun U hU => by
      have hk2 := hU.keep hblk (fun h => h)
      simp [World.cell?, hk2])
    have hfw : Fr noB w ((w.alloc (.cells #[.string user, .string pass] 40)).alloc (.cells #[.string user, .string pass] 9)) := hfb.alloc _
    have hcl : ∀ U, Fr noB ((w.alloc (.cells #[.string user, .string pass] 40)).alloc (.cells #[.string user, .string pass] 9)) U →
        U.cell? ⟨w.heap.size, 0, none⟩ = some (.string user) ∧ U.cell? ⟨w.heap.size, 1, none⟩ = some (.string pass) ∧ ∀ (k : Nat) x, [user, pass][k]? = some x → U.cell? ⟨w.heap.size + 1, k, none⟩ = some (.string x) := fun U hU => by
      have hk1 := hU.keep (((Fr.refl noB _).alloc _).keep hblk (fun h => h)) (fun h => h)
      have hk2 := hU.keep (new_block (w.alloc (.cells #[.string user, .string pass] 40)) (.cells #[.string user, .string pass] 9)) (fun h => h)
      rw [World.size_alloc] at hk2
      refine ⟨by simp [World.cell?, hk1], by simp [World.cell?, hk1], fun k x hx => ?_⟩
      rcases two_at hx with ⟨rfl, rfl⟩ | ⟨rfl, rfl⟩ <;> simp [World.cell?, hk2]
    have HCL := Lib.hid hcl
    have HFW := Lib.hid hfw
    clear hfb hblk hcl hfw
    go_enter Tryd.func32, Tryd.ntmps32
    go_wp2_with fail
    refine (Tryd.strings_Contains_one user 58 _).mono ?_
    rintro e u1 ⟨rfl, rfl⟩
    rw [hd]
    go_wp2
    obtain ⟨wl, hwl⟩ : ∃ wl, wl = (w.alloc (.cells #[.string user, .string pass] 40)).alloc (.cells #[.string user, .string pass] 9) := ⟨_, rfl⟩
    rw [← hwl] at HCL HFW ⊢
    clear hwl
    go_loopw [17] (BsOut user pass wl) (fun i _ => 2 - (intOf i).toNat)
    case atStart => exact ⟨0, by omega, rfl, by omega, by omega, Fr.refl _ _⟩
    case round =>
      obtain ⟨k, hk, rfl, hf0, hf1, hfr⟩ := hrel
      generalize wr = wo at *
      by_cases hk2 : k < 2
      · have hk2i : (k : Int) < 2 := by omega
        obtain ⟨s, hs⟩ : ∃ s, [user, pass][k]? = some s := ⟨_, List.getElem?_eq_getElem (by simpa using hk2)⟩
        have hcell := (HCL.out wo hfr).2.2 k s hs
        have hsz : s.size ≤ 100000 := by rcases two_at hs with ⟨_, rfl⟩ | ⟨_, rfl⟩ <;> assumption
        have HNX := Lib.hid (show fineB s = true → (0 < k + 1 → fineB user = true) ∧ (1 < k + 1 → fineB pass = true) from fun h => by
          rcases two_at hs with ⟨rfl, rfl⟩ | ⟨rfl, rfl⟩
          · exact ⟨fun _ => h, fun h => by omega⟩
          · exact ⟨fun _ => hf0 (by omega), fun _ => h⟩)
        have HNO := Lib.hid (show fineB s = false → (fineB user && fineB pass) = false from fun h => by
          rcases two_at hs with ⟨rfl, rfl⟩ | ⟨rfl, rfl⟩ <;> simp [h])
        clear hs hf0 hf1
        go_wp2
        go_loopw [23] (BsIn s wl) (fun i _ => s.size - (intOf i).toNat)
        case atStart => exact ⟨0, by omega, rfl, rfl, hfr⟩
        case round =>
          obtain ⟨j, hj, rfl, hall, hfr2⟩ := hrel
          by_cases hj2 : j < s.size
          · have hj2i : (j : Int) < (s.size : Int) := by omega
            have hby := byte_at s j hj2
            by_cases hb : badB s[j] = true
            · have HFI := Lib.hid (show fineB s = false by
                unfold fineB
                rw [List.all_eq_false]
                exact ⟨s[j], List.mem_of_getElem? hby, by simp [hb]⟩)
              have hor : s[j].toNat < 32 ∨ s[j].toNat = 127 := by
                unfold badB at hb
                simp only [Bool.or_eq_true, decide_eq_true_eq, beq_iff_eq] at hb
                rcases hb with h | h
                · exact .inl (UInt8.lt_iff_toNat_lt.1 h)
                · exact .inr (by rw [h]; rfl)
              by_cases h32 : s[j].toNat < 32
              · have h32i : (s[j].toNat : Int) < 32 := by omega
                go_wp2
                go_ret2
                exact ⟨HBAD.out (HNO.out HFI.out), HFW.out.trans hfr2⟩
              · have h32i : ¬ (s[j].toNat : Int) < 32 := by omega
                have h127 : s[j].toNat = 127 := by omega
                have h127i : (s[j].toNat : Int) = 127 := by omega
                go_wp2
                go_ret2
                exact ⟨HBAD.out (HNO.out HFI.out), HFW.out.trans hfr2⟩
            · have hor : ¬ s[j].toNat < 32 ∧ ¬ s[j].toNat = 127 := by
                unfold badB at hb
                simp only [Bool.or_eq_true, decide_eq_true_eq, beq_iff_eq, not_or] at hb
                exact ⟨fun h => hb.1 (UInt8.lt_iff_toNat_lt.2 h), fun h => hb.2 (UInt8.toNat_inj.1 h)⟩
              obtain ⟨o1, o2⟩ := hor
              have h32i : ¬ (s[j].toNat : Int) < 32 := by omega
              have h127i : ¬ (s[j].toNat : Int) = 127 := by omega
              have HAL := Lib.hid (show (s.data.toList.take (j + 1)).all (fun c => !badB c) = true by
                rw [List.take_add_one, hby, List.all_append, hall]; simp [hb])
              clear hby hall
              go_wp2
              go_roundw
              case rel => exact ⟨j + 1, by omega, by go_num, HAL.out, hfr2⟩
              case measure => simp [intOf]; omega
          · have hj2i : ¬ (j : Int) < (s.size : Int) := by omega
            have HFI := Lib.hid (show fineB s = true by
              unfold fineB
              rw [List.take_of_length_le (by simp; omega)] at hall
              exact hall)
            clear hall
            go_wp2
            go_roundw
            case rel => exact ⟨k + 1, by omega, by go_num, (HNX.out HFI.out).1, (HNX.out HFI.out).2, hfr2⟩
            case measure => simp [intOf]; omega
      · have hk2i : ¬ (k : Int) < 2 := by omega
        have hok : (fineB user && fineB pass) = true := by rw [hf0 (by omega), hf1 (by omega)]; rfl
        have HPO := Lib.hid (HOK.out hok)
        obtain ⟨c0, c1, _⟩ := HCL.out wo hfr
        have hb1 : ¬ 9223372036854775807 < user.size + 1 := by omega
        have hb2 : ¬ 9223372036854775807 < user.size + 1 + pass.size := by omega
        clear hf0 hf1 hok
        have HB64 := Lib.hid (fun W => Base64_any (user ++ ⟨#[58]⟩ ++ pass) W (by simp [ByteArray.size_append]; show user.size + 1 + pass.size < _; omega))
        have HLB := Lib.hid (show (b64L (user ++ ⟨#[58]⟩ ++ pass).data.toList).length ≤ 400000 from by rw [b64_len]; simp [ByteArray.data_append]; omega)
        have HEQ := Lib.hid (show (⟨#[66, 97, 115, 105, 99, 32]⟩ ++ ⟨(b64L (user ++ ⟨#[58]⟩ ++ pass).data.toList).toArray⟩ : ByteArray) = basicB user pass from by
          apply Go.WideShapes.bytes_inj
          unfold basicB
          simp [ByteArray.data_append])
        go_wp2_with fail
        refine (HB64.out _).mono ?_
        rintro e w7 ⟨rfl, hf7⟩
        generalize b64L (user ++ ⟨#[58]⟩ ++ pass).data.toList = bl at *
        have hb3 : ¬ 9223372036854775807 < 6 + bl.length := by have := HLB.out; omega
        go_wp2
        go_ret2
        rw [← HEQ.out] at HPO
        exact ⟨HPO.out, (HFW.out.trans hfr).trans hf7⟩
end Go.Proofs.YtghimbpihmehoaaDoor
