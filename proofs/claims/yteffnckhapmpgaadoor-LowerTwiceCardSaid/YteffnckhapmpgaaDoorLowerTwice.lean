/- The law LowerTwice: its walk. -/
import Derived.Test.YteffnckhapmpgaaDoorCoded
import Derived.Test.YteffnckhapmpgaaDoorLowLaws
import Derived.Test.YteffnckhapmpgaaDoorIndexAny
namespace Go.Proofs.YteffnckhapmpgaaDoor
open Go.RowKit

def capsB : ByteArray := ⟨#[65, 66, 67, 68, 69, 70, 71, 72, 73, 74, 75, 76, 77, 78, 79, 80, 81, 82, 83, 84, 85, 86, 87, 88, 89, 90]⟩
theorem lowB_nocap : ∀ n : Fin 256, capsB.data.toList.contains (lowB n.val.toUInt8) = false := by decide +kernel
theorem lowL_nocap (l : List UInt8) : Lib.containsAny (lowL l) capsB.data.toList = false := by
  have h : Lib.indexAny (lowL l) capsB.data.toList = -1 := by
    apply Lib.indexAny_none
    intro j b _ hb
    have hm := List.mem_of_getElem? hb
    unfold lowL at hm
    obtain ⟨c, _, rfl⟩ := List.mem_map.1 hm
    have h := lowB_nocap ⟨c.toNat, c.toNat_lt⟩
    simpa using h
  unfold Lib.containsAny
  rw [h]; rfl
theorem caps_ascii : ∀ b ∈ capsB.data.toList, b.toNat < 128 := by decide +kernel
theorem lowL_app (a b : List UInt8) : lowL (a ++ b) = lowL a ++ lowL b := by unfold lowL; simp

set_option maxRecDepth 100000 in
set_option maxHeartbeats 2000000 in
theorem LowerTwice_walk (a0 a1 : ByteArray) (z0 : a0.size ≤ 140737488351232) (z1 : a1.size ≤ 140737488351232) (w : World) :
    Calls Tryd.prog 8 #[.string a0, .string a1] w fun e w' => e = .returned (.bool true) ∧ Below w.heap.size w w' := by
  have S0 := Lib.hid (lowSize a0)
  have S1 := Lib.hid (lowSize a1)
  go_enter Tryd.func8, Tryd.ntmps8
  go_wp2_with fail
  refine (coded_any w).mono ?_
  rintro e u1 ⟨rfl, hf1⟩
  by_cases hlen : 400 < a0.size + a1.size
  · have hlen' : (400 : Int) < (a0.size : Int) + (a1.size : Int) := by omega
    go_wp2
    go_ret
    exact ⟨rfl, hf1.none_below⟩
  · have hlen' : ¬ (400 : Int) < (a0.size : Int) + (a1.size : Int) := by omega
    go_wp2_with fail
    refine (Lower_any a0 u1 (by omega)).mono ?_
    rintro e u2 ⟨rfl, hf2⟩
    go_wp2_with fail
    refine (Lower_any ⟨(lowL a0.data.toList).toArray⟩ u2 (by rw [S0.out]; omega)).mono ?_
    rintro e u3 ⟨rfl, hf3⟩
    rw [show lowL (ByteArray.mk (lowL a0.data.toList).toArray).data.toList = lowL a0.data.toList from lowL_lowL _]
    have HN := Lib.hid (lowL_nocap a0.data.toList)
    have happ : (lowL (a0 ++ a1).data.toList) = lowL a0.data.toList ++ lowL a1.data.toList := by rw [← lowL_app]; simp [ByteArray.data_append]
    have HAPP := Lib.hid happ
    clear happ
    have hl0 : (((lowL a0.data.toList).length : Int) == (a0.size : Int)) = true := by rw [lowL_len]; simp
    have hl0' : (lowL a0.data.toList).length ≤ a0.size := by rw [lowL_len]; simp
    have hl1' : (lowL a1.data.toList).length ≤ a1.size := by rw [lowL_len]; simp
    generalize lowL a0.data.toList = x at *
    go_wp2_with fail
    refine (Lower_any (a0 ++ a1) u3 (by rw [ByteArray.size_append]; omega)).mono ?_
    rintro e u4 ⟨rfl, hf4⟩
    rw [HAPP.out]
    go_wp2_with fail
    refine (Lower_any a1 u4 (by omega)).mono ?_
    rintro e u5 ⟨rfl, hf5⟩
    have hbq : (x ++ lowL a1.data.toList == ((⟨x.toArray⟩ : ByteArray) ++ ⟨(lowL a1.data.toList).toArray⟩).toList) = true := by
      rw [Go.ByteArray.toList_eq, beq_iff_eq]; simp [ByteArray.data_append]
    have hsum : ¬ (9223372036854775807 : Int) < (x.length : Int) + ((lowL a1.data.toList).length : Int) := by omega
    have HF5 := (((hf1.trans hf2).trans hf3).trans hf4).trans hf5
    go_wp2_with fail
    refine (ContainsAny_any ⟨x.toArray⟩ capsB u5 (by show x.toArray.size < _; simp; omega) (by decide) caps_ascii).mono ?_
    rintro e u6 ⟨rfl, hf6⟩
    rw [show Lib.containsAny (ByteArray.mk x.toArray).data.toList capsB.data.toList = false from HN.out]
    go_wp2
    go_ret
    exact ⟨rfl, (HF5.trans hf6).none_below⟩
end Go.Proofs.YteffnckhapmpgaaDoor
