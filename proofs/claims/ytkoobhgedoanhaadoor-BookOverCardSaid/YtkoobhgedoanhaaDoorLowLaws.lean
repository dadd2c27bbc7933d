/- Plain laws of Lower and Same. -/
import Derived.Test.YtkoobhgedoanhaaDoorLower
namespace Go.Proofs.YtkoobhgedoanhaaDoor
open Go.RowKit

theorem lowB_all : ∀ n : Fin 256, lowB (lowB n.val.toUInt8) = lowB n.val.toUInt8 := by decide +kernel
theorem lowB_lowB (c : UInt8) : lowB (lowB c) = lowB c := by
  have h := lowB_all ⟨c.toNat, c.toNat_lt⟩
  simpa using h
theorem lowL_lowL (l : List UInt8) : lowL (lowL l) = lowL l := by
  unfold lowL
  rw [List.map_map]
  apply List.map_congr_left
  intro c _
  exact lowB_lowB c
theorem lowL_len (l : List UInt8) : (lowL l).length = l.length := by unfold lowL; simp
theorem sameL_self (a : List UInt8) : sameL a a = true := by unfold sameL; simp
theorem sameL_sym (a b : List UInt8) : sameL b a = sameL a b := by unfold sameL; rw [Bool.eq_iff_iff, beq_iff_eq, beq_iff_eq]; exact eq_comm
theorem sameL_trans {a b c : List UInt8} (h1 : sameL a b = true) (h2 : sameL b c = true) : sameL a c = true := by
  unfold sameL at *
  rw [beq_iff_eq] at *
  rw [h1, h2]
theorem sameL_low (a : List UInt8) : sameL a (lowL a) = true := by unfold sameL; rw [lowL_lowL]; simp
theorem lowSize (a : ByteArray) : (⟨(lowL a.data.toList).toArray⟩ : ByteArray).size = a.size := by
  show (lowL a.data.toList).toArray.size = a.size
  have h : a.data.toList.length = a.size := rfl
  simp [lowL_len]

end Go.Proofs.YtkoobhgedoanhaaDoor
