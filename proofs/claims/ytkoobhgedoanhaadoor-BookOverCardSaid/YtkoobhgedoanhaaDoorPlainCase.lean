/- The law PlainCase: its plain part; few's closure. -/
import Derived.Test.YtkoobhgedoanhaaDoorPlain2
import Derived.Test.YtkoobhgedoanhaaDoorOpenP
namespace Go.Proofs.YtkoobhgedoanhaaDoor
open Go.RowKit

theorem lower_lower_all : ∀ n : Fin 256, lowL (lowL [n.val.toUInt8]) = lowL [n.val.toUInt8] := by decide +kernel
theorem lowL_cons1 (a : UInt8) (l : List UInt8) : lowL (a :: l) = lowL [a] ++ lowL l := by unfold lowL; rfl
theorem lowL_one (a : UInt8) : ∃ b, lowL [a] = [b] := ⟨_, rfl⟩
theorem lowL_again : ∀ l : List UInt8, lowL (lowL l) = lowL l
  | [] => rfl
  | a :: l => by
    have h := lower_lower_all ⟨a.toNat, a.toNat_lt⟩
    have ha : (⟨a.toNat, a.toNat_lt⟩ : Fin 256).val.toUInt8 = a := by simp
    rw [ha] at h
    obtain ⟨b, hb⟩ := lowL_one a
    rw [lowL_cons1, hb, List.singleton_append, lowL_cons1, lowL_again l]
    rw [hb] at h
    rw [h]; rfl
theorem plain_lower (name value : ByteArray) : plainB ⟨(lowL name.data.toList).toArray⟩ value = plainB name value := by
  unfold plainB
  show (if 128 < value.size then false else if lowL (lowL name.data.toList) = _ then _ else if lowL (lowL name.data.toList) = _ then _ else if lowL (lowL name.data.toList) = _ then _ else if lowL (lowL name.data.toList) = _ then _ else _) = _
  rw [lowL_again]
/-- the four names -/
def fourB : List ByteArray := [⟨#[97, 99, 99, 101, 112, 116]⟩, ⟨#[97, 99, 99, 101, 112, 116, 45, 108, 97, 110, 103, 117, 97, 103, 101]⟩, ⟨#[99, 111, 110, 116, 101, 110, 116, 45, 108, 97, 110, 103, 117, 97, 103, 101]⟩, ⟨#[99, 111, 110, 116, 101, 110, 116, 45, 116, 121, 112, 101]⟩]
theorem plain_four (name value : ByteArray) (h : plainB name value = true) : (⟨(lowL name.data.toList).toArray⟩ : ByteArray) ∈ fourB := by
  unfold plainB at h
  have key : ∀ l : List UInt8, lowL name.data.toList = l → (⟨l.toArray⟩ : ByteArray) ∈ fourB → (⟨(lowL name.data.toList).toArray⟩ : ByteArray) ∈ fourB := fun l e hm => by rw [e]; exact hm
  split at h
  · cases h
  · split at h
    · exact key _ (by assumption) (by unfold fourB; simp)
    · split at h
      · exact key _ (by assumption) (by unfold fourB; simp)
      · split at h
        · exact key _ (by assumption) (by unfold fourB; simp)
        · split at h
          · exact key _ (by assumption) (by unfold fourB; simp)
          · cases h
set_option maxHeartbeats 1000000 in
theorem few1_any (name value : ByteArray) (w : World) (hn : name.size ≤ 140737488351232) (hv : value.size ≤ 140737488351232) :
    Calls Tryd.prog 85 #[.agg #[.string name, .string value]] w fun e w' => e = .returned (.bool (decide ((300 : Int) < (name.size : Int) + (value.size : Int)))) ∧ Fr noB w w' := by
  have hfb : Fr noB w (w.alloc (.cells #[.string name, .string value] 110)) := (Fr.refl noB w).alloc _
  go_enter Tryd.func85, Tryd.ntmps85
  go_wp2
  go_ret
  exact ⟨rfl, hfb⟩
end Go.Proofs.YtkoobhgedoanhaaDoor
