/- Package url: Port, Text, scheme. -/
import Derived.Test.YtkoobhgedoanhaaGreatDoorHost2
import Derived.Test.YtkoobhgedoanhaaGreatDoorUrlPure
import Derived.Test.YtkoobhgedoanhaaGreatDoorTabs0
import Derived.Lib.ItoaLen
namespace Go.Proofs.YtkoobhgedoanhaaGreatDoor
open Go.RowKit

theorem Port_any (b : Bool) (w : World) : Calls Tryz.prog 125 #[.bool b] w fun e w' => e = .returned (.int .i64 (portB b)) ∧ w = w' := by
  cases b
  · go_enter Tryz.func125, Tryz.ntmps125
    go_wp2
    go_ret
    exact ⟨rfl, rfl⟩
  · go_enter Tryz.func125, Tryz.ntmps125
    go_wp2
    go_ret
    exact ⟨rfl, rfl⟩
def Ori.toL (o : Ori) : OriL := ⟨o.secure, o.host.data.toList, o.port⟩
def oriB (o : Ori) : ByteArray := ⟨(textO o.toL).toArray⟩
def headB (s : Bool) : ByteArray := ⟨(headL s).toArray⟩
theorem oriB_meant (sec : Bool) (host : ByteArray) (port : Int) (h : port = portB sec) : oriB ⟨sec, host, port⟩ = headB sec ++ host := by
  apply Go.WideShapes.bytes_inj
  unfold oriB textO Ori.toL headB
  simp [h]
theorem oriB_told (sec : Bool) (host : ByteArray) (port : Int) (h : ¬ port = portB sec) : oriB ⟨sec, host, port⟩ = (headB sec ++ host) ++ (⟨#[58]⟩ ++ ⟨(Lib.itoa port).toArray⟩) := by
  apply Go.WideShapes.bytes_inj
  unfold oriB textO Ori.toL headB
  simp [h]
theorem Fr.grow (w : World) (k : Nat) (os : Array Obj) : Fr noB w (Sort.grow (w.drewN k) os) := Fr.of_below (Lib.below_grow w.heap.size w (Nat.le_refl _) k os)
set_option maxRecDepth 100000 in
set_option maxHeartbeats 2000000 in
theorem Text_any (o : Ori) (w : World) (ht : PwTab w) (h0 : -9223372036854775808 ≤ o.port) (h1 : o.port ≤ 9223372036854775807) (hs : o.host.size < 100000) :
    Calls Tryz.prog 71 #[.agg o.cells.toArray] w fun e w' => e = .returned (.string (oriB o)) ∧ Fr noB w w' := by
  obtain ⟨sec, host, port⟩ := o
  have h0 : -9223372036854775808 ≤ port := h0
  have h1 : port ≤ 9223372036854775807 := h1
  have hs : host.size < 100000 := hs
  have hi21 := Lib.itoa_length_le port h0 h1
  have hiz : (⟨(Lib.itoa port).toArray⟩ : ByteArray).size ≤ 21 := by show (Lib.itoa port).toArray.size ≤ 21; simpa using hi21
  unfold Ori.cells
  obtain ⟨wb, hwb⟩ : ∃ wb, wb = w.alloc (.cells #[.bool sec, .string host, .int .i64 port] 49) := ⟨_, rfl⟩
  have hfb : Fr noB w wb := by rw [hwb]; exact (Fr.refl noB w).alloc _
  have hk1 : wb.heap[w.heap.size]? = some (.cells #[.bool sec, .string host, .int .i64 port] 49 (0, 0)) := by rw [hwb]; exact new_block _ _
  have c0 : wb.cell? ⟨w.heap.size, 0, none⟩ = some (.bool sec) := by simp [World.cell?, hk1]
  have c1 : wb.cell? ⟨w.heap.size, 1, none⟩ = some (.string host) := by simp [World.cell?, hk1]
  have c2 : wb.cell? ⟨w.heap.size, 2, none⟩ = some (.int .i64 port) := by simp [World.cell?, hk1]
  have HIT := Lib.hid (show ∀ m, Calls Tryz.prog 126 #[.int .i64 port] (wb.drewN m) fun e w' => e = .returned (.string ⟨(Lib.itoa port).toArray⟩) ∧ Fr noB w w' from fun m =>
    (Tryz.strconv_Itoa port h0 h1 _ ((ht.fr hfb).fr ((Fr.refl noB wb).drewN m))).mono fun e w' h => by
      obtain ⟨he, k, os, rfl⟩ := h
      exact ⟨he, (hfb.drewN m).trans (Fr.grow _ k os)⟩)
  have HWB := Lib.hid hwb
  clear hwb hk1
  by_cases hp : port = portB sec
  · have HT := Lib.hid (oriB_meant sec host port hp)
    have hp1 : (port != portB sec) = false := by simpa using hp
    have HFB := Lib.hid hfb
    cases sec
    · clear hp
      go_enter Tryz.func71, Tryz.ntmps71
      go_wp2
      rw [← HWB.out]
      go_quiet ((go_at_call 125; exact quiet_eq (Port_any false _)))
      go_wp2
      go_ret
      exact ⟨by rw [HT.out]; rfl, HFB.out.drewN _⟩
    · clear hp
      go_enter Tryz.func71, Tryz.ntmps71
      go_wp2
      rw [← HWB.out]
      go_quiet ((go_at_call 125; exact quiet_eq (Port_any true _)))
      go_wp2
      go_ret
      exact ⟨by rw [HT.out]; rfl, HFB.out.drewN _⟩
  · have HT := Lib.hid (oriB_told sec host port hp)
    have hp1 : (port != portB sec) = true := by simpa using hp
    have HFB := Lib.hid hfb
    cases sec
    · clear hp
      go_enter Tryz.func71, Tryz.ntmps71
      go_wp2
      rw [← HWB.out]
      go_quiet ((go_at_call 125; exact quiet_eq (Port_any false _)))
      go_wp2_with fail
      refine (HIT.out _).mono ?_
      rintro e u ⟨rfl, hfu⟩
      go_wp2
      go_ret
      exact ⟨by rw [HT.out]; rfl, hfu⟩
    · clear hp
      go_enter Tryz.func71, Tryz.ntmps71
      go_wp2
      rw [← HWB.out]
      go_quiet ((go_at_call 125; exact quiet_eq (Port_any true _)))
      go_wp2_with fail
      refine (HIT.out _).mono ?_
      rintro e u ⟨rfl, hfu⟩
      go_wp2
      go_ret
      exact ⟨by rw [HT.out]; rfl, hfu⟩
end Go.Proofs.YtkoobhgedoanhaaGreatDoor
