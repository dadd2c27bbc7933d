/- The fact named. -/
import Derived.Test.YtkoobhgedoanhaaGreatDoorParse
namespace Go.Proofs.YtkoobhgedoanhaaGreatDoor
open Go.RowKit

def nmA : ByteArray := ⟨#[72, 84, 84, 80, 83, 58, 47, 47, 65, 46, 116, 101, 115, 116, 58, 52, 52, 51, 47, 120, 47, 46, 46, 47, 121, 63, 113, 35, 102]⟩
def nmB : ByteArray := ⟨#[104, 116, 116, 112, 58, 47, 47, 98, 46, 116, 101, 115, 116, 58, 56, 48, 56, 48]⟩
def nmC : ByteArray := ⟨#[47, 97, 47, 46, 47, 98, 47, 46, 46]⟩
theorem nm_parse : parseV nmA.data.toList = .tuple #[.agg #[.bool true, .string ⟨#[97, 46, 116, 101, 115, 116]⟩, .int .i64 443, .string ⟨#[47, 121]⟩, .string ⟨#[113]⟩], .nilIface] := by kernel_rfl
theorem nm_origin : originV nmB.data.toList = .tuple #[.agg #[.bool false, .string ⟨#[98, 46, 116, 101, 115, 116]⟩, .int .i64 8080], .nilIface] := by kernel_rfl
theorem nm_itoa : Lib.itoa 8080 = [56, 48, 56, 48] := by
  rw [itoa_nat (by decide)]
  show Lib.decDigits 8080 = _
  rw [decDigits_big (by decide), decDigits_big (by decide), decDigits_big (by decide), decDigits_small (by decide)]
  rfl
theorem nm_text : oriB ⟨false, ⟨#[98, 46, 116, 101, 115, 116]⟩, 8080⟩ = nmB := by
  rw [oriB_told _ _ _ (by decide), nm_itoa]
  rfl
theorem nm_clean : (⟨(cleanL nmC.data.toList).toArray⟩ : ByteArray) = ⟨#[47, 97, 47]⟩ := by kernel_rfl
set_option maxRecDepth 100000 in
set_option maxHeartbeats 4000000 in
theorem named_any (w : World) (ht : PwTab w) : Calls Tryz.prog 34 #[] w fun e w' => e = .returned (.bool true) ∧ Fr noB w w' := by
  have HT := Lib.hid ht
  clear ht
  have he1 : ∀ u, (binOp .eql 51 (.agg #[.bool true, .string ⟨#[97, 46, 116, 101, 115, 116]⟩, .int .i64 443, .string ⟨#[47, 121]⟩, .string ⟨#[113]⟩]) (.agg #[.bool true, .string ⟨#[97, 46, 116, 101, 115, 116]⟩, .int .i64 443, .string ⟨#[47, 121]⟩, .string ⟨#[113]⟩])).run Tryz.prog u = .ok (.bool true) u := fun u => by kernel_rfl
  have he2 : ∀ u, (binOp .eql 49 (.agg #[.bool false, .string ⟨#[98, 46, 116, 101, 115, 116]⟩, .int .i64 8080]) (.agg #[.bool false, .string ⟨#[98, 46, 116, 101, 115, 116]⟩, .int .i64 8080])).run Tryz.prog u = .ok (.bool true) u := fun u => by kernel_rfl
  have HPA := Lib.hid ((Parse_any nmA w (by decide)).mono (R' := fun e w' => e = .returned (.tuple #[.agg #[.bool true, .string ⟨#[97, 46, 116, 101, 115, 116]⟩, .int .i64 443, .string ⟨#[47, 121]⟩, .string ⟨#[113]⟩], .nilIface]) ∧ Fr noB w w') fun e w' h => ⟨by rw [h.1, nm_parse], h.2⟩)
  have HOR := Lib.hid (fun U => (Origin_any nmB U (by decide)).mono (R' := fun e w' => e = .returned (.tuple #[.agg #[.bool false, .string ⟨#[98, 46, 116, 101, 115, 116]⟩, .int .i64 8080], .nilIface]) ∧ Fr noB U w') fun e w' h => ⟨by rw [h.1, nm_origin], h.2⟩)
  have HTX := Lib.hid (fun U (h : PwTab U) => (Text_any ⟨false, ⟨#[98, 46, 116, 101, 115, 116]⟩, 8080⟩ U h (by decide) (by decide) (by decide)).mono (R' := fun e w' => e = .returned (.string nmB) ∧ Fr noB U w') fun e w' h => ⟨by rw [h.1, nm_text], h.2⟩)
  have hnb : nmB = ⟨#[104, 116, 116, 112, 58, 47, 47, 98, 46, 116, 101, 115, 116, 58, 56, 48, 56, 48]⟩ := rfl
  rw [hnb] at HTX
  have HCN := Lib.hid (fun U => (Clean_any nmC U (by decide)).mono (R' := fun e w' => e = .returned (.string ⟨#[47, 97, 47]⟩) ∧ Fr noB U w') fun e w' h => ⟨by rw [h.1, nm_clean], h.2⟩)
  go_enter Tryz.func34, Tryz.ntmps34
  go_wp2_with fail
  refine HPA.out.mono ?_
  rintro e u1 ⟨rfl, hf1⟩
  have hb1 := new_block u1 (.cells #[.bool true, .string ⟨#[97, 46, 116, 101, 115, 116]⟩, .int .i64 443, .string ⟨#[47, 121]⟩, .string ⟨#[113]⟩] 51)
  obtain ⟨x1, hx1⟩ : ∃ x1, x1 = u1.alloc (.cells #[.bool true, .string ⟨#[97, 46, 116, 101, 115, 116]⟩, .int .i64 443, .string ⟨#[47, 121]⟩, .string ⟨#[113]⟩] 51) := ⟨_, rfl⟩
  have hg1 : Fr noB w x1 := by rw [hx1]; exact hf1.alloc _
  rw [← hx1] at hb1
  have HX1 := Lib.hid hx1
  clear hx1 hf1
  go_wp2_with fail
  rw [← HX1.out]
  refine (HOR.out x1).mono ?_
  rintro e u2 ⟨rfl, hf2⟩
  have hb3 := (hf2.alloc (.cells #[.bool false, .string ⟨#[98, 46, 116, 101, 115, 116]⟩, .int .i64 8080] 49)).keep hb1 (fun h => h)
  obtain ⟨x2, hx2⟩ : ∃ x2, x2 = u2.alloc (.cells #[.bool false, .string ⟨#[98, 46, 116, 101, 115, 116]⟩, .int .i64 8080] 49) := ⟨_, rfl⟩
  have hg2 : Fr noB w x2 := by rw [hx2]; exact (hg1.trans hf2).alloc _
  have c0 : x2.cell? ⟨u1.heap.size, 0, none⟩ = some (.bool true) ∧ x2.cell? ⟨u1.heap.size, 1, none⟩ = some (.string ⟨#[97, 46, 116, 101, 115, 116]⟩) ∧ x2.cell? ⟨u1.heap.size, 2, none⟩ = some (.int .i64 443) ∧ x2.cell? ⟨u1.heap.size, 3, none⟩ = some (.string ⟨#[47, 121]⟩) ∧ x2.cell? ⟨u1.heap.size, 4, none⟩ = some (.string ⟨#[113]⟩) := by
    rw [hx2]; simp [World.cell?, hb3]
  have d0 : x2.cell? ⟨u2.heap.size, 0, none⟩ = some (.bool false) ∧ x2.cell? ⟨u2.heap.size, 1, none⟩ = some (.string ⟨#[98, 46, 116, 101, 115, 116]⟩) ∧ x2.cell? ⟨u2.heap.size, 2, none⟩ = some (.int .i64 8080) := by
    rw [hx2]
    exact ⟨World.cell?_alloc_mark u2 _ _ _ 0, World.cell?_alloc_mark u2 _ _ _ 1, World.cell?_alloc_mark u2 _ _ _ 2⟩
  obtain ⟨c0, c1, c2, c3, c4⟩ := c0
  obtain ⟨d0, d1, d2⟩ := d0
  have HX2 := Lib.hid hx2
  rw [hx2] at c0 c1 c2 c3 c4 d0 d1 d2
  clear hx2 hb1 hb3 hf2
  have HG2 := Lib.hid hg2
  clear hg2 hg1
  go_wp2_with fail
  rw [← HX2.out]
  refine (HTX.out x2 (HT.out.fr HG2.out)).mono ?_
  rintro e u3 ⟨rfl, hf3⟩
  have HF3 := Lib.hid (HG2.out.trans hf3)
  clear hf3
  go_wp2_with fail
  refine (HCN.out u3).mono ?_
  rintro e u4 ⟨rfl, hf4⟩
  go_wp2
  go_ret
  exact ⟨rfl, HF3.out.trans hf4⟩
end Go.Proofs.YtkoobhgedoanhaaGreatDoor
