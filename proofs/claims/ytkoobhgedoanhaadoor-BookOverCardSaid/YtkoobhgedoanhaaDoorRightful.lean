/- The laws' rightful. -/
import Derived.Test.YtkoobhgedoanhaaDoorSized
import Derived.Test.YtkoobhgedoanhaaDoorFew
namespace Go.Proofs.YtkoobhgedoanhaaDoor
open Go.RowKit

/-- the laws' rightful -/
def rightfulB (r : ReqOf Value) (hs : List Prm) : Bool := fewB hs && decide ((r.method.size : Int) + (r.path.size : Int) + (r.query.size : Int) + (r.o.host.size : Int) + (r.frm.host.size : Int) ≤ 600)
set_option maxHeartbeats 2000000 in
set_option maxRecDepth 100000 in
theorem rightful_any (r : ReqOf Value) (hs : List Prm) (w : World) (hr : PrmsAt w r.heads hs) (hl : hs.length ≤ 140737488355328) (hzs : ∀ p ∈ hs, p.1.size ≤ 140737488351232 ∧ p.2.size ≤ 140737488351232) (hz : r.Sized) :
    Calls Tryd.prog 27 #[.agg r.cells.toArray] w fun e w' => e = .returned (.bool (rightfulB r hs)) ∧ Fr noB w w' := by
  obtain ⟨z1, z2, z3, z4, z5⟩ := hz
  obtain ⟨wb, hwb⟩ : ∃ wb, wb = w.alloc (.cells r.cells.toArray 67) := ⟨_, rfl⟩
  have hfb : Fr noB w wb := by rw [hwb]; exact (Fr.refl noB w).alloc _
  have hk1 : wb.heap[w.heap.size]? = some (.cells r.cells.toArray 67 (0, 0)) := by rw [hwb]; exact new_block _ _
  obtain ⟨ah, ch, hhf⟩ := RowsAt.form hr
  rw [List.length_map] at hhf
  have hrc : r.cells = [.int .i64 r.part, .bool r.frm.secure, .string r.frm.host, .int .i64 r.frm.port, .bool r.o.secure, .string r.o.host, .int .i64 r.o.port, .string r.path, .string r.query, .string r.method, .slice ah hs.length ch, .bool r.wth, .string r.body] := by unfold ReqOf.cells; rw [hhf]
  have HC := Lib.hid (show ∀ U, Fr noB wb U → U.cell? ⟨w.heap.size, 2, none⟩ = some (.string r.frm.host) ∧ U.cell? ⟨w.heap.size, 5, none⟩ = some (.string r.o.host) ∧ U.cell? ⟨w.heap.size, 7, none⟩ = some (.string r.path) ∧ U.cell? ⟨w.heap.size, 8, none⟩ = some (.string r.query) ∧ U.cell? ⟨w.heap.size, 9, none⟩ = some (.string r.method) ∧ U.cell? ⟨w.heap.size, 10, none⟩ = some (.slice ah hs.length ch) from fun U hU => by
    have j := hU.keep hk1 (fun h => h)
    rw [hrc] at j
    simp [World.cell?, j])
  have HFW := Lib.hid (few_any (.slice ah hs.length ch) hs wb (by rw [← hhf]; exact RowsAt.frNone hr hfb) hl hzs)
  rw [hrc] at hwb ⊢
  have HFB := Lib.hid hfb
  have HWB := Lib.hid hwb
  obtain ⟨k2, k5, k7, k8, k9, k10⟩ := HC.out wb (Fr.refl _ _)
  rw [hwb] at k10
  clear hr hl hzs hfb hk1 hhf hrc hwb k2 k5 k7 k8 k9
  cases hfw : fewB hs
  · have HR := Lib.hid (show rightfulB r hs = false by unfold rightfulB; rw [hfw]; rfl)
    rw [hfw] at HFW
    clear hfw
    go_enter Tryd.func27, Tryd.ntmps27
    go_wp2_with fail
    rw [← HWB.out]
    refine HFW.out.mono ?_
    rintro e u ⟨rfl, hf⟩
    go_wp2
    go_ret
    exact ⟨by rw [HR.out]; rfl, HFB.out.trans hf⟩
  · have HR := Lib.hid (show rightfulB r hs = decide ((r.method.size : Int) + (r.path.size : Int) + (r.query.size : Int) + (r.o.host.size : Int) + (r.frm.host.size : Int) ≤ 600) by unfold rightfulB; rw [hfw]; rfl)
    rw [hfw] at HFW
    clear hfw
    go_enter Tryd.func27, Tryd.ntmps27
    go_wp2_with fail
    rw [← HWB.out]
    refine HFW.out.mono ?_
    rintro e u ⟨rfl, hf⟩
    obtain ⟨k2, k5, k7, k8, k9, _⟩ := HC.out u hf
    go_wp2
    go_ret
    exact ⟨by rw [HR.out]; rfl, HFB.out.trans hf⟩
end Go.Proofs.YtkoobhgedoanhaaDoor
