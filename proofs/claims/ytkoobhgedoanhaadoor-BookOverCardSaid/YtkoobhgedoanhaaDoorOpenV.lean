/- The reading of an argument: passes, requests. -/
import Derived.Test.YtkoobhgedoanhaaDoorOpenQ
import Derived.Test.YtkoobhgedoanhaaDoorSized
namespace Go.Proofs.YtkoobhgedoanhaaDoor
open Go.ChangeShapes Go.WideShapes Go.ChangeAt Go.RowKit Go.Deep

variable {H : Type} {enc : TypeId × Value → H} {W : World}
theorem cells_url : Tryd.prog.cellsOf 61 = 5 := by kernel_rfl
theorem cells_req : Tryd.prog.cellsOf 67 = 13 := by kernel_rfl
theorem cells_prms : Tryd.prog.cellsOf 65 = 1 := by kernel_rfl
theorem len5 {α : Type} {l : List α} (h : l.length = 5) : ∃ a b c d e, l = [a, b, c, d, e] := by
  match l, h with
  | [a, b, c, d, e], _ => exact ⟨a, b, c, d, e, rfl⟩
theorem len13 {α : Type} {l : List α} (h : l.length = 13) : ∃ a b c d e f g i j k m n o, l = [a, b, c, d, e, f, g, i, j, k, m, n, o] := by
  match l, h with
  | [a, b, c, d, e, f, g, i, j, k, m, n, o], _ => exact ⟨a, b, c, d, e, f, g, i, j, k, m, n, o, rfl⟩
theorem open_url {fuel : Nat} {cs : List Value} {x : DataW H × List MemPlace} (h : DataW.trod enc Tryd.prog W 0 (fun _ => true) true fuel 61 cs = some x) :
    ∃ (o : Ori) (pa qu : ByteArray), cs = o.cells ++ [.string pa, .string qu] ∧ (Lit.int .i64 o.port).wf = true ∧ (Light Tryd.prog 61 x.1 → o.Sized ∧ pa.size ≤ reachBytes ∧ qu.size ≤ reachBytes) := by
  obtain ⟨hl, n, hf⟩ := open_field Tryd.underlying61 h
  rw [cells_url] at hl
  obtain ⟨c0, c1, c2, c3, c4, rfl⟩ := len5 hl
  obtain ⟨y0, h0, l0⟩ := hf 0 24 0 _ rfl cells_ori
  obtain ⟨y1, h1, l1⟩ := hf 1 9 3 _ rfl cells_string
  obtain ⟨y2, h2, l2⟩ := hf 2 9 4 _ rfl cells_string
  simp only [List.drop, List.take] at h0 h1 h2
  obtain ⟨o, e0, w0, s0⟩ := open_ori h0
  obtain ⟨b1, e1, w1⟩ := open_string_field Tryd.underlying9 h1
  obtain ⟨b2, e2, w2⟩ := open_string_field Tryd.underlying9 h2
  unfold Ori.cells at e0
  simp only [List.cons.injEq, and_true] at e0 e1 e2
  obtain ⟨rfl, rfl, rfl⟩ := e0
  subst e1 e2
  exact ⟨o, b1, b2, rfl, w0, fun hL => ⟨s0 (l0 hL), w1 (l1 hL), w2 (l2 hL)⟩⟩
def Req0 : ReqOf Unit := ⟨0, ⟨false, .empty, 0⟩, ⟨false, .empty, 0⟩, .empty, .empty, .empty, (), false, .empty⟩
def Pas0 : Pas := ⟨⟨false, .empty, 0⟩, ⟨false, .empty, 0⟩, .empty, .empty, false, .empty, .empty, 0⟩
instance : Inhabited Pas := ⟨Pas0⟩
end Go.Proofs.YtkoobhgedoanhaaDoor
