/- The reading of an argument: a request. -/
import Derived.Test.YtkoobhgedoanhaaDoorOpenV
namespace Go.Proofs.YtkoobhgedoanhaaDoor
open Go.ChangeShapes Go.WideShapes Go.ChangeAt Go.RowKit Go.Deep

variable {H : Type} {enc : TypeId × Value → H} {W : World}
/-- what holds of a request among the arguments -/
structure ReqFit (w : World) (r : ReqOf Value) (hs : List Prm) : Prop where
  heads : PrmsAt w r.heads hs
  few : hs.length ≤ 140737488355328
  small : ∀ p ∈ hs, p.1.size ≤ 140737488351232 ∧ p.2.size ≤ 140737488351232
  sized : r.Sized
  body : r.body.size ≤ 140737488351232
  part : (Lit.int .i64 r.part).wf = true
  fport : (Lit.int .i64 r.frm.port).wf = true
  oport : (Lit.int .i64 r.o.port).wf = true
theorem open_req {fuel : Nat} {cs : List Value} {x : DataW H × List MemPlace} (h : DataW.trod enc Tryd.prog W 0 (fun _ => true) true fuel 67 cs = some x) :
    ∃ b : ReqOf Value × List Prm, (cs = b.1.cells ∧ PrmsAt W b.1.heads b.2 ∧ (Lit.int .i64 b.1.part).wf = true ∧ (Lit.int .i64 b.1.frm.port).wf = true ∧ (Lit.int .i64 b.1.o.port).wf = true) ∧ cs.length = 13 ∧ (∀ u ∈ cs, u.oneCell' = true) ∧
      (Light Tryd.prog 67 x.1 → ReqFit W b.1 b.2) := by
  obtain ⟨hl, n, hf⟩ := open_field Tryd.underlying67 h
  rw [cells_req] at hl
  obtain ⟨c0, c1, c2, c3, c4, c5, c6, c7, c8, c9, c10, c11, c12, rfl⟩ := len13 hl
  obtain ⟨y0, h0, l0⟩ := hf 0 3 0 _ rfl cells_int
  obtain ⟨y1, h1, l1⟩ := hf 1 24 1 _ rfl cells_ori
  obtain ⟨y2, h2, l2⟩ := hf 2 61 4 _ rfl cells_url
  obtain ⟨y3, h3, l3⟩ := hf 3 9 9 _ rfl cells_string
  obtain ⟨y4, h4, l4⟩ := hf 4 65 10 _ rfl cells_prms
  obtain ⟨y5, h5, l5⟩ := hf 5 4 11 _ rfl cells_bool
  obtain ⟨y6, h6, l6⟩ := hf 6 9 12 _ rfl cells_string
  simp only [List.drop, List.take] at h0 h1 h2 h3 h4 h5 h6
  obtain ⟨b0, e0, w0⟩ := open_int_field Tryd.underlying3 h0
  obtain ⟨o, e1, w1, s1⟩ := open_ori h1
  obtain ⟨o2, pa, qu, e2, w2, s2⟩ := open_url h2
  obtain ⟨b3, e3, w3⟩ := open_string_field Tryd.underlying9 h3
  obtain ⟨v4, ps, e4, hr, hs⟩ := open_paramsR h4
  obtain ⟨b5, e5⟩ := open_bool_field Tryd.underlying4 h5
  obtain ⟨b6, e6, w6⟩ := open_string_field Tryd.underlying9 h6
  unfold Ori.cells at e1 e2
  simp only [List.cons_append, List.nil_append, List.cons.injEq, and_true] at e0 e1 e2 e3 e4 e5 e6
  obtain ⟨rfl, rfl, rfl⟩ := e1
  obtain ⟨rfl, rfl, rfl, rfl, rfl⟩ := e2
  subst e0 e3 e4 e5 e6
  refine ⟨(⟨b0, o, o2, pa, qu, b3, c10, b5, b6⟩, ps), ⟨rfl, hr, w0, w1, w2⟩, rfl, ?_, fun hL => ?_⟩
  · intro u hu
    obtain ⟨a, c, ev⟩ := hr.form
    simp only [List.mem_cons, List.not_mem_nil, or_false] at hu
    rcases hu with rfl | rfl | rfl | rfl | rfl | rfl | rfl | rfl | rfl | rfl | rfl | rfl | rfl <;> first | rfl | (rw [ev]; rfl)
  · have hk : reachBytes = 140737488351232 := rfl
    obtain ⟨g1, g2⟩ := hs (l4 hL)
    have q2 := s2 (l2 hL)
    have q1 := s1 (l1 hL)
    exact ⟨hr, by show ps.length ≤ _; omega, g2, ⟨w3 (l3 hL), q2.2.1, q2.2.2, q2.1, q1⟩, w6 (l6 hL), w0, w1, w2⟩
set_option maxRecDepth 100000 in
/-- a request as an argument -/
theorem open_reqArg {base : Nat} {v : Value} {d : DataW H} {p : List MemPlace} (hv : Value.okWide Tryd.prog W .any base 67 v) (h : DataW.Trod enc Tryd.prog W 0 (fun _ => true) true 67 v d p) (hL : Light Tryd.prog 67 d) :
    ∃ (r : ReqOf Value) (hs : List Prm), v = .agg r.cells.toArray ∧ ReqFit W r hs := by
  obtain ⟨cs, rfl, _⟩ := okWide_struct Tryd.underlying67 hv
  obtain ⟨fuel, hf⟩ := h
  simp only [Value.cells] at hf
  obtain ⟨b, ⟨e, _⟩, _, _, hs⟩ := open_req hf
  refine ⟨b.1, b.2, ?_, hs hL⟩
  congr 1
  apply Array.ext'
  rw [e]
end Go.Proofs.YtkoobhgedoanhaaDoor
