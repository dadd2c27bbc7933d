/- The reading of an argument: challenges, a challenge. -/
import Derived.Test.YtegbacpenolehaaDoorOpenR
import Derived.Test.YtegbacpenolehaaDoorAskRead
namespace Go.Proofs.YtegbacpenolehaaDoor
open Go.ChangeShapes Go.WideShapes Go.ChangeAt Go.RowKit Go.Deep

variable {H : Type} {enc : TypeId × Value → H} {W : World}
/-- a parameter of two texts -/
def parOf (b : ByteArray × ByteArray) : Par := (b.1.data.toList, b.2.data.toList)
theorem parC_of (b : ByteArray × ByteArray) : parC (parOf b) = [.string b.1, .string b.2] := by
  unfold parC parOf
  rw [bA_of, bA_of]
structure Cha.Sized (x : Cha) : Prop where
  scheme : x.scheme.length ≤ reachBytes
  token : x.token.length ≤ reachBytes
  few : x.params.length * 32 ≤ reachBytes
  pars : ∀ p ∈ x.params, p.1.length ≤ reachBytes ∧ p.2.length ≤ reachBytes
theorem cells_challenge : Tryd.prog.cellsOf 61 = 3 := by kernel_rfl
theorem cells_paramsC : Tryd.prog.cellsOf 59 = 1 := by kernel_rfl
/-- a challenge's cells -/
theorem open_challenge {fuel : Nat} {cs : List Value} {x : DataW H × List MemPlace} (h : DataW.trod enc Tryd.prog W 0 (fun _ => true) true fuel 61 cs = some x) :
    ∃ b : ChaV × Cha, (cs = chaC b.1 ∧ ChaRd W b.1 b.2) ∧ cs.length = 3 ∧ (∀ u ∈ cs, u.oneCell' = true) ∧ (Light Tryd.prog 61 x.1 → b.2.Sized) := by
  obtain ⟨hl, n, hf⟩ := open_field Tryd.underlying61 h
  rw [cells_challenge] at hl
  obtain ⟨c0, c1, c2, rfl⟩ := len3 hl
  obtain ⟨y0, h0, l0⟩ := hf 0 9 0 _ rfl cells_string
  obtain ⟨y1, h1, l1⟩ := hf 1 9 1 _ rfl cells_string
  obtain ⟨y2, h2, l2⟩ := hf 2 59 2 _ rfl cells_paramsC
  simp only [List.drop, List.take] at h0 h1 h2
  obtain ⟨u, eu, wu⟩ := open_string_field Tryd.underlying9 h0
  obtain ⟨q, eq, wq⟩ := open_string_field Tryd.underlying9 h1
  obtain ⟨v', ps, e, hr, hs⟩ := open_paramsR h2
  simp only [List.cons.injEq, and_true] at eu eq e
  subst eu eq e
  refine ⟨((u, q, c2), ⟨u.data.toList, q.data.toList, ps.map parOf⟩), ⟨rfl, (bA_of u).symm, (bA_of q).symm, ?_⟩, rfl, ?_, fun hL => ?_⟩
  · show RowsAt 2 W c2 ((ps.map parOf).map parC)
    rw [List.map_map]
    have : (ps.map fun p => [Value.string p.1, Value.string p.2]) = ps.map (parC ∘ parOf) := List.map_congr_left (fun p _ => (parC_of p).symm)
    rw [← this]; exact hr
  · intro v hv
    obtain ⟨a, c, ev⟩ := hr.form
    simp only [List.mem_cons, List.not_mem_nil, or_false] at hv
    rcases hv with rfl | rfl | rfl
    · rfl
    · rfl
    · rw [ev]; rfl
  · obtain ⟨hn, hps⟩ := hs (l2 hL)
    refine ⟨wu (l0 hL), wq (l1 hL), by simpa using hn, fun p hp => ?_⟩
    obtain ⟨b, hb, rfl⟩ := List.mem_map.1 hp
    exact hps b hb
instance : Inhabited (ChaV × Cha) := ⟨((.empty, .empty, .nilIface), ⟨[], [], []⟩)⟩
theorem both_chas : ∀ {css : List (List Value)} {bs : List (ChaV × Cha)}, Both (fun cs b => cs = chaC b.1 ∧ ChaRd W b.1 b.2) css bs → css = (bs.map (·.1)).map chaC ∧ Both (ChaRd W) (bs.map (·.1)) (bs.map (·.2))
  | _, _, .nil => ⟨rfl, .nil⟩
  | _, _, .cons h t => by
    obtain ⟨e, hb⟩ := both_chas t
    exact ⟨by rw [List.map_cons, List.map_cons, ← e, h.1], .cons h.2 hb⟩
set_option maxRecDepth 100000 in
/-- a slice of challenges as an argument -/
theorem open_chasArg {base : Nat} {v : Value} {d : DataW H} {p : List MemPlace} (hv : Value.okWide Tryd.prog W .any base 53 v) (h : DataW.Trod enc Tryd.prog W 0 (fun _ => true) true 53 v d p) (hL : Light Tryd.prog 53 d) :
    ∃ xs : List Cha, ChasAt W v xs ∧ xs.length * 56 ≤ reachBytes ∧ ∀ x ∈ xs, x.Sized := by
  obtain ⟨a, len, cap, rfl⟩ := okWide_slice Tryd.underlying53 hv
  obtain ⟨fuel, hf⟩ := h
  obtain ⟨v', css, bs, e, hr, hb, hs⟩ := open_rowsR (Q := fun cs (b : ChaV × Cha) => cs = chaC b.1 ∧ ChaRd W b.1 b.2) (S := fun b => b.2.Sized) Tryd.underlying53 cells_challenge (by decide) (by kernel_rfl : Tryd.prog.bytesOf 61 = 56) open_challenge hf
  simp only [Value.cells, List.cons.injEq, and_true] at e
  subst e
  obtain ⟨ec, hb2⟩ := both_chas hb
  obtain ⟨hn, hz⟩ := hs hL
  refine ⟨bs.map (·.2), ⟨bs.map (·.1), by rw [← ec]; exact hr, hb2⟩, by simpa using hn, fun x hx => ?_⟩
  obtain ⟨b, hb', rfl⟩ := List.mem_map.1 hx
  exact hz b hb'
set_option maxRecDepth 100000 in
/-- a challenge as an argument -/
theorem open_chaArg {base : Nat} {v : Value} {d : DataW H} {p : List MemPlace} (hv : Value.okWide Tryd.prog W .any base 61 v) (h : DataW.Trod enc Tryd.prog W 0 (fun _ => true) true 61 v d p) (hL : Light Tryd.prog 61 d) :
    ∃ (x : Cha) (pv : Value), v = .agg #[.string (bA x.scheme), .string (bA x.token), pv] ∧ ParsAt W pv x.params ∧ x.Sized := by
  obtain ⟨cs, rfl, _⟩ := okWide_struct Tryd.underlying61 hv
  obtain ⟨fuel, hf⟩ := h
  simp only [Value.cells] at hf
  obtain ⟨b, ⟨e, e1, e2, hp⟩, _, _, hs⟩ := open_challenge hf
  refine ⟨b.2, b.1.2.2, ?_, hp, hs hL⟩
  congr 1
  apply Array.ext'
  rw [e, ← e1, ← e2]
  rfl
end Go.Proofs.YtegbacpenolehaaDoor
