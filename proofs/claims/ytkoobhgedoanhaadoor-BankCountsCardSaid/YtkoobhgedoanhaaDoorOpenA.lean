/- The reading of an argument: origins, asks. -/
import Derived.Test.YtkoobhgedoanhaaDoorTypes
import Derived.ProofKit
import Derived.OpenShut
import Derived.SizedLaws
import Derived.Deep.Strs
namespace Go.Proofs.YtkoobhgedoanhaaDoor
open Go.ChangeShapes Go.WideShapes Go.ChangeAt Go.RowKit Go.Deep

section
variable {H : Type} {enc : TypeId × Value → H} {P : Program} {W : World}
theorem weightsAll_in {e : TypeId} : ∀ {l : List (DataW H)} {d : DataW H}, d ∈ l → ∀ n ∈ d.weights P e, n ∈ DataW.weightsAll P e l
  | d' :: r, d, hd, n, hn => by
    simp only [DataW.weightsAll, List.mem_append]
    rcases List.mem_cons.1 hd with rfl | h
    · exact Or.inl hn
    · exact Or.inr (weightsAll_in h n hn)
/-- what a datum weighs lies within the reach -/
def Light (P : Program) (t : TypeId) (d : DataW H) : Prop := ∀ n ∈ d.weights P t, n ≤ reachBytes
theorem open_field {t : TypeId} {fs : Array Field} {fuel : Nat} {cs : List Value} {x : DataW H × List MemPlace} (ht : P.underlying t = some (.struct fs)) (h : DataW.trod enc P W 0 (fun _ => true) true fuel t cs = some x) :
    cs.length = P.cellsOf t ∧ ∃ n, ∀ (i : Nat) (t' : TypeId) (o k : Nat), fs[i]?.map (fun f => (f.type, f.offset)) = some (t', o) → P.cellsOf t' = k → ∃ y, DataW.trod enc P W 0 (fun _ => true) true n t' ((cs.drop o).take k) = some y ∧ (Light P t x.1 → Light P t' y.1) := by
  obtain ⟨xs, n, _, rfl, hl, hxl, hf⟩ := DataW.trod_struct ht h
  refine ⟨hl, n, fun i t' o k he hk => ?_⟩
  obtain ⟨f, hi, e⟩ := Option.map_eq_some_iff.1 he
  injection e with e1 e2
  subst e1 e2 hk
  have hlt : i < fs.size := (Array.getElem?_eq_some_iff.1 hi).1
  refine ⟨xs[i], by rw [hf i f hi]; exact List.getElem?_eq_getElem _, fun hL m hm => hL m ?_⟩
  simp only [DataW.weights, ht]
  refine DataW.weights_mem_each (j := i) (t := f.type) (d := xs[i].1) ?_ ?_ m hm
  · rw [List.getElem?_map, Array.getElem?_toList, hi]; rfl
  · rw [List.getElem?_map, List.getElem?_eq_getElem (by omega)]; rfl
theorem open_bool_field {t : TypeId} {fuel : Nat} {cs : List Value} {x : DataW H × List MemPlace} (ht : P.underlying t = some .bool) (h : DataW.trod enc P W 0 (fun _ => true) true fuel t cs = some x) : ∃ b, cs = [.bool b] := by
  obtain ⟨b, e, _⟩ := DataW.trod_bool ht h; exact ⟨b, e⟩
theorem open_int_field {t : TypeId} {k : IntKind} {fuel : Nat} {cs : List Value} {x : DataW H × List MemPlace} (ht : P.underlying t = some (.int k)) (h : DataW.trod enc P W 0 (fun _ => true) true fuel t cs = some x) : ∃ n, cs = [.int k n] ∧ (Lit.int k n).wf = true := by
  obtain ⟨b, e, _, hw⟩ := DataW.trod_int ht h; exact ⟨b, e, hw⟩
theorem open_string_field {t : TypeId} {fuel : Nat} {cs : List Value} {x : DataW H × List MemPlace} (ht : P.underlying t = some .string) (h : DataW.trod enc P W 0 (fun _ => true) true fuel t cs = some x) :
    ∃ s : ByteArray, cs = [.string s] ∧ (Light P t x.1 → s.size ≤ reachBytes) := by
  obtain ⟨s, e, hx, _⟩ := DataW.trod_string ht h
  refine ⟨s, e, fun hL => ?_⟩
  have := hL s.data.toList.length (by rw [hx]; simp [DataW.weights])
  simpa using this
end
variable {H : Type} {enc : TypeId × Value → H} {W : World}
set_option maxRecDepth 100000 in
theorem open_strs_field {fuel : Nat} {cs : List Value} {x : DataW H × List MemPlace} (h : DataW.trod enc Tryd.prog W 0 (fun _ => true) true fuel 30 cs = some x) :
    ∃ v ss, cs = [v] ∧ StrsArg W v ss ∧ (Light Tryd.prog 30 x.1 → ss.length * 16 ≤ reachBytes ∧ ∀ s ∈ ss, s.size ≤ reachBytes) := by
  rcases open_strs Tryd.underlying30 Tryd.underlying9 (by kernel_rfl) h with ⟨rfl, rfl⟩ | ⟨a, len, cap, m, Sx, rfl, _, hl, hm, hme, rfl, hc⟩
  · exact ⟨_, [], rfl, StrsAt.nil _, fun _ => ⟨by simp, by simp⟩⟩
  simp only [if_true] at hme
  subst hme
  have hlight : Light Tryd.prog 30 (DataW.slice ((List.range len).map fun i => (DataW.lit (.string (Sx i).data.toList) : DataW H)) ((List.range (m - len)).map fun j => .lit (.string (Sx (len + j)).data.toList))) → len * 16 ≤ reachBytes ∧ ∀ s ∈ (List.range len).map Sx, s.size ≤ reachBytes := by
    intro hL
    unfold Light at hL
    simp only [DataW.weights, Tryd.underlying30] at hL
    refine ⟨?_, fun s hs => ?_⟩
    · have := hL _ (List.mem_cons_self ..)
      simp only [List.length_map, List.length_range, show Tryd.prog.bytesOf 9 = 16 from by kernel_rfl] at this
      have e : (len + (m - len)) * 16 = m * 16 := by congr 1; omega
      rw [e] at this
      have : len * 16 ≤ m * 16 := Nat.mul_le_mul_right _ hl
      omega
    · obtain ⟨i, hi, rfl⟩ := List.mem_map.1 hs
      have := hL (Sx i).data.toList.length (List.mem_cons_of_mem _ (List.mem_append_left _ (weightsAll_in (d := .lit (.string (Sx i).data.toList)) (List.mem_map.2 ⟨i, hi, rfl⟩) _ (by simp [DataW.weights]))))
      simpa using this
  by_cases h0 : len = 0
  · subst h0
    refine ⟨_, [], rfl, Or.inl ⟨_, _, rfl, rfl, fun e => by cases e⟩, fun hL => ⟨by simp, by simp⟩⟩
  · obtain ⟨b, off, spot⟩ := a
    have hc0 := (hc 0 (by omega)).1
    have hspot : spot = none := by simpa [Addr.add] using World.cell?_spot hc0
    subst hspot
    have hadd : ∀ j, (Addr.add ⟨b, off, none⟩ j) = ⟨b, off + j, none⟩ := by intro j; unfold Addr.add; split <;> simp_all
    have hbl : b < W.heap.size := World.block_lt_of_cell? _ _ hc0
    refine ⟨_, (List.range len).map Sx, rfl, Or.inr ⟨b, off, m, by simp, by simpa using hl, hm, hbl, fun j y hj => ?_⟩, fun hL => by simpa using hlight hL⟩
    · rw [List.getElem?_map] at hj
      obtain ⟨i, hi, rfl⟩ := Option.map_eq_some_iff.1 hj
      obtain ⟨hj1, rfl⟩ := List.getElem?_eq_some_iff.1 hi
      simp at hj1 ⊢
      have := (hc j (by omega)).1
      rwa [hadd] at this

theorem cells_bool : Tryd.prog.cellsOf 4 = 1 := by kernel_rfl
theorem cells_int : Tryd.prog.cellsOf 3 = 1 := by kernel_rfl
theorem cells_string : Tryd.prog.cellsOf 9 = 1 := by kernel_rfl
theorem cells_strs : Tryd.prog.cellsOf 30 = 1 := by kernel_rfl
theorem cells_ori : Tryd.prog.cellsOf 24 = 3 := by kernel_rfl
theorem cells_creds : Tryd.prog.cellsOf 29 = 2 := by kernel_rfl
theorem cells_ask : Tryd.prog.cellsOf 32 = 8 := by kernel_rfl

def Ori.Sized (o : Ori) : Prop := o.host.size ≤ reachBytes
def AskOf.Sized (a : AskOf Texts) : Prop := a.realm.size ≤ reachBytes ∧ a.nonce.size ≤ reachBytes ∧ a.opaq.size ≤ reachBytes ∧ a.qop.size ≤ reachBytes ∧ a.dom.length * 16 ≤ reachBytes ∧ ∀ s ∈ a.dom, s.size ≤ reachBytes
theorem len3 {α : Type} {l : List α} (h : l.length = 3) : ∃ a b c, l = [a, b, c] := by
  match l, h with
  | [a, b, c], _ => exact ⟨a, b, c, rfl⟩
theorem len2 {α : Type} {l : List α} (h : l.length = 2) : ∃ a b, l = [a, b] := by
  match l, h with
  | [a, b], _ => exact ⟨a, b, rfl⟩
theorem len8 {α : Type} {l : List α} (h : l.length = 8) : ∃ a b c d e f g i, l = [a, b, c, d, e, f, g, i] := by
  match l, h with
  | [a, b, c, d, e, f, g, i], _ => exact ⟨a, b, c, d, e, f, g, i, rfl⟩
theorem open_ori {fuel : Nat} {cs : List Value} {x : DataW H × List MemPlace} (h : DataW.trod enc Tryd.prog W 0 (fun _ => true) true fuel 24 cs = some x) :
    ∃ o : Ori, cs = o.cells ∧ (Lit.int .i64 o.port).wf = true ∧ (Light Tryd.prog 24 x.1 → o.Sized) := by
  obtain ⟨hl, n, hf⟩ := open_field Tryd.underlying24 h
  rw [cells_ori] at hl
  obtain ⟨c0, c1, c2, rfl⟩ := len3 hl
  obtain ⟨y0, h0, l0⟩ := hf 0 4 0 _ rfl cells_bool
  obtain ⟨y1, h1, l1⟩ := hf 1 9 1 _ rfl cells_string
  obtain ⟨y2, h2, l2⟩ := hf 2 3 2 _ rfl cells_int
  simp only [List.drop, List.take] at h0 h1 h2
  obtain ⟨b0, e0⟩ := open_bool_field Tryd.underlying4 h0
  obtain ⟨b1, e1, w1⟩ := open_string_field Tryd.underlying9 h1
  obtain ⟨b2, e2, w2⟩ := open_int_field Tryd.underlying3 h2
  simp at e0 e1 e2
  subst e0 e1 e2
  exact ⟨⟨b0, b1, b2⟩, rfl, w2, fun hL => w1 (l1 hL)⟩
theorem open_ask {fuel : Nat} {cs : List Value} {x : DataW H × List MemPlace} (h : DataW.trod enc Tryd.prog W 0 (fun _ => true) true fuel 32 cs = some x) :
    ∃ (r : AskOf Value) (a : AskOf Texts), cs = r.cells ∧ r.Reads (StrsArg W) a ∧ (Lit.int .i64 a.scheme).wf = true ∧ (Light Tryd.prog 32 x.1 → a.Sized) := by
  obtain ⟨hl, n, hf⟩ := open_field Tryd.underlying32 h
  rw [cells_ask] at hl
  obtain ⟨c0, c1, c2, c3, c4, c5, c6, c7, rfl⟩ := len8 hl
  obtain ⟨y0, h0, l0⟩ := hf 0 3 0 _ rfl cells_int
  obtain ⟨y1, h1, l1⟩ := hf 1 9 1 _ rfl cells_string
  obtain ⟨y2, h2, l2⟩ := hf 2 9 2 _ rfl cells_string
  obtain ⟨y3, h3, l3⟩ := hf 3 9 3 _ rfl cells_string
  obtain ⟨y4, h4, l4⟩ := hf 4 4 4 _ rfl cells_bool
  obtain ⟨y5, h5, l5⟩ := hf 5 9 5 _ rfl cells_string
  obtain ⟨y6, h6, l6⟩ := hf 6 4 6 _ rfl cells_bool
  obtain ⟨y7, h7, l7⟩ := hf 7 30 7 _ rfl cells_strs
  simp only [List.drop, List.take] at h0 h1 h2 h3 h4 h5 h6 h7
  obtain ⟨b0, e0, w0⟩ := open_int_field Tryd.underlying3 h0
  obtain ⟨b1, e1, w1⟩ := open_string_field Tryd.underlying9 h1
  obtain ⟨b2, e2, w2⟩ := open_string_field Tryd.underlying9 h2
  obtain ⟨b3, e3, w3⟩ := open_string_field Tryd.underlying9 h3
  obtain ⟨b4, e4⟩ := open_bool_field Tryd.underlying4 h4
  obtain ⟨b5, e5, w5⟩ := open_string_field Tryd.underlying9 h5
  obtain ⟨b6, e6⟩ := open_bool_field Tryd.underlying4 h6
  obtain ⟨v7, ss7, e7, s7, w7⟩ := open_strs_field h7
  simp at e0 e1 e2 e3 e4 e5 e6 e7
  subst e0 e1 e2 e3 e4 e5 e6 e7
  exact ⟨⟨b0, b1, b2, b3, b4, b5, b6, c7⟩, ⟨b0, b1, b2, b3, b4, b5, b6, ss7⟩, rfl, ⟨rfl, rfl, rfl, rfl, rfl, rfl, rfl, s7⟩, w0, fun hL => ⟨w1 (l1 hL), w2 (l2 hL), w3 (l3 hL), w5 (l5 hL), w7 (l7 hL)⟩⟩
theorem light_of {P : Program} {ts : List TypeId} {ds : List (DataW H)} (hsz : (DataW.weightsEach P ts ds).all (· ≤ reachBytes) = true) {j : Nat} {t : TypeId} {d : DataW H} (ht : ts[j]? = some t) (hd : ds[j]? = some d) : Light P t d := fun n hn => by
  have := List.all_eq_true.1 hsz n (DataW.weights_mem_each ht hd n hn); simpa using this
set_option maxRecDepth 100000 in
theorem open_oriArg {base : Nat} {v : Value} {d : DataW H} {p : List MemPlace} (hv : Value.okWide Tryd.prog W .any base 24 v) (h : DataW.Trod enc Tryd.prog W 0 (fun _ => true) true 24 v d p) (hL : Light Tryd.prog 24 d) :
    ∃ o : Ori, v = .agg o.cells.toArray ∧ o.Sized ∧ (Lit.int .i64 o.port).wf = true := by
  obtain ⟨cs, rfl, _⟩ := okWide_struct Tryd.underlying24 hv
  obtain ⟨fuel, hf⟩ := h
  obtain ⟨o, e, hw, hs⟩ := open_ori hf
  simp only [Value.cells] at e
  exact ⟨o, by rw [← e], hs hL, hw⟩
set_option maxRecDepth 100000 in
theorem open_askArg {base : Nat} {v : Value} {d : DataW H} {p : List MemPlace} (hv : Value.okWide Tryd.prog W .any base 32 v) (h : DataW.Trod enc Tryd.prog W 0 (fun _ => true) true 32 v d p) (hL : Light Tryd.prog 32 d) :
    ∃ (r : AskOf Value) (a : AskOf Texts), v = .agg r.cells.toArray ∧ r.Reads (StrsArg W) a ∧ a.Sized ∧ (Lit.int .i64 a.scheme).wf = true := by
  obtain ⟨cs, rfl, _⟩ := okWide_struct Tryd.underlying32 hv
  obtain ⟨fuel, hf⟩ := h
  obtain ⟨r, a, e, hr, hw, hs⟩ := open_ask hf
  simp only [Value.cells] at e
  exact ⟨r, a, by rw [← e], hr, hs hL, hw⟩
set_option maxRecDepth 100000 in
theorem open_credsArg {base : Nat} {v : Value} {d : DataW H} {p : List MemPlace} (hv : Value.okWide Tryd.prog W .any base 29 v) (h : DataW.Trod enc Tryd.prog W 0 (fun _ => true) true 29 v d p) (hL : Light Tryd.prog 29 d) :
    ∃ user pass : ByteArray, v = .agg #[.string user, .string pass] ∧ user.size ≤ reachBytes ∧ pass.size ≤ reachBytes := by
  obtain ⟨cs, rfl, _⟩ := okWide_struct Tryd.underlying29 hv
  obtain ⟨fuel, hf⟩ := h
  simp only [Value.cells] at hf
  obtain ⟨hl, n2, hf2⟩ := open_field Tryd.underlying29 hf
  rw [cells_creds] at hl
  obtain ⟨c0, c1, e⟩ := len2 hl
  rw [e] at hf2
  obtain ⟨z0, j0, m0⟩ := hf2 0 9 0 _ rfl cells_string
  obtain ⟨z1, j1, m1⟩ := hf2 1 9 1 _ rfl cells_string
  simp only [List.drop, List.take] at j0 j1
  obtain ⟨u, eu, wu⟩ := open_string_field Tryd.underlying9 j0
  obtain ⟨q, eq, wq⟩ := open_string_field Tryd.underlying9 j1
  simp only [List.cons.injEq, and_true] at eu eq
  subst eu eq
  refine ⟨u, q, ?_, wu (m0 hL), wq (m1 hL)⟩
  congr 1
  apply Array.ext'
  rw [e]
end Go.Proofs.YtkoobhgedoanhaaDoor
