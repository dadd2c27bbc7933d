/- The reading of an argument: origins, asks. The reading of an argument: a param. The law PlainCase: its plain part; few's closure. slices' functions at api.Param (rows of 2 cells), printed by wip/rowfn.py. The laws' few. The laws' rightful. slices' functions at api.Pass (rows of 12 cells), printed by wip/rowfn.py. Package pass: a book, and what Put's closures answer. Package pass: like, alive, and what Put's closures answer. -/
import Derived.Test.YtkoobhgedoanhaaDoorBookGoneB1
import Derived.ProofKit
import Derived.OpenShut
import Derived.SizedLaws
import Derived.Deep.Strs
import Derived.Test.YtkoobhgedoanhaaDoorBookGoneB2
import Derived.Test.YtkoobhgedoanhaaDoorBookGoneB3
namespace Go.Proofs.YtkoobhgedoanhaaDoor
open Go.ChangeShapes Go.WideShapes Go.ChangeAt Go.RowKit Go.Deep

section
variable {H : Type} {enc : TypeId × Value → H} {P : Program} {W : World}
theorem weightsAll_in {e : TypeId} : ∀ {l : List (DataW H)} {d : DataW H}, d ∈ l → ∀ n ∈ d.weights P e, n ∈ DataW.weightsAll P e l
  | d' :: r, d, hd, n, hn => by
    simp only [DataW.weightsAll, List.mem_append]
    rcases List.mem_cons.1 hd with rfl | h
    · exact Or.inl hn
    · exact Or.inr (weightsAll_in h n hn)
/-- what a datum weighs lies within the reach -/
def Light (P : Program) (t : TypeId) (d : DataW H) : Prop := ∀ n ∈ d.weights P t, n ≤ reachBytes
theorem open_field {t : TypeId} {fs : Array Field} {fuel : Nat} {cs : List Value} {x : DataW H × List MemPlace} (ht : P.underlying t = some (.struct fs)) (h : DataW.trod enc P W 0 (fun _ => true) true fuel t cs = some x) :
    cs.length = P.cellsOf t ∧ ∃ n, ∀ (i : Nat) (t' : TypeId) (o k : Nat), fs[i]?.map (fun f => (f.type, f.offset)) = some (t', o) → P.cellsOf t' = k → ∃ y, DataW.trod enc P W 0 (fun _ => true) true n t' ((cs.drop o).take k) = some y ∧ (Light P t x.1 → Light P t' y.1) := by
  obtain ⟨xs, n, _, rfl, hl, hxl, hf⟩ := DataW.trod_struct ht h
  refine ⟨hl, n, fun i t' o k he hk => ?_⟩
  obtain ⟨f, hi, e⟩ := Option.map_eq_some_iff.1 he
  injection e with e1 e2
  subst e1 e2 hk
  have hlt : i < fs.size := (Array.getElem?_eq_some_iff.1 hi).1
  refine ⟨xs[i], by rw [hf i f hi]; exact List.getElem?_eq_getElem _, fun hL m hm => hL m ?_⟩
  simp only [DataW.weights, ht]
  refine DataW.weights_mem_each (j := i) (t := f.type) (d := xs[i].1) ?_ ?_ m hm
  · rw [List.getElem?_map, Array.getElem?_toList, hi]; rfl
  · rw [List.getElem?_map, List.getElem?_eq_getElem (by omega)]; rfl
theorem open_bool_field {t : TypeId} {fuel : Nat} {cs : List Value} {x : DataW H × List MemPlace} (ht : P.underlying t = some .bool) (h : DataW.trod enc P W 0 (fun _ => true) true fuel t cs = some x) : ∃ b, cs = [.bool b] := by
  obtain ⟨b, e, _⟩ := DataW.trod_bool ht h; exact ⟨b, e⟩
theorem open_int_field {t : TypeId} {k : IntKind} {fuel : Nat} {cs : List Value} {x : DataW H × List MemPlace} (ht : P.underlying t = some (.int k)) (h : DataW.trod enc P W 0 (fun _ => true) true fuel t cs = some x) : ∃ n, cs = [.int k n] ∧ (Lit.int k n).wf = true := by
  obtain ⟨b, e, _, hw⟩ := DataW.trod_int ht h; exact ⟨b, e, hw⟩
theorem open_string_field {t : TypeId} {fuel : Nat} {cs : List Value} {x : DataW H × List MemPlace} (ht : P.underlying t = some .string) (h : DataW.trod enc P W 0 (fun _ => true) true fuel t cs = some x) :
    ∃ s : ByteArray, cs = [.string s] ∧ (Light P t x.1 → s.size ≤ reachBytes) := by
  obtain ⟨s, e, hx, _⟩ := DataW.trod_string ht h
  refine ⟨s, e, fun hL => ?_⟩
  have := hL s.data.toList.length (by rw [hx]; simp [DataW.weights])
  simpa using this
end
variable {H : Type} {enc : TypeId × Value → H} {W : World}
set_option maxRecDepth 100000 in
theorem open_strs_field {fuel : Nat} {cs : List Value} {x : DataW H × List MemPlace} (h : DataW.trod enc Tryd.prog W 0 (fun _ => true) true fuel 30 cs = some x) :
    ∃ v ss, cs = [v] ∧ StrsArg W v ss ∧ (Light Tryd.prog 30 x.1 → ss.length * 16 ≤ reachBytes ∧ ∀ s ∈ ss, s.size ≤ reachBytes) := by
  rcases open_strs Tryd.underlying30 Tryd.underlying9 (by kernel_rfl) h with ⟨rfl, rfl⟩ | ⟨a, len, cap, m, Sx, rfl, _, hl, hm, hme, rfl, hc⟩
  · exact ⟨_, [], rfl, StrsAt.nil _, fun _ => ⟨by simp, by simp⟩⟩
  simp only [if_true] at hme
  subst hme
  have hlight : Light Tryd.prog 30 (DataW.slice ((List.range len).map fun i => (DataW.lit (.string (Sx i).data.toList) : DataW H)) ((List.range (m - len)).map fun j => .lit (.string (Sx (len + j)).data.toList))) → len * 16 ≤ reachBytes ∧ ∀ s ∈ (List.range len).map Sx, s.size ≤ reachBytes := by
    intro hL
    unfold Light at hL
    simp only [DataW.weights, Tryd.underlying30] at hL
    refine ⟨?_, fun s hs => ?_⟩
    · have := hL _ (List.mem_cons_self ..)
      simp only [List.length_map, List.length_range, show Tryd.prog.bytesOf 9 = 16 from by kernel_rfl] at this
      have e : (len + (m - len)) * 16 = m * 16 := by congr 1; omega
      rw [e] at this
      have : len * 16 ≤ m * 16 := Nat.mul_le_mul_right _ hl
      omega
    · obtain ⟨i, hi, rfl⟩ := List.mem_map.1 hs
      have := hL (Sx i).data.toList.length (List.mem_cons_of_mem _ (List.mem_append_left _ (weightsAll_in (d := .lit (.string (Sx i).data.toList)) (List.mem_map.2 ⟨i, hi, rfl⟩) _ (by simp [DataW.weights]))))
      simpa using this
  by_cases h0 : len = 0
  · subst h0
    refine ⟨_, [], rfl, Or.inl ⟨_, _, rfl, rfl, fun e => by cases e⟩, fun hL => ⟨by simp, by simp⟩⟩
  · obtain ⟨b, off, spot⟩ := a
    have hc0 := (hc 0 (by omega)).1
    have hspot : spot = none := by simpa [Addr.add] using World.cell?_spot hc0
    subst hspot
    have hadd : ∀ j, (Addr.add ⟨b, off, none⟩ j) = ⟨b, off + j, none⟩ := by intro j; unfold Addr.add; split <;> simp_all
    have hbl : b < W.heap.size := World.block_lt_of_cell? _ _ hc0
    refine ⟨_, (List.range len).map Sx, rfl, Or.inr ⟨b, off, m, by simp, by simpa using hl, hm, hbl, fun j y hj => ?_⟩, fun hL => by simpa using hlight hL⟩
    · rw [List.getElem?_map] at hj
      obtain ⟨i, hi, rfl⟩ := Option.map_eq_some_iff.1 hj
      obtain ⟨hj1, rfl⟩ := List.getElem?_eq_some_iff.1 hi
      simp at hj1 ⊢
      have := (hc j (by omega)).1
      rwa [hadd] at this

theorem cells_bool : Tryd.prog.cellsOf 4 = 1 := by kernel_rfl
theorem cells_int : Tryd.prog.cellsOf 3 = 1 := by kernel_rfl
theorem cells_string : Tryd.prog.cellsOf 9 = 1 := by kernel_rfl
theorem cells_strs : Tryd.prog.cellsOf 30 = 1 := by kernel_rfl
theorem cells_ori : Tryd.prog.cellsOf 24 = 3 := by kernel_rfl
theorem cells_creds : Tryd.prog.cellsOf 29 = 2 := by kernel_rfl
theorem cells_ask : Tryd.prog.cellsOf 32 = 8 := by kernel_rfl

def Ori.Sized (o : Ori) : Prop := o.host.size ≤ reachBytes
def AskOf.Sized (a : AskOf Texts) : Prop := a.realm.size ≤ reachBytes ∧ a.nonce.size ≤ reachBytes ∧ a.opaq.size ≤ reachBytes ∧ a.qop.size ≤ reachBytes ∧ a.dom.length * 16 ≤ reachBytes ∧ ∀ s ∈ a.dom, s.size ≤ reachBytes
theorem len3 {α : Type} {l : List α} (h : l.length = 3) : ∃ a b c, l = [a, b, c] := by
  match l, h with
  | [a, b, c], _ => exact ⟨a, b, c, rfl⟩
theorem len2 {α : Type} {l : List α} (h : l.length = 2) : ∃ a b, l = [a, b] := by
  match l, h with
  | [a, b], _ => exact ⟨a, b, rfl⟩
theorem len8 {α : Type} {l : List α} (h : l.length = 8) : ∃ a b c d e f g i, l = [a, b, c, d, e, f, g, i] := by
  match l, h with
  | [a, b, c, d, e, f, g, i], _ => exact ⟨a, b, c, d, e, f, g, i, rfl⟩
theorem open_ori {fuel : Nat} {cs : List Value} {x : DataW H × List MemPlace} (h : DataW.trod enc Tryd.prog W 0 (fun _ => true) true fuel 24 cs = some x) :
    ∃ o : Ori, cs = o.cells ∧ (Lit.int .i64 o.port).wf = true ∧ (Light Tryd.prog 24 x.1 → o.Sized) := by
  obtain ⟨hl, n, hf⟩ := open_field Tryd.underlying24 h
  rw [cells_ori] at hl
  obtain ⟨c0, c1, c2, rfl⟩ := len3 hl
  obtain ⟨y0, h0, l0⟩ := hf 0 4 0 _ rfl cells_bool
  obtain ⟨y1, h1, l1⟩ := hf 1 9 1 _ rfl cells_string
  obtain ⟨y2, h2, l2⟩ := hf 2 3 2 _ rfl cells_int
  simp only [List.drop, List.take] at h0 h1 h2
  obtain ⟨b0, e0⟩ := open_bool_field Tryd.underlying4 h0
  obtain ⟨b1, e1, w1⟩ := open_string_field Tryd.underlying9 h1
  obtain ⟨b2, e2, w2⟩ := open_int_field Tryd.underlying3 h2
  simp at e0 e1 e2
  subst e0 e1 e2
  exact ⟨⟨b0, b1, b2⟩, rfl, w2, fun hL => w1 (l1 hL)⟩
theorem open_ask {fuel : Nat} {cs : List Value} {x : DataW H × List MemPlace} (h : DataW.trod enc Tryd.prog W 0 (fun _ => true) true fuel 32 cs = some x) :
    ∃ (r : AskOf Value) (a : AskOf Texts), cs = r.cells ∧ r.Reads (StrsArg W) a ∧ (Lit.int .i64 a.scheme).wf = true ∧ (Light Tryd.prog 32 x.1 → a.Sized) := by
  obtain ⟨hl, n, hf⟩ := open_field Tryd.underlying32 h
  rw [cells_ask] at hl
  obtain ⟨c0, c1, c2, c3, c4, c5, c6, c7, rfl⟩ := len8 hl
  obtain ⟨y0, h0, l0⟩ := hf 0 3 0 _ rfl cells_int
  obtain ⟨y1, h1, l1⟩ := hf 1 9 1 _ rfl cells_string
  obtain ⟨y2, h2, l2⟩ := hf 2 9 2 _ rfl cells_string
  obtain ⟨y3, h3, l3⟩ := hf 3 9 3 _ rfl cells_string
  obtain ⟨y4, h4, l4⟩ := hf 4 4 4 _ rfl cells_bool
  obtain ⟨y5, h5, l5⟩ := hf 5 9 5 _ rfl cells_string
  obtain ⟨y6, h6, l6⟩ := hf 6 4 6 _ rfl cells_bool
  obtain ⟨y7, h7, l7⟩ := hf 7 30 7 _ rfl cells_strs
  simp only [List.drop, List.take] at h0 h1 h2 h3 h4 h5 h6 h7
  obtain ⟨b0, e0, w0⟩ := open_int_field Tryd.underlying3 h0
  obtain ⟨b1, e1, w1⟩ := open_string_field Tryd.underlying9 h1
  obtain ⟨b2, e2, w2⟩ := open_string_field Tryd.underlying9 h2
  obtain ⟨b3, e3, w3⟩ := open_string_field Tryd.underlying9 h3
  obtain ⟨b4, e4⟩ := open_bool_field Tryd.underlying4 h4
  obtain ⟨b5, e5, w5⟩ := open_string_field Tryd.underlying9 h5
  obtain ⟨b6, e6⟩ := open_bool_field Tryd.underlying4 h6
  obtain ⟨v7, ss7, e7, s7, w7⟩ := open_strs_field h7
  simp at e0 e1 e2 e3 e4 e5 e6 e7
  subst e0 e1 e2 e3 e4 e5 e6 e7
  exact ⟨⟨b0, b1, b2, b3, b4, b5, b6, c7⟩, ⟨b0, b1, b2, b3, b4, b5, b6, ss7⟩, rfl, ⟨rfl, rfl, rfl, rfl, rfl, rfl, rfl, s7⟩, w0, fun hL => ⟨w1 (l1 hL), w2 (l2 hL), w3 (l3 hL), w5 (l5 hL), w7 (l7 hL)⟩⟩
theorem light_of {P : Program} {ts : List TypeId} {ds : List (DataW H)} (hsz : (DataW.weightsEach P ts ds).all (· ≤ reachBytes) = true) {j : Nat} {t : TypeId} {d : DataW H} (ht : ts[j]? = some t) (hd : ds[j]? = some d) : Light P t d := fun n hn => by
  have := List.all_eq_true.1 hsz n (DataW.weights_mem_each ht hd n hn); simpa using this
set_option maxRecDepth 100000 in
theorem open_oriArg {base : Nat} {v : Value} {d : DataW H} {p : List MemPlace} (hv : Value.okWide Tryd.prog W .any base 24 v) (h : DataW.Trod enc Tryd.prog W 0 (fun _ => true) true 24 v d p) (hL : Light Tryd.prog 24 d) :
    ∃ o : Ori, v = .agg o.cells.toArray ∧ o.Sized ∧ (Lit.int .i64 o.port).wf = true := by
  obtain ⟨cs, rfl, _⟩ := okWide_struct Tryd.underlying24 hv
  obtain ⟨fuel, hf⟩ := h
  obtain ⟨o, e, hw, hs⟩ := open_ori hf
  simp only [Value.cells] at e
  exact ⟨o, by rw [← e], hs hL, hw⟩
set_option maxRecDepth 100000 in
theorem open_askArg {base : Nat} {v : Value} {d : DataW H} {p : List MemPlace} (hv : Value.okWide Tryd.prog W .any base 32 v) (h : DataW.Trod enc Tryd.prog W 0 (fun _ => true) true 32 v d p) (hL : Light Tryd.prog 32 d) :
    ∃ (r : AskOf Value) (a : AskOf Texts), v = .agg r.cells.toArray ∧ r.Reads (StrsArg W) a ∧ a.Sized ∧ (Lit.int .i64 a.scheme).wf = true := by
  obtain ⟨cs, rfl, _⟩ := okWide_struct Tryd.underlying32 hv
  obtain ⟨fuel, hf⟩ := h
  obtain ⟨r, a, e, hr, hw, hs⟩ := open_ask hf
  simp only [Value.cells] at e
  exact ⟨r, a, by rw [← e], hr, hs hL, hw⟩
set_option maxRecDepth 100000 in
theorem open_credsArg {base : Nat} {v : Value} {d : DataW H} {p : List MemPlace} (hv : Value.okWide Tryd.prog W .any base 29 v) (h : DataW.Trod enc Tryd.prog W 0 (fun _ => true) true 29 v d p) (hL : Light Tryd.prog 29 d) :
    ∃ user pass : ByteArray, v = .agg #[.string user, .string pass] ∧ user.size ≤ reachBytes ∧ pass.size ≤ reachBytes := by
  obtain ⟨cs, rfl, _⟩ := okWide_struct Tryd.underlying29 hv
  obtain ⟨fuel, hf⟩ := h
  simp only [Value.cells] at hf
  obtain ⟨hl, n2, hf2⟩ := open_field Tryd.underlying29 hf
  rw [cells_creds] at hl
  obtain ⟨c0, c1, e⟩ := len2 hl
  rw [e] at hf2
  obtain ⟨z0, j0, m0⟩ := hf2 0 9 0 _ rfl cells_string
  obtain ⟨z1, j1, m1⟩ := hf2 1 9 1 _ rfl cells_string
  simp only [List.drop, List.take] at j0 j1
  obtain ⟨u, eu, wu⟩ := open_string_field Tryd.underlying9 j0
  obtain ⟨q, eq, wq⟩ := open_string_field Tryd.underlying9 j1
  simp only [List.cons.injEq, and_true] at eu eq
  subst eu eq
  refine ⟨u, q, ?_, wu (m0 hL), wq (m1 hL)⟩
  congr 1
  apply Array.ext'
  rw [e]
end Go.Proofs.YtkoobhgedoanhaaDoor

namespace Go.Proofs.YtkoobhgedoanhaaDoor
open Go.ChangeShapes Go.WideShapes Go.ChangeAt Go.RowKit Go.Deep
variable {H : Type} {enc : TypeId × Value → H} {W : World}
theorem cells_param : Tryd.prog.cellsOf 110 = 2 := by kernel_rfl
set_option maxRecDepth 100000 in
theorem open_paramArg {base : Nat} {v : Value} {d : DataW H} {p : List MemPlace} (hv : Value.okWide Tryd.prog W .any base 110 v) (h : DataW.Trod enc Tryd.prog W 0 (fun _ => true) true 110 v d p) (hL : Light Tryd.prog 110 d) :
    ∃ user pass : ByteArray, v = .agg #[.string user, .string pass] ∧ user.size ≤ reachBytes ∧ pass.size ≤ reachBytes := by
  obtain ⟨cs, rfl, _⟩ := okWide_struct Tryd.underlying110 hv
  obtain ⟨fuel, hf⟩ := h
  simp only [Value.cells] at hf
  obtain ⟨hl, n2, hf2⟩ := open_field Tryd.underlying110 hf
  rw [cells_param] at hl
  obtain ⟨c0, c1, e⟩ := len2 hl
  rw [e] at hf2
  obtain ⟨z0, j0, m0⟩ := hf2 0 9 0 _ rfl cells_string
  obtain ⟨z1, j1, m1⟩ := hf2 1 9 1 _ rfl cells_string
  simp only [List.drop, List.take] at j0 j1
  obtain ⟨u, eu, wu⟩ := open_string_field Tryd.underlying9 j0
  obtain ⟨q, eq, wq⟩ := open_string_field Tryd.underlying9 j1
  simp only [List.cons.injEq, and_true] at eu eq
  subst eu eq
  refine ⟨u, q, ?_, wu (m0 hL), wq (m1 hL)⟩
  congr 1
  apply Array.ext'
  rw [e]
end Go.Proofs.YtkoobhgedoanhaaDoor

namespace Go.Proofs.YtkoobhgedoanhaaDoor
open Go.RowKit

theorem lower_lower_all : ∀ n : Fin 256, lowL (lowL [n.val.toUInt8]) = lowL [n.val.toUInt8] := by decide +kernel
theorem lowL_cons1 (a : UInt8) (l : List UInt8) : lowL (a :: l) = lowL [a] ++ lowL l := by unfold lowL; rfl
theorem lowL_one (a : UInt8) : ∃ b, lowL [a] = [b] := ⟨_, rfl⟩
theorem lowL_again : ∀ l : List UInt8, lowL (lowL l) = lowL l
  | [] => rfl
  | a :: l => by
    have h := lower_lower_all ⟨a.toNat, a.toNat_lt⟩
    have ha : (⟨a.toNat, a.toNat_lt⟩ : Fin 256).val.toUInt8 = a := by simp
    rw [ha] at h
    obtain ⟨b, hb⟩ := lowL_one a
    rw [lowL_cons1, hb, List.singleton_append, lowL_cons1, lowL_again l]
    rw [hb] at h
    rw [h]; rfl
theorem plain_lower (name value : ByteArray) : plainB ⟨(lowL name.data.toList).toArray⟩ value = plainB name value := by
  unfold plainB
  show (if 128 < value.size then false else if lowL (lowL name.data.toList) = _ then _ else if lowL (lowL name.data.toList) = _ then _ else if lowL (lowL name.data.toList) = _ then _ else if lowL (lowL name.data.toList) = _ then _ else _) = _
  rw [lowL_again]
/-- the four names -/
def fourB : List ByteArray := [⟨#[97, 99, 99, 101, 112, 116]⟩, ⟨#[97, 99, 99, 101, 112, 116, 45, 108, 97, 110, 103, 117, 97, 103, 101]⟩, ⟨#[99, 111, 110, 116, 101, 110, 116, 45, 108, 97, 110, 103, 117, 97, 103, 101]⟩, ⟨#[99, 111, 110, 116, 101, 110, 116, 45, 116, 121, 112, 101]⟩]
theorem plain_four (name value : ByteArray) (h : plainB name value = true) : (⟨(lowL name.data.toList).toArray⟩ : ByteArray) ∈ fourB := by
  unfold plainB at h
  have key : ∀ l : List UInt8, lowL name.data.toList = l → (⟨l.toArray⟩ : ByteArray) ∈ fourB → (⟨(lowL name.data.toList).toArray⟩ : ByteArray) ∈ fourB := fun l e hm => by rw [e]; exact hm
  split at h
  · cases h
  · split at h
    · exact key _ (by assumption) (by unfold fourB; simp)
    · split at h
      · exact key _ (by assumption) (by unfold fourB; simp)
      · split at h
        · exact key _ (by assumption) (by unfold fourB; simp)
        · split at h
          · exact key _ (by assumption) (by unfold fourB; simp)
          · cases h
set_option maxHeartbeats 1000000 in
theorem few1_any (name value : ByteArray) (w : World) (hn : name.size ≤ 140737488351232) (hv : value.size ≤ 140737488351232) :
    Calls Tryd.prog 85 #[.agg #[.string name, .string value]] w fun e w' => e = .returned (.bool (decide ((300 : Int) < (name.size : Int) + (value.size : Int)))) ∧ Fr noB w w' := by
  have hfb : Fr noB w (w.alloc (.cells #[.string name, .string value] 110)) := (Fr.refl noB w).alloc _
  go_enter Tryd.func85, Tryd.ntmps85
  go_wp2
  go_ret
  exact ⟨rfl, hfb⟩
end Go.Proofs.YtkoobhgedoanhaaDoor

namespace Go.Proofs.YtkoobhgedoanhaaDoor
open Go.RowKit

/-- a block of the kind before anything is stored -/
abbrev zPr : Array Value := #[.string ⟨#[]⟩, .string ⟨#[]⟩]
theorem zPr_size : zPr.size = 2 := rfl
theorem zPr_one : ∀ v ∈ zPr.toList, v.oneCell' = true := by decide +kernel
theorem sizePr {x : List Value} (h : x.length = 2) : (Tryd.prog.info? 110).map (·.size) = some x.length := by rw [h]; kernel_rfl

def IRelPr (w : World) (p : List Value → Bool) (xs : List (List Value)) (i : Value) (wr : World) : Prop :=
  ∃ k : Nat, k ≤ xs.length ∧ i = .int .i64 k ∧ (xs.take k).any p = false ∧ Fr noB w wr
set_option maxRecDepth 100000 in
set_option maxHeartbeats 1000000 in
theorem IndexFunc_Pr (g : Nat) (cap : Array Value) (p : List Value → Bool) (v : Value) (xs : List (List Value)) (w : World) (eg : ∀ args w, (callFunc g args).run Tryd.prog w = .ok (.enter g args) w) (hp : AnswersK noB w g cap p xs) (hv : RowsAt 2 w v xs) :
    Calls Tryd.prog 102 #[v, .func (.func g) #[] cap] w fun e w' => e = .returned (.int .i64 (idxP p xs 0)) ∧ Fr noB w w' := by
  obtain ⟨av, cv, hform⟩ := hv.form
  subst hform
  have hone := Lib.hid hv.1
  go_enter Tryd.func102, Tryd.ntmps102
  go_wp2
  go_loopw [8] (IRelPr w p xs) (fun i _ => xs.length - (intOf i).toNat)
  case atStart => exact ⟨0, Nat.zero_le _, rfl, rfl, Fr.refl _ _⟩
  case round =>
    obtain ⟨k, hk, rfl, hn, hfr⟩ := hrel
    have HN := Lib.hid hn
    clear hn
    by_cases hks : k < xs.length
    · rcases (hv.frNone hfr).2 with ⟨_, _, _, e, _⟩ | ⟨bk, of, c, hf, h1, h2, h3, h4⟩
      · rw [e] at hks; exact absurd hks (Nat.not_lt_zero _)
      · cases hf
        unfold maxLen at h2
        have hat := Lib.hid (List.getElem?_eq_getElem hks)
        have hcell := h4 k _ hat.out
        have hmem := Lib.hid (List.getElem_mem hks)
        generalize xs[k] = x at hat hcell hmem
        have hcall := Lib.hid (hp x hmem.out wr hfr)
        have hxk := (hone.out x hmem.out).1
        clear h4
        cases hpx : p x
        · have hnx := Lib.hid (any_take_succ hat.out HN.out hpx)
          go_wp2_with (first | ((with_reducible refine wpList_at ⟨some 15, _, _, _, _, _⟩ ?_); go_must (refine wpList_load_mid rfl 110 (.tmp 14) rfl bk (of + k * 2) rfl x _ hcell Tryd.underlying110 rfl (sizePr hxk) ?_)) | fail)
          refine hcall.out.mono ?_
          rintro e w1 ⟨rfl, hf1⟩
          rw [hpx]
          go_wp2
          go_roundw
          case rel => exact ⟨k + 1, by omega, by go_num, hnx.out, hfr.trans hf1⟩
          case measure => simp [intOf]; omega
        · have hfin := Lib.hid (idxP_hit (i := 0) hat.out hpx HN.out)
          go_wp2_with (first | ((with_reducible refine wpList_at ⟨some 15, _, _, _, _, _⟩ ?_); go_must (refine wpList_load_mid rfl 110 (.tmp 14) rfl bk (of + k * 2) rfl x _ hcell Tryd.underlying110 rfl (sizePr hxk) ?_)) | fail)
          refine hcall.out.mono ?_
          rintro e w1 ⟨rfl, hf1⟩
          rw [hpx]
          go_wp2
          go_ret
          rw [hfin.out, Nat.zero_add]
          exact ⟨rfl, hfr.trans hf1⟩
    · have hfin := Lib.hid (show idxP p xs 0 = -1 from idxP_none (by have h := HN.out; rw [List.take_of_length_le (by omega)] at h; exact h))
      go_wp2
      go_ret
      rw [hfin.out]
      exact ⟨rfl, hfr⟩

set_option maxHeartbeats 1000000 in
theorem ContainsFunc_Pr (g : Nat) (cap : Array Value) (p : List Value → Bool) (v : Value) (xs : List (List Value)) (w : World) (eg : ∀ args w, (callFunc g args).run Tryd.prog w = .ok (.enter g args) w) (hp : AnswersK noB w g cap p xs) (hv : RowsAt 2 w v xs) :
    Calls Tryd.prog 84 #[v, .func (.func g) #[] cap] w fun e w' => e = .returned (.bool (xs.any p)) ∧ Fr noB w w' := by
  have hb := Lib.hid (idxP_any p xs 0)
  go_enter Tryd.func84, Tryd.ntmps84
  go_wp2_with fail
  refine (IndexFunc_Pr g cap p v xs w eg hp hv).mono ?_
  rintro e w1 ⟨rfl, hf1⟩
  go_wp2
  go_ret
  exact ⟨ret_bool hb.out, hf1⟩

end Go.Proofs.YtkoobhgedoanhaaDoor

namespace Go.Proofs.YtkoobhgedoanhaaDoor
open Go.RowKit

def bigP (p : Prm) : Bool := decide ((300 : Int) < (p.1.size : Int) + (p.2.size : Int))
def fewB (ps : List Prm) : Bool := decide (ps.length ≤ 40) && !(ps.any bigP)
/-- what a row of two strings is -/
def prmOf : List Value → Prm
  | [.string a, .string b] => (a, b)
  | _ => (ByteArray.empty, ByteArray.empty)
theorem prmOf_cells (p : Prm) : prmOf (Prm.cells p) = p := rfl
set_option maxHeartbeats 1000000 in
theorem few_any (v : Value) (ps : List Prm) (w : World) (hv : PrmsAt w v ps) (hl : ps.length ≤ 140737488355328) (hz : ∀ p ∈ ps, p.1.size ≤ 140737488351232 ∧ p.2.size ≤ 140737488351232) :
    Calls Tryd.prog 65 #[v] w fun e w' => e = .returned (.bool (fewB ps)) ∧ Fr noB w w' := by
  obtain ⟨av, cv, hform⟩ := hv.form
  rw [List.length_map] at hform
  subst hform
  have hcf := Lib.hid (ContainsFunc_Pr _ #[] (fun x => bigP (prmOf x)) _ _ w Tryd.call85 (fun x hx u _ => by
    obtain ⟨p, hp, rfl⟩ := List.mem_map.1 hx
    exact few1_any p.1 p.2 u (hz p hp).1 (hz p hp).2) hv)
  have hany := Lib.hid (show (ps.map Prm.cells).any (fun x => bigP (prmOf x)) = ps.any bigP by rw [List.any_map]; rfl)
  by_cases h40 : ps.length ≤ 40
  · have hb := Lib.hid (show fewB ps = !(ps.any bigP) by unfold fewB; rw [decide_eq_true h40]; rfl)
    have i40 : (ps.length : Int) ≤ 40 := by omega
    have d40 : decide ((ps.length : Int) ≤ 40) = true := decide_eq_true i40
    go_enter Tryd.func65, Tryd.ntmps65
    go_wp2_with fail
    refine hcf.out.mono ?_
    rw [hany.out]
    rintro e u ⟨rfl, hf⟩
    go_wp2
    go_ret
    exact ⟨ret_bool hb.out.symm, hf⟩
  · have hb := Lib.hid (show fewB ps = false by unfold fewB; rw [decide_eq_false h40]; rfl)
    have i40 : ¬ (ps.length : Int) ≤ 40 := by omega
    have d40 : decide ((ps.length : Int) ≤ 40) = false := decide_eq_false i40
    go_enter Tryd.func65, Tryd.ntmps65
    go_wp2
    go_ret
    exact ⟨ret_bool hb.out.symm, Fr.refl _ _⟩
end Go.Proofs.YtkoobhgedoanhaaDoor

namespace Go.Proofs.YtkoobhgedoanhaaDoor
open Go.RowKit

/-- the laws' rightful -/
def rightfulB (r : ReqOf Value) (hs : List Prm) : Bool := fewB hs && decide ((r.method.size : Int) + (r.path.size : Int) + (r.query.size : Int) + (r.o.host.size : Int) + (r.frm.host.size : Int) ≤ 600)
set_option maxHeartbeats 2000000 in
set_option maxRecDepth 100000 in
theorem rightful_any (r : ReqOf Value) (hs : List Prm) (w : World) (hr : PrmsAt w r.heads hs) (hl : hs.length ≤ 140737488355328) (hzs : ∀ p ∈ hs, p.1.size ≤ 140737488351232 ∧ p.2.size ≤ 140737488351232) (hz : r.Sized) :
    Calls Tryd.prog 27 #[.agg r.cells.toArray] w fun e w' => e = .returned (.bool (rightfulB r hs)) ∧ Fr noB w w' := by
  obtain ⟨z1, z2, z3, z4, z5⟩ := hz
  obtain ⟨wb, hwb⟩ : ∃ wb, wb = w.alloc (.cells r.cells.toArray 67) := ⟨_, rfl⟩
  have hfb : Fr noB w wb := by rw [hwb]; exact (Fr.refl noB w).alloc _
  have hk1 : wb.heap[w.heap.size]? = some (.cells r.cells.toArray 67 (0, 0)) := by rw [hwb]; exact new_block _ _
  obtain ⟨ah, ch, hhf⟩ := RowsAt.form hr
  rw [List.length_map] at hhf
  have hrc : r.cells = [.int .i64 r.part, .bool r.frm.secure, .string r.frm.host, .int .i64 r.frm.port, .bool r.o.secure, .string r.o.host, .int .i64 r.o.port, .string r.path, .string r.query, .string r.method, .slice ah hs.length ch, .bool r.wth, .string r.body] := by unfold ReqOf.cells; rw [hhf]
  have HC := Lib.hid (show ∀ U, Fr noB wb U → U.cell? ⟨w.heap.size, 2, none⟩ = some (.string r.frm.host) ∧ U.cell? ⟨w.heap.size, 5, none⟩ = some (.string r.o.host) ∧ U.cell? ⟨w.heap.size, 7, none⟩ = some (.string r.path) ∧ U.cell? ⟨w.heap.size, 8, none⟩ = some (.string r.query) ∧ U.cell? ⟨w.heap.size, 9, none⟩ = some (.string r.method) ∧ U.cell? ⟨w.heap.size, 10, none⟩ = some (.slice ah hs.length ch) from fun U hU => by
    have j := hU.keep hk1 (fun h => h)
    rw [hrc] at j
    simp [World.cell?, j])
  have HFW := Lib.hid (few_any (.slice ah hs.length ch) hs wb (by rw [← hhf]; exact RowsAt.frNone hr hfb) hl hzs)
  rw [hrc] at hwb ⊢
  have HFB := Lib.hid hfb
  have HWB := Lib.hid hwb
  obtain ⟨k2, k5, k7, k8, k9, k10⟩ := HC.out wb (Fr.refl _ _)
  rw [hwb] at k10
  clear hr hl hzs hfb hk1 hhf hrc hwb k2 k5 k7 k8 k9
  cases hfw : fewB hs
  · have HR := Lib.hid (show rightfulB r hs = false by unfold rightfulB; rw [hfw]; rfl)
    rw [hfw] at HFW
    clear hfw
    go_enter Tryd.func27, Tryd.ntmps27
    go_wp2_with fail
    rw [← HWB.out]
    refine HFW.out.mono ?_
    rintro e u ⟨rfl, hf⟩
    go_wp2
    go_ret
    exact ⟨by rw [HR.out]; rfl, HFB.out.trans hf⟩
  · have HR := Lib.hid (show rightfulB r hs = decide ((r.method.size : Int) + (r.path.size : Int) + (r.query.size : Int) + (r.o.host.size : Int) + (r.frm.host.size : Int) ≤ 600) by unfold rightfulB; rw [hfw]; rfl)
    rw [hfw] at HFW
    clear hfw
    go_enter Tryd.func27, Tryd.ntmps27
    go_wp2_with fail
    rw [← HWB.out]
    refine HFW.out.mono ?_
    rintro e u ⟨rfl, hf⟩
    obtain ⟨k2, k5, k7, k8, k9, _⟩ := HC.out u hf
    go_wp2
    go_ret
    exact ⟨by rw [HR.out]; rfl, HFB.out.trans hf⟩
end Go.Proofs.YtkoobhgedoanhaaDoor

namespace Go.Proofs.YtkoobhgedoanhaaDoor
open Go.RowKit

/-- at the head of a round of DeleteFunc: j rows looked at, those that stay laid ahead -/
def DRelPa (b : Nat) (w : World) (bk cap : Nat) (p : List Value → Bool) (xs : List (List Value)) (i j : Value) (wr : World) : Prop :=
  ∃ (m n : Nat) (ys : List (List Value)), i = .int .i64 m ∧ j = .int .i64 n ∧ m < n ∧ n ≤ xs.length ∧ ys.length = xs.length ∧ OwnRows b 63 12 wr (.slice (some ⟨bk, 0, none⟩) xs.length cap) ys ∧
    ys.take m = (xs.take n).filter (fun x => !p x) ∧ ys.drop n = xs.drop n ∧ Fr (one bk) w wr
theorem idxP_firstPa {p : List Value → Bool} : ∀ {l : List (List Value)} (i : Nat), l.any p = true → ∃ k x, l[k]? = some x ∧ p x = true ∧ (l.take k).any p = false ∧ idxP p l i = ((i + k : Nat) : Int)
  | [], _, h => by simp at h
  | a :: l, i, h => by
    cases ha : p a
    · rw [List.any_cons, ha, Bool.false_or] at h
      obtain ⟨k, x, h1, h2, h3, h4⟩ := idxP_firstPa (i + 1) h
      refine ⟨k + 1, x, by simpa using h1, h2, by simp [ha, h3], ?_⟩
      rw [idxP, ha]
      simp only [Bool.false_eq_true, if_false]
      rw [h4]; congr 1; omega
    · exact ⟨0, a, rfl, ha, rfl, by rw [idxP, ha]; simp⟩
theorem filter_allPa {p : List Value → Bool} {l : List (List Value)} (h : l.any p = false) : l.filter (fun x => !p x) = l := by
  rw [List.filter_eq_self]
  intro a ha
  have := List.any_eq_false.1 h a ha
  simpa using this
set_option maxRecDepth 100000 in
set_option maxHeartbeats 2000000 in
theorem DeleteFunc_Pa (b : Nat) (g : Nat) (cap : Array Value) (p : List Value → Bool) (v : Value) (xs : List (List Value)) (w : World) (eg : ∀ args w, (callFunc g args).run Tryd.prog w = .ok (.enter g args) w) (hp : AnswersK (own v) w g cap p xs) (hv : OwnRows b 63 12 w v xs) :
    Calls Tryd.prog 42 #[v, .func (.func g) #[] cap] w fun e w' => ∃ a c, e = .returned (.slice a (xs.filter (fun x => !p x)).length c) ∧ OwnRows b 63 12 w' (.slice a (xs.filter (fun x => !p x)).length c) (xs.filter (fun x => !p x)) ∧ Fr (own v) w w' ∧ own (.slice a (xs.filter (fun x => !p x)).length c) = own v := by
  cases hany : xs.any p
  · have hidx := Lib.hid (idxP_none (i := 0) hany)
    rw [filter_allPa hany]
    obtain ⟨av, cv, hform⟩ := hv.form
    subst hform
    go_enter Tryd.func42, Tryd.ntmps42
    go_wp2_with fail
    refine (IndexFunc_Pa g cap p _ xs w eg hp.none hv.at).mono ?_
    rintro e w1 ⟨rfl, hf1⟩
    rw [hidx.out]
    go_wp2
    go_ret
    exact ⟨_, _, rfl, hv.fr hf1 (fun _ _ h => h), hf1.mono (fun _ _ h => absurd h (fun h => h)), rfl⟩
  · obtain ⟨k0, x0, hx0, hpx0, hpre, hidx⟩ := idxP_firstPa 0 hany
    rw [Nat.zero_add] at hidx
    have hk0 := (List.getElem?_eq_some_iff.1 hx0).1
    obtain ⟨bk, cp, hvf⟩ : ∃ bk cp, v = .slice (some ⟨bk, 0, none⟩) xs.length cp := by
      rcases hv.2.2 with ⟨_, hn⟩ | ⟨bk, cp, cur, hv, _⟩
      · omega
      · exact ⟨bk, cp, hv⟩
    subst hvf
    obtain ⟨cap', cur, hv', q1, q2, q3, q4, q5, q6⟩ := hv.open (g := bk) rfl
    cases hv'
    unfold maxLen at q4
    have hone := Lib.hid hv.1
    have hfin0 := Lib.hid (show xs.take k0 = (xs.take (k0 + 1)).filter (fun x => !p x) by
      rw [take_snocG hx0, List.filter_append, filter_allPa hpre]
      simp [hpx0])
    have HP := Lib.hid hp
    have HIX := Lib.hid hidx
    clear hany hpre hx0 hpx0 hidx q2 q5 q6 hp
    go_enter Tryd.func42, Tryd.ntmps42
    go_wp2_with fail
    refine (IndexFunc_Pa g cap p _ xs w eg HP.out.none hv.at).mono ?_
    rintro e w1 ⟨rfl, hf1⟩
    rw [HIX.out]
    have hv1 := hv.fr hf1 (fun _ _ h => h)
    have hn1 : ((k0 : Int) == -1) = false := by rw [beq_eq_false_iff_ne]; omega
    go_wp2
    go_loopw [5, 6] (DRelPa b w bk cp p xs) (fun _ j _ => xs.length - (intOf j).toNat)
    case atStart => exact ⟨k0, k0 + 1, xs, rfl, by go_num, by omega, by omega, rfl, hv1, hfin0.out, rfl, hf1.mono (fun _ _ h => absurd h (fun h => h))⟩
    case round =>
      obtain ⟨m, n, ys, rfl, rfl, hmn, hn, hlen, hown, htake, hdrop, hfr⟩ := hrel
      have HT := Lib.hid htake
      have HD := Lib.hid hdrop
      have HLEN := Lib.hid hlen
      clear htake hdrop hlen
      rw [← HLEN.out] at hown
      have hownat := hown.at
      by_cases hks : n < xs.length
      · rcases hownat.2 with ⟨_, _, _, e, _⟩ | ⟨bk', of, c, hf, h1, h2, h3, h4⟩
        · have hl := HLEN.out; rw [e] at hl; simp at hl; omega
        · cases hf
          have hat := Lib.hid (List.getElem?_eq_getElem hks)
          have haty : ys[n]? = some xs[n] := by
            have e := congrArg (fun l : List (List Value) => l[0]?) HD.out
            simp only [List.getElem?_drop, Nat.add_zero] at e
            rw [e, hat.out]
          have hcell := h4 n _ haty
          simp only [Nat.zero_add] at hcell
          have hmem := Lib.hid (List.getElem_mem hks)
          generalize xs[n] = x at hat hcell hmem haty
          have hxk := (hone.out x hmem.out).1
          have hx1 := Lib.hid (hone.out x hmem.out).2
          have hst := fun W => run_storeCells_new (P := Tryd.prog) W 63 #[.bool false, .string ⟨#[]⟩, .int .i64 0, .bool false, .string ⟨#[]⟩, .int .i64 0, .string ⟨#[]⟩, .string ⟨#[]⟩, .bool false, .string ⟨#[]⟩, .string ⟨#[]⟩, .int .i64 0] x (by rw [hxk]; rfl) hx1.out
          have hfa : Fr noB wr (wr.alloc (.cells x.toArray 63)) := (Fr.refl noB wr).alloc _
          have hcall := Lib.hid (HP.out x hmem.out (wr.alloc (.cells x.toArray 63)) ((hfr.alloc _).mono (fun k _ h => by have e : k = bk := h; rw [e]; rfl)))
          have hsx := Lib.hid (sizePa hxk)
          have hfr2 := hfr.alloc (.cells x.toArray 63)
          have hown2 := hown.fr hfa (fun _ _ h => h)
          have hbx : (wr.alloc (.cells x.toArray 63)).heap[wr.heap.size]? = some (.cells x.toArray 63 (0, 0)) := new_block _ _
          have HBX := Lib.hid hbx
          clear h4 haty hbx hfa
          go_wp2_with (first | ((with_reducible refine wpList_at ⟨some 25, _, _, _, _, _⟩ ?_); go_must (refine wpList_load_mid rfl 63 (.tmp 24) rfl bk (n * 12) rfl x _ hcell Tryd.underlying63 rfl hsx.out ?_)) | ((with_reducible refine wpList_at ⟨some 27, _, _, _, _, _⟩ ?_); go_must (refine wpList_load_row rfl 63 (.tmp 7) rfl wr.heap.size rfl _ x.toArray (0, 0) _ HBX.out Tryd.underlying63 rfl (by rw [List.size_toArray]; exact hsx.out) ?_)) | fail)
          have hlw : wr.heap.size < (wr.alloc (.cells x.toArray 63)).heap.size := by simp
          clear hst hcell
          generalize wr.alloc (.cells x.toArray 63) = W2 at *
          refine hcall.out.mono ?_
          rintro e w3 ⟨rfl, hf3⟩
          have hfr3 := hfr2.trans (hf3.mono (fun _ _ h => absurd h (fun h => h)))
          have hown3 := hown2.fr hf3 (fun _ _ h => h)
          have hb3 := Lib.hid (hf3.keep HBX.out (fun h => h))
          have HLX := Lib.hid HLEN.out
          cases hpx : p x
          · have hth := Lib.hid (hown3.there (g := bk) (cap := cp) (by rw [HLEN.out]) (o := m * 12) (n := x.toArray.size) (by
              have hmc : (m + 1) * 12 ≤ cp * 12 := Nat.mul_le_mul_right _ (by omega)
              rw [List.size_toArray, hxk]; omega))
            have hown4 := hown3.store (i := m) (y := x) (by rw [HLEN.out]; omega) hxk hx1.out (g := bk) rfl
            rw [HLEN.out] at hown4
            have hfr4 := hfr3.step (Fr.setCells (Fr.refl (one bk) w3) (fun _ => rfl) x (m * 12)) (fun _ _ h => h)
            go_wp2_with (first | ((with_reducible refine wpList_at ⟨some 32, _, _, _, _, _⟩ ?_); go_must (refine wpList_load_row rfl 63 (.tmp 7) rfl wr.heap.size rfl _ x.toArray (0, 0) _ hb3.out Tryd.underlying63 rfl (by rw [List.size_toArray]; exact hsx.out) ?_)) | ((with_reducible refine wpList_at ⟨none, .store 63 _ _, _, _, _, _⟩ ?_); go_must (refine wpList_store_mid rfl 63 (.tmp 33) (.tmp 32) rfl bk (m * 12) x.toArray rfl rfl hth.out (by rw [List.size_toArray]; exact hsx.out) (all_oneCell_toArray hx1.out) ?_)) | fail)
            go_roundw
            case rel =>
              refine ⟨m + 1, n + 1, ys.set m x, by go_num, by go_num, by omega, by omega, by rw [List.length_set]; exact HLX.out, hown4, ?_, ?_, hfr4⟩
              · rw [take_snocG (l := ys.set m x) (List.getElem?_set_self (by rw [HLX.out]; omega)), List.take_set_of_le (Nat.le_refl m), take_snocG hat.out, List.filter_append, HT.out]
                simp [hpx]
              · rw [List.drop_set_of_lt (by omega)]
                have e := congrArg (List.drop 1) HD.out
                simpa [List.drop_drop] using e
            case measure => simp [intOf]; omega
          · rw [HLEN.out] at hown3
            go_wp2_with fail
            go_roundw
            case rel =>
              refine ⟨m, n + 1, ys, rfl, by go_num, by omega, by omega, HLX.out, hown3, ?_, ?_, hfr3⟩
              · rw [take_snocG hat.out, List.filter_append, HT.out]
                simp [hpx]
              · have e := congrArg (List.drop 1) HD.out
                simpa [List.drop_drop] using e
            case measure => simp [intOf]; omega
      · have hnl : n = xs.length := by omega
        subst hnl
        have hfin := Lib.hid (show ys.take m = xs.filter (fun x => !p x) by have h := HT.out; rw [List.take_of_length_le (Nat.le_refl _)] at h; exact h)
        have hml : (ys.take m).length = m := by rw [List.length_take, HLEN.out]; omega
        have hfl := Lib.hid (show (xs.filter (fun x => !p x)).length = m by rw [← hfin.out]; exact hml)
        have hcut := hown.cut (i := m) (by rw [HLEN.out]; omega) (g := bk) (cap := cp) (by rw [HLEN.out])
        have hle : (xs.length - m) * 12 + m * 12 ≤ cp * 12 := by rw [← Nat.add_mul]; exact Nat.mul_le_mul_right _ (by omega)
        have hzl : (Builtin.zeroCells zPa (xs.length - m)).toList.length = (xs.length - m) * 12 := by simp [Builtin.zeroCells]
        have hcl := fun ty => run_clear_rows (P := Tryd.prog) wr 53 63 ty zPa Tryd.underlying53 (fun w => by kernel_rfl) (by decide) zPa_one bk (m * 12) (xs.length - m) (cp - m) (by omega) (by
          have := hown.there (g := bk) (cap := cp) (by rw [HLEN.out]) (o := m * 12) (n := (xs.length - m) * 12) (by omega)
          exact this)
        have hbeh := hcut.behind (o := m * 12) (vs := (Builtin.zeroCells zPa (xs.length - m)).toList) (by rw [hml]; exact Nat.le_refl _) (g := bk) (cap := cp) (by rw [hml]) (by rw [hzl]; omega)
        have hfr4 := hfr.step (Fr.setCells (Fr.refl (one bk) wr) (fun _ => rfl) (Builtin.zeroCells zPa (xs.length - m)).toList (m * 12)) (fun _ _ h => h)
        clear hown hownat hcut hzl hml hle HLEN
        go_wp2_with fail
        go_ret
        rw [hfl.out, ← hfin.out]
        exact ⟨_, _, rfl, hbeh, hfr4.mono (fun k _ h => by have e : k = bk := h; rw [e]; rfl), rfl⟩

theorem infoPa : ∃ i0 : TypeInfo, Tryd.prog.info? 63 = some i0 ∧ i0.size = 12 := by
  have h : (Tryd.prog.info? 63).map (·.size) = some 12 := by kernel_rfl
  cases hq : Tryd.prog.info? 63 with
  | none => rw [hq] at h; cases h
  | some i => rw [hq] at h; exact ⟨i, rfl, by simpa using h⟩
set_option maxRecDepth 100000 in
set_option maxHeartbeats 2000000 in
theorem Delete_Pa (b : Nat) (bk cp i j : Nat) (xs : List (List Value)) (w : World) (hv : OwnRows b 63 12 w (.slice (some ⟨bk, 0, none⟩) xs.length cp) xs) (hij : i < j) (hj : j ≤ xs.length) :
    Calls Tryd.prog 64 #[.slice (some ⟨bk, 0, none⟩) xs.length cp, .int .i64 i, .int .i64 j] w fun e w' => e = .returned (.slice (some ⟨bk, 0, none⟩) (i + (xs.length - j)) cp) ∧ OwnRows b 63 12 w' (.slice (some ⟨bk, 0, none⟩) (i + (xs.length - j)) cp) (xs.take i ++ xs.drop j) ∧ Fr (one bk) w w' := by
  obtain ⟨i0, hi0, hz1⟩ := infoPa
  obtain ⟨cap', cur, hv', q1, q2, q3, q4, q5, q6⟩ := hv.open (g := bk) rfl
  cases hv'
  unfold maxLen at q4
  have hat := hv.at
  have hone := hv.1
  obtain ⟨news, hnews⟩ : ∃ news, news = (xs.drop j).flatten := ⟨_, rfl⟩
  have hdr : ∀ x ∈ xs.drop j, x.length = 12 ∧ ∀ u ∈ x, u.oneCell' = true := fun x hx => hone x (List.mem_of_mem_drop hx)
  have hlen : news.length = (xs.length - j) * 12 := by rw [hnews, flatten_len (fun x hx => (hdr x hx).1), List.length_drop]
  obtain ⟨A, hA, hsrc⟩ : ∃ A : Addr, (if cp = j then some (⟨bk, 0, none⟩ : Addr) else some ⟨bk, j * 12, none⟩) = some A ∧ Hid (∀ t u, news[t]? = some u → w.drew.cell? (A.add t) = some u) := by
    by_cases h : cp = j
    · refine ⟨⟨bk, 0, none⟩, by simp [h], fun t u hu => ?_⟩
      have h0 : news.length = 0 := by rw [hlen]; have : xs.length - j = 0 := by omega
                                      rw [this, Nat.zero_mul]
      rw [List.length_eq_zero_iff.1 h0] at hu
      simp at hu
    · refine ⟨⟨bk, j * 12, none⟩, by simp [h], fun t u hu => ?_⟩
      have ht : t < (xs.length - j) * 12 := by
        have := (List.getElem?_eq_some_iff.1 hu).1
        omega
      have hu2 : xs.flatten[j * 12 + t]? = some u := by
        have e : xs.flatten = (xs.take j).flatten ++ (xs.drop j).flatten := by rw [← List.flatten_append, List.take_append_drop]
        have hl : (xs.take j).flatten.length = j * 12 := by rw [flatten_len (fun x hx => (hone x (List.mem_of_mem_take hx)).1), List.length_take, Nat.min_eq_left hj]
        rw [e, List.getElem?_append_right (by omega), hl, show j * 12 + t - j * 12 = t from by omega, ← hnews]
        exact hu
      have hjt : j * 12 + t < xs.length * 12 := by
        have : (xs.length - j) * 12 + j * 12 = xs.length * 12 := by rw [← Nat.add_mul]; congr 1; omega
        omega
      rw [← q6, List.getElem?_take_of_lt hjt] at hu2
      have hu3 : cur[j * 12 + t]? = some u := by simpa using hu2
      have ea : (Addr.add ⟨bk, j * 12, none⟩ t) = ⟨bk, j * 12 + t, none⟩ := by unfold Addr.add; split <;> simp_all
      rw [ea]
      show w.cell? _ = some u
      simp [World.cell?, q2, hu3]
  have s1 := Lib.hid hlen
  have s2 := Lib.hid (show ∀ u ∈ news, u.oneCell' = true by
    intro u hu
    rw [hnews] at hu
    obtain ⟨x, hx, hux⟩ := List.mem_flatten.1 hu
    exact (hdr x hx).2 u hux)
  have s3 := Lib.hid (show ∀ t, t < news.length → (w.drew.cell? ⟨bk, 0 + i * 12 + t, none⟩).isSome = true ∧ w.drew.frozen? ⟨bk, 0 + i * 12 + t, none⟩ = false by
    intro t ht
    rw [Nat.zero_add]
    have hle : i * 12 + (xs.length - j) * 12 ≤ cp * 12 := by rw [← Nat.add_mul]; exact Nat.mul_le_mul_right _ (by omega)
    have := hv.there (g := bk) (cap := cp) rfl (o := i * 12) (n := (xs.length - j) * 12) hle t (by omega)
    exact this)
  have hvd : OwnRows b 63 12 w.drew (.slice (some ⟨bk, 0, none⟩) xs.length cp) xs := hv
  have hsp := hvd.splice (i := i) (ys := xs.drop j) (by omega) hdr (g := bk) (cap := cp) rfl (by rw [List.length_drop]; omega)
  rw [List.length_drop, ← hnews] at hsp
  have hfr0 : Fr (one bk) w (w.drew.setCells bk (i * 12) news) := ((Fr.refl (one bk) w).drew).setCells (fun _ => rfl) _ _
  obtain ⟨W1, hW1⟩ : ∃ W1, W1 = w.drew.setCells bk (0 + i * 12) news := ⟨_, rfl⟩
  have HW := Lib.hid hW1
  rw [Nat.zero_add] at hW1
  rw [← hW1] at hsp hfr0
  have hnl : (xs.take i ++ xs.drop j).length = i + (xs.length - j) := by rw [List.length_append, List.length_take, List.length_drop]; omega
  have hm : i + (xs.length - j) < xs.length := by omega
  have hzl : (Builtin.zeroCells zPa (xs.length - (i + (xs.length - j)))).toList.length = (xs.length - (i + (xs.length - j))) * 12 := by simp [Builtin.zeroCells]
  have hle : (i + (xs.length - j)) * 12 + (xs.length - (i + (xs.length - j))) * 12 ≤ cp * 12 := by rw [← Nat.add_mul]; exact Nat.mul_le_mul_right _ (by omega)
  have hcl := fun ty => run_clear_rows (P := Tryd.prog) W1 53 63 ty zPa Tryd.underlying53 (fun w => by kernel_rfl) (by decide) zPa_one bk ((i + (xs.length - j)) * 12) (xs.length - (i + (xs.length - j))) (cp - (i + (xs.length - j))) (by omega) (by
    have := hsp.there (g := bk) (cap := cp) (by rw [hnl]) (o := (i + (xs.length - j)) * 12) (n := (xs.length - (i + (xs.length - j))) * 12) hle
    exact this)
  have hbeh := hsp.behind (o := (i + (xs.length - j)) * 12) (vs := (Builtin.zeroCells zPa (xs.length - (i + (xs.length - j)))).toList) (by rw [hnl]; exact Nat.le_refl _) (g := bk) (cap := cp) (by rw [hnl]) (by rw [hzl]; omega)
  have hfr4 := hfr0.step (Fr.setCells (Fr.refl (one bk) W1) (fun _ => rfl) (Builtin.zeroCells zPa (xs.length - (i + (xs.length - j)))).toList ((i + (xs.length - j)) * 12)) (fun _ _ h => h)
  have hne : ((i : Int) == (j : Int)) = false := by rw [beq_eq_false_iff_ne]; omega
  have hicp : i ≤ cp := by omega
  have hjcp : j ≤ cp := by omega
  have HA := Lib.hid hA
  clear hW1 hsp hvd hfr0 hnews hlen hdr hone hat hnl hzl hle q2 q5 q6 hv
  go_enter Tryd.func64, Tryd.ntmps64
  go_wp2_with fail
  have hA := HA.out
  go_region_law (refine step_append_room rfl (.tmp 22) (.tmp 25) 53 rfl 63 i0 12 Tryd.underlying53 hi0 hz1 bk 0 i cp (by simp [Act.eval, Act.put]) A (xs.length - j) (cp - j) news (by simp [Act.eval, Act.put]) s1.out hsrc.out s2.out (by omega) s3.out ?_; rw [← HW.out])
  all_goals
    go_wp2_with fail
    go_ret
    exact ⟨rfl, hbeh, hfr4⟩

end Go.Proofs.YtkoobhgedoanhaaDoor

namespace Go.Proofs.YtkoobhgedoanhaaDoor
open Go.RowKit

theorem OwnRows.kindP {b k : Nat} {e : TypeId} {w : World} {v : Value} {xs : List (List Value)} (h : OwnRows b e k w v xs) {g : Nat} (hg : own v g) : ∃ c, w.heap[g]? = some (.cells c e (0, 0)) := by
  obtain ⟨cap, cur, _, _, h2, _⟩ := h.open hg
  exact ⟨cur, h2⟩
/-- block b is a book that holds ps, its row v of the call's own -/
structure BookIs (base : Nat) (w : World) (b : Nat) (v : Value) (ps : List Pas) : Prop where
  low : base ≤ b
  blk : w.heap[b]? = some (.cells #[v] 57 (0, 0))
  rows : OwnRows base 63 12 w v (ps.map Pas.cells)
def bookF (b : Nat) (v : Value) : Nat → Prop := fun k => k = b ∨ own v k
def BookPost (base : Nat) (w : World) (b : Nat) (v : Value) (ps : List Pas) (w' : World) : Prop :=
  ∃ v', BookIs base w' b v' ps ∧ Fr (bookF b v) w w' ∧ ∀ k, bookF b v' k → bookF b v k ∨ w.heap.size ≤ k
section
variable {base : Nat} {w w' : World} {b : Nat} {v : Value} {ps : List Pas}
theorem BookIs.lt (h : BookIs base w b v ps) : b < w.heap.size := lt_of_some h.blk
theorem BookIs.c0 (h : BookIs base w b v ps) : w.cell? ⟨b, 0, none⟩ = some v := by simp [World.cell?, h.blk]
theorem BookIs.free (h : BookIs base w b v ps) (k : Nat) : w.frozen? ⟨b, k, none⟩ = false := by simp [World.frozen?, h.blk]
theorem BookIs.form (h : BookIs base w b v ps) : ∃ a c, v = .slice a ps.length c := by
  obtain ⟨a, c, e⟩ := h.rows.form
  exact ⟨a, c, by rw [e, List.length_map]⟩
theorem BookIs.own_lt (h : BookIs base w b v ps) {k : Nat} (hk : own v k) : k < w.heap.size := h.rows.lt k hk
theorem BookIs.nb (h : BookIs base w b v ps) : ¬ own v b := fun hk => by
  obtain ⟨c, e⟩ := h.rows.kindP hk
  rw [h.blk] at e; cases e
theorem BookIs.foot_lt (h : BookIs base w b v ps) {k : Nat} (hk : bookF b v k) : k < w.heap.size := by
  rcases hk with rfl | hk
  · exact h.lt
  · exact h.own_lt hk
theorem BookIs.fr {S : Nat → Prop} (h : BookIs base w b v ps) (hf : Fr S w w') (hn : ∀ k, bookF b v k → ¬ S k) : BookIs base w' b v ps :=
  ⟨h.low, hf.keep h.blk (hn b (Or.inl rfl)), h.rows.fr hf (fun k hk => hn k (Or.inr hk))⟩
theorem BookIs.frN (h : BookIs base w b v ps) (hf : Fr noB w w') : BookIs base w' b v ps := h.fr hf (fun _ _ h => h)
theorem BookPost.same (h : BookIs base w b v ps) (hf : Fr noB w w') : BookPost base w b v ps w' :=
  ⟨v, h.frN hf, hf.mono (fun _ _ h => absurd h (fun h => h)), fun _ hk => Or.inl hk⟩
end
/-- behind a row's new value stored into the book -/
theorem BookIs.set {base : Nat} {w : World} {b : Nat} {v0 v : Value} {ps : List Pas} (hl : base ≤ b) (hb : w.heap[b]? = some (.cells #[v0] 57 (0, 0))) (hr : OwnRows base 63 12 w v (ps.map Pas.cells)) :
    BookIs base (w.setCell ⟨b, 0, none⟩ v) b v ps := by
  have hfs : Fr (one b) w (w.setCell ⟨b, 0, none⟩ v) := (Fr.refl (one b) w).setCell (p := ⟨b, 0, none⟩) (fun _ => rfl) _
  refine ⟨hl, setCell_heap hb 0 v, hr.fr hfs ?_⟩
  rintro k hk rfl
  obtain ⟨c, e⟩ := hr.kindP hk
  rw [hb] at e; cases e
theorem BookIs.new (w : World) : BookIs w.heap.size (w.alloc (.cells #[.slice none 0 0] 57)) w.heap.size (.slice none 0 0) [] :=
  ⟨Nat.le_refl _, new_block _ _, OwnRows.nil _ _ _ _⟩

theorem run_eql_pas (p q : Pas) (w : World) : (binOp .eql 63 (.agg p.cells.toArray) (.agg q.cells.toArray)).run Tryd.prog w = .ok (.bool (p.eqB q)) w := by
  obtain ⟨⟨a, b, c⟩, ⟨d, e, f⟩, g, i, j, k, l, m⟩ := p
  obtain ⟨⟨a', b', c'⟩, ⟨d', e', f'⟩, g', i', j', k', l', m'⟩ := q
  unfold Pas.cells
  go_simp
  simp only [show ∀ (P : Prop) [Decidable P] (W : World) (b : Bool), (if P then (Result.ok (Value.bool b) W : Result Value) else .ok (.bool false) W) = .ok (.bool (decide P && b)) W from fun P _ W b => by by_cases h : P <;> simp [h]]
  congr 2
  rw [Bool.eq_iff_iff]
  simp only [Pas.eqB, Ori.eqB, Bool.and_eq_true, decide_eq_true_eq, beq_iff_eq, and_assoc, and_true]
end Go.Proofs.YtkoobhgedoanhaaDoor

namespace Go.Proofs.YtkoobhgedoanhaaDoor
open Go.RowKit

set_option maxHeartbeats 1000000 in
set_option maxRecDepth 100000 in
theorem like_any (p q : Pas) (w : World) :
    Calls Tryd.prog 61 #[.agg p.cells.toArray, .agg q.cells.toArray] w fun e w' => e = .returned (.bool (p.like q)) ∧ Fr noB w w' := by
  have heq := run_eql_pas { p with til := q.til } q
  have HR := Lib.hid (show p.like q = ({ p with til := q.til } : Pas).eqB q from rfl)
  obtain ⟨W0, hW0⟩ : ∃ W0, W0 = (w.alloc (.cells p.cells.toArray 63)).alloc (.cells q.cells.toArray 63) := ⟨_, rfl⟩
  have hf0 : Fr noB w W0 := by rw [hW0]; exact ((Fr.refl noB w).alloc _).alloc _
  have h0 : W0.heap[w.heap.size]? = some (.cells p.cells.toArray 63 (0, 0)) := by rw [hW0]; exact ((Fr.refl noB _).alloc _).keep (new_block _ _) (fun h => h)
  have h1 : W0.heap[w.heap.size + 1]? = some (.cells q.cells.toArray 63 (0, 0)) := by
    have h := new_block (w.alloc (.cells p.cells.toArray 63)) (.cells q.cells.toArray 63)
    rw [World.size_alloc] at h
    rw [hW0]; exact h
  have c11 : W0.cell? ⟨w.heap.size + 1, 11, none⟩ = some (.int .i64 q.til) := by simp only [World.cell?, h1]; rfl
  have d11 : W0.cell? ⟨w.heap.size, 11, none⟩ = some (.int .i64 p.til) := by simp only [World.cell?, h0]; rfl
  have e11 : W0.frozen? ⟨w.heap.size, 11, none⟩ = false := by simp [World.frozen?, h0]
  clear h0 h1 hf0
  rw [hW0] at c11 d11 e11
  clear hW0
  have hF : Fr noB w ((w.alloc (.cells ({ p with til := q.til } : Pas).cells.toArray 63)).alloc (.cells q.cells.toArray 63)) := ((Fr.refl noB w).alloc _).alloc _
  have g0 : ((w.alloc (.cells ({ p with til := q.til } : Pas).cells.toArray 63)).alloc (.cells q.cells.toArray 63)).heap[w.heap.size]? = some (.cells ({ p with til := q.til } : Pas).cells.toArray 63 (0, 0)) := ((Fr.refl noB _).alloc _).keep (new_block _ _) (fun h => h)
  have g1 : ((w.alloc (.cells ({ p with til := q.til } : Pas).cells.toArray 63)).alloc (.cells q.cells.toArray 63)).heap[w.heap.size + 1]? = some (.cells q.cells.toArray 63 (0, 0)) := by
    have h := new_block (w.alloc (.cells ({ p with til := q.til } : Pas).cells.toArray 63)) (.cells q.cells.toArray 63)
    rw [World.size_alloc] at h
    exact h
  unfold Pas.cells at *
  dsimp only at heq hF g0 g1
  have G := Lib.hid (And.intro g0 g1)
  have HF := Lib.hid hF
  clear g0 g1 hF
  go_enter Tryd.func61, Tryd.ntmps61
  go_wp2_with (first | ((with_reducible refine wpList_at ⟨some 8, _, _, _, _, _⟩ ?_); go_must (refine wpList_load_row rfl 63 (.tmp 2) rfl w.heap.size rfl _ _ (0, 0) _ G.out.1 Tryd.underlying63 rfl (by kernel_rfl) ?_)) | ((with_reducible refine wpList_at ⟨some 9, _, _, _, _, _⟩ ?_); go_must (refine wpList_load_row rfl 63 (.tmp 3) rfl (w.heap.size + 1) rfl _ _ (0, 0) _ G.out.2 Tryd.underlying63 rfl (by kernel_rfl) ?_)) | fail)
  go_ret
  exact ⟨by rw [HR.out]; rfl, HF.out⟩
set_option maxHeartbeats 1000000 in
set_option maxRecDepth 100000 in
theorem alive_any (p : Pas) (now : Int) (w : World) :
    Calls Tryd.prog 63 #[.agg p.cells.toArray, .int .i64 now] w fun e w' => e = .returned (.bool (p.alive now)) ∧ Fr noB w w' := by
  have HR := Lib.hid (show p.alive now = decide (now < p.til) from rfl)
  have hfa : Fr noB w _ := (Fr.refl noB w).alloc (.cells p.cells.toArray 63)
  have h0 : (w.alloc (.cells p.cells.toArray 63)).heap[w.heap.size]? = some (.cells p.cells.toArray 63 (0, 0)) := new_block _ _
  have c11 : (w.alloc (.cells p.cells.toArray 63)).cell? ⟨w.heap.size, 11, none⟩ = some (.int .i64 p.til) := by simp only [World.cell?, h0]; rfl
  clear h0
  unfold Pas.cells at *
  go_enter Tryd.func63, Tryd.ntmps63
  go_wp2
  go_ret
  exact ⟨by rw [HR.out]; rfl, hfa⟩
def zPas : Pas := ⟨⟨false, ⟨#[]⟩, 0⟩, ⟨false, ⟨#[]⟩, 0⟩, ⟨#[]⟩, ⟨#[]⟩, false, ⟨#[]⟩, ⟨#[]⟩, 0⟩
theorem Pas.cells_one (p : Pas) : ∀ u ∈ p.cells, u.oneCell' = true := by
  unfold Pas.cells; simp [Value.oneCell']
set_option maxHeartbeats 1000000 in
set_option maxRecDepth 100000 in
/-- Put's first closure -/
theorem Put1_any (p q : Pas) (bp : Nat) (w : World) (hp : w.heap[bp]? = some (.cells p.cells.toArray 63 (0, 0))) :
    Calls Tryd.prog 60 #[.agg q.cells.toArray, .pointer (some ⟨bp, 0, none⟩)] w fun e w' => e = .returned (.bool (p.like q)) ∧ Fr noB w w' := by
  have hfa : Fr noB w (w.alloc (.cells q.cells.toArray 63)) := (Fr.refl noB w).alloc _
  have g0 := hfa.keep hp (fun h => h)
  have g1 : (w.alloc (.cells q.cells.toArray 63)).heap[w.heap.size]? = some (.cells q.cells.toArray 63 (0, 0)) := new_block _ _
  have HL := Lib.hid (like_any p q (w.alloc (.cells q.cells.toArray 63)))
  have G := Lib.hid (And.intro g0 g1)
  have HF := Lib.hid hfa
  clear hp g0 g1 hfa
  unfold Pas.cells at *
  go_enter Tryd.func60, Tryd.ntmps60
  go_wp2_with (first | ((with_reducible refine wpList_at ⟨some 4, _, _, _, _, _⟩ ?_); go_must (refine wpList_load_row rfl 63 (.tmp 1) rfl bp rfl _ _ (0, 0) _ G.out.1 Tryd.underlying63 rfl (by kernel_rfl) ?_)) | ((with_reducible refine wpList_at ⟨some 5, _, _, _, _, _⟩ ?_); go_must (refine wpList_load_row rfl 63 (.tmp 2) rfl w.heap.size rfl _ _ (0, 0) _ G.out.2 Tryd.underlying63 rfl (by kernel_rfl) ?_)) | fail)
  refine HL.out.mono ?_
  rintro e u ⟨rfl, hf⟩
  go_wp2
  go_ret
  exact ⟨rfl, HF.out.trans hf⟩
set_option maxHeartbeats 1000000 in
set_option maxRecDepth 100000 in
/-- Put's second closure -/
theorem Put2_any (q : Pas) (now : Int) (bn : Nat) (w : World) (hn : w.heap[bn]? = some (.cells #[.int .i64 now] 3 (0, 0))) :
    Calls Tryd.prog 62 #[.agg q.cells.toArray, .pointer (some ⟨bn, 0, none⟩)] w fun e w' => e = .returned (.bool (!q.alive now)) ∧ Fr noB w w' := by
  have hfa : Fr noB w (w.alloc (.cells q.cells.toArray 63)) := (Fr.refl noB w).alloc _
  have g0 := hfa.keep hn (fun h => h)
  have g1 : (w.alloc (.cells q.cells.toArray 63)).heap[w.heap.size]? = some (.cells q.cells.toArray 63 (0, 0)) := new_block _ _
  have cn : (w.alloc (.cells q.cells.toArray 63)).cell? ⟨bn, 0, none⟩ = some (.int .i64 now) := by simp only [World.cell?, g0]; rfl
  have HL := Lib.hid (alive_any q now (w.alloc (.cells q.cells.toArray 63)))
  have G := Lib.hid g1
  have HF := Lib.hid hfa
  clear hn g0 g1 hfa
  unfold Pas.cells at *
  go_enter Tryd.func62, Tryd.ntmps62
  go_wp2_with (first | ((with_reducible refine wpList_at ⟨some 4, _, _, _, _, _⟩ ?_); go_must (refine wpList_load_row rfl 63 (.tmp 2) rfl w.heap.size rfl _ _ (0, 0) _ G.out Tryd.underlying63 rfl (by kernel_rfl) ?_)) | fail)
  refine HL.out.mono ?_
  rintro e u ⟨rfl, hf⟩
  go_wp2
  go_ret
  exact ⟨rfl, HF.out.trans hf⟩
end Go.Proofs.YtkoobhgedoanhaaDoor
