/- Whole structs: into a new block, out of a block, in and out of a row. No program in sight. What stays as it was while the call writes into blocks of its own: slices of strings; lists side by side; rows' own blocks. The first place where a predicate holds. Plain. Function values over rows; clear over rows. slices' functions at api.Pass (rows of 12 cells), printed by wip/rowfn.py. Package cors: Covers, Needs. Sizes of passes and requests among the arguments. -/
import Derived.Test.YtkoobhgedoanhaaDoorBookGoneB2
import Derived.Deep.MidRow
import Derived.Test.YtkoobhgedoanhaaDoorBookGoneB1
import Derived.WalkKit
import Derived.Deep.RegionLaw
namespace Go.Proofs.YtkoobhgedoanhaaDoor
open Go.RowKit

/-- stands at the operation o, or fails at once -/
theorem wpList_at {P : Program} {ops : Array Oper} {rest : List Oper} {a : Act} {w : World} {Q : Exit → Act → World → Prop} (o : Oper) (h : wpList P ops Q (o :: rest) a w) : wpList P ops Q (o :: rest) a w := h
/-- the same, in a region that draws its order -/
theorem step_at {P : Program} {ops : Array Oper} {a : Act} {w : World} {K : Act → World → Prop} {Q : Exit → Act → World → Prop} {E : Prop} (o : Oper) (h : if Region.wanted o (yielded ops a.tmps) = true then Oper.wp P o a w K Q else E) : if Region.wanted o (yielded ops a.tmps) = true then Oper.wp P o a w K Q else E := h
/-- a call of a Go function by its contract, in a region that draws its order -/
theorem step_call {P : Program} {ops : Array Oper} {a : Act} {w : World} {K : Act → World → Prop} {Q : Exit → Act → World → Prop} {E : Prop} {o : Oper} (hgd : o.guard = none) (f : FuncId) (args : Array Value) (hrun : (execOp a.eval o).run P w = .ok (.enter f args) w) {Post : Ending → World → Prop} (hc : Calls P f args w Post)
    (h : ∀ e w', Post e w' → ∃ v, e = .returned v ∧ K (a.put o.dst v) w') : if Region.wanted o (yielded ops a.tmps) = true then Oper.wp P o a w K Q else E := by
  have hw : Region.wanted o (yielded ops a.tmps) = true := by simp [Region.wanted, hgd]
  rw [if_pos hw]
  unfold Oper.wp
  rw [hrun, Oper.upon_enter]
  refine hc.mono fun e w' hh => ?_
  obtain ⟨v, rfl, hk⟩ := h e w' hh
  exact hk
theorem setRow_alloc (w : World) (old cells : Array Value) (t : TypeId) : (w.alloc (.cells old t)).setRow w.heap.size cells = w.alloc (.cells cells t) := by
  unfold World.setRow World.alloc
  congr 1
  apply Array.ext
  · simp
  · intro k h1 h2
    simp only [Array.getElem_modify]
    by_cases hk : w.heap.size = k
    · subst hk; simp
    · have : k < w.heap.size := by simp at h2; omega
      simp [hk, Array.getElem_push, this]
/-- x := a struct's value, x's block just laid -/
theorem wpList_store_new {P : Program} {ops : Array Oper} {rest : List Oper} {o : Oper} {a : Act} {w : World} {Q : Exit → Act → World → Prop} (hgd : o.guard = none) (ty : TypeId) (x y : Operand) (ho : o.op = .store ty x y) (old : Array Value)
    (cells : Array Value) (hx : a.eval x = .pointer (some ⟨w.heap.size, 0, none⟩)) (hy : a.eval y = .agg cells)
    (hi : (P.info? ty).map (·.size) = some cells.size) (hold : old.size = cells.size) (h1 : cells.all (·.oneCell') = true)
    (h : wpList P ops Q rest (a.put o.dst undef) (w.alloc (.cells cells ty))) : wpList P ops Q (o :: rest) a (w.alloc (.cells old ty)) := by
  refine wpList_store_row hgd ty x y ho w.heap.size cells hx hy ty old (new_block w _) hi hold h1 ?_
  rw [setRow_alloc]
  exact h
/-- .. as the walk meets it -/
theorem run_storeCells_new {P : Program} (w : World) (t : TypeId) (old : Array Value) (x : List Value) (hold : old.size = x.length) (h1 : ∀ u ∈ x, u.oneCell' = true) :
    Sem.run P (storeCells ⟨w.heap.size, 0, none⟩ x 0) (w.alloc (.cells old t)) = .ok () (w.alloc (.cells x.toArray t)) := by
  have h := run_storeCells_from (P := P) w.heap.size t x 0 old (w.alloc (.cells old t)) (new_block w _) (by omega) h1
  rw [h, List.take_zero, List.nil_append, setRow_alloc]
theorem one_all {k : Nat} {xs : List (List Value)} (h : ∀ x ∈ xs, x.length = k ∧ ∀ u ∈ x, u.oneCell' = true) {x : List Value} (hx : x ∈ xs) : x.toArray.all (·.oneCell') = true := all_oneCell_toArray (h x hx).2

theorem setCell_heap {w : World} {b : Nat} {cur : Array Value} {t : TypeId} {f : Nat × Nat} (h : w.heap[b]? = some (.cells cur t f)) (o : Nat) (v : Value) : (w.setCell ⟨b, o, none⟩ v).heap[b]? = some (.cells (cur.setIfInBounds o v) t f) := by
  simp [World.setCell, Array.getElem?_modify, h]
theorem setCell_other {w : World} {b g : Nat} (hg : g ≠ b) (o : Nat) (v : Value) : (w.setCell ⟨b, o, none⟩ v).heap[g]? = w.heap[g]? := Below.heap_setCell _ _ _ _ hg
theorem setCells_size (b : Nat) : ∀ (vs : List Value) (o : Nat) (w : World), (w.setCells b o vs).heap.size = w.heap.size
  | [], _, _ => rfl
  | v :: r, o, w => by rw [World.setCells, setCells_size b r]; simp [World.setCell]
theorem setCells_other {b g : Nat} (hg : g ≠ b) : ∀ (vs : List Value) (o : Nat) (w : World), (w.setCells b o vs).heap[g]? = w.heap[g]?
  | [], _, _ => rfl
  | v :: r, o, w => by rw [World.setCells, setCells_other hg r, setCell_other hg]
theorem setCells_heap {b : Nat} {t : TypeId} {f : Nat × Nat} : ∀ (vs : List Value) (o : Nat) (w : World) (cur : Array Value), w.heap[b]? = some (.cells cur t f) → o + vs.length ≤ cur.size →
    (w.setCells b o vs).heap[b]? = some (.cells (cur.toList.take o ++ vs ++ cur.toList.drop (o + vs.length)).toArray t f)
  | [], o, w, cur, h, hl => by
    rw [World.setCells, h]
    simp
  | v :: r, o, w, cur, h, hl => by
    simp only [List.length_cons] at hl
    rw [World.setCells, setCells_heap r (o + 1) _ _ (setCell_heap h o v) (by simp; omega)]
    congr 3
    simp only [Array.toList_setIfInBounds, List.length_cons]
    have h1 : (cur.toList.set o v).take (o + 1) = cur.toList.take o ++ [v] := by
      have hlt : o < cur.toList.length := by simp; omega
      rw [List.take_add_one, List.getElem?_set_self hlt, List.take_set_of_le (Nat.le_refl o)]
      rfl
    have h2 : (cur.toList.set o v).drop (o + 1 + r.length) = cur.toList.drop (o + (r.length + 1)) := by
      rw [List.drop_set_of_lt (by omega)]
      congr 1; omega
    rw [h1, h2]
    simp
theorem Fr.setCells {S : Nat → Prop} {a w : World} (h : Fr S a w) {b : Nat} (hb : b < a.heap.size → S b) : ∀ (vs : List Value) (o : Nat), Fr S a (w.setCells b o vs) := by
  intro vs
  induction vs generalizing w with
  | nil => intro o; exact h
  | cons v r ih => intro o; exact ih (h.setCell (p := ⟨b, o, none⟩) hb v) (o + 1)
/-- what a slice literal of one struct lays -/
theorem fold_zip_from : ∀ (y : List Value) (i : Nat) (z : Array Value), i + y.length ≤ z.size → List.foldl (fun cs x => cs.setIfInBounds x.snd x.fst) z (y.zipIdx i) = (z.toList.take i ++ y ++ z.toList.drop (i + y.length)).toArray
  | [], i, z, _ => by simp
  | v :: r, i, z, hl => by
    simp only [List.length_cons] at hl
    rw [List.zipIdx_cons, List.foldl_cons, fold_zip_from r (i + 1) _ (by simp; omega)]
    congr 1
    simp only [Array.toList_setIfInBounds, List.length_cons]
    have h1 : (z.toList.set i v).take (i + 1) = z.toList.take i ++ [v] := by
      have hlt : i < z.toList.length := by simp; omega
      rw [List.take_add_one, List.getElem?_set_self hlt, List.take_set_of_le (Nat.le_refl i)]
      rfl
    have h2 : (z.toList.set i v).drop (i + 1 + r.length) = z.toList.drop (i + (r.length + 1)) := by
      rw [List.drop_set_of_lt (by omega)]
      congr 1; omega
    rw [h1, h2]
    simp
theorem fold_zip (y : List Value) (z : Array Value) (h : z.size = y.length) : List.foldl (fun cs x => cs.setIfInBounds x.snd x.fst) z y.zipIdx = y.toArray := by
  rw [fold_zip_from y 0 z (by omega), List.take_zero, List.nil_append, List.drop_eq_nil_of_le (by simp; omega), List.append_nil]
theorem flatten_set {k : Nat} : ∀ {xs : List (List Value)} (_ : ∀ x ∈ xs, x.length = k) {i : Nat} {y : List Value} (_ : i < xs.length), (xs.set i y).flatten = xs.flatten.take (i * k) ++ y ++ xs.flatten.drop (i * k + k)
  | [], _, i, y, hi => absurd hi (Nat.not_lt_zero _)
  | x :: xs, hl, 0, y, hi => by
    have hx := hl x (by simp)
    simp only [List.set_cons_zero, List.flatten_cons, Nat.zero_mul, List.take_zero, List.nil_append, Nat.zero_add]
    rw [List.drop_append_of_le_length (by omega), List.drop_eq_nil_of_le (by omega)]
    simp
  | x :: xs, hl, i + 1, y, hi => by
    have hx := hl x (by simp)
    have ih := flatten_set (k := k) (xs := xs) (fun z hz => hl z (List.mem_cons_of_mem _ hz)) (i := i) (y := y) (by simpa using hi)
    have e1 : (i + 1) * k = x.length + i * k := by rw [Nat.succ_mul, hx]; omega
    simp only [List.set_cons_succ, List.flatten_cons, ih, e1]
    rw [List.take_length_add_append, show x.length + i * k + k = x.length + (i * k + k) from by omega, List.drop_length_add_append]
    simp
theorem flatten_take {k : Nat} : ∀ {xs : List (List Value)} (_ : ∀ x ∈ xs, x.length = k) (i : Nat), (xs.take i).flatten = xs.flatten.take (i * k)
  | [], _, i => by simp
  | x :: xs, hl, 0 => by simp
  | x :: xs, hl, i + 1 => by
    have hx := hl x (by simp)
    have ih := flatten_take (k := k) (xs := xs) (fun z hz => hl z (List.mem_cons_of_mem _ hz)) i
    rw [List.take_succ_cons, List.flatten_cons, ih, List.flatten_cons, show (i + 1) * k = x.length + i * k from by rw [Nat.succ_mul, hx]; omega, List.take_length_add_append]
theorem splice_take (L : List Value) (a n : Nat) (y : List Value) (ham : a + y.length ≤ n) (hn : n ≤ L.length) : (L.take a ++ y ++ L.drop (a + y.length)).take n = (L.take n).take a ++ y ++ (L.take n).drop (a + y.length) := by
  have hA : (L.take a ++ y).length = a + y.length := by rw [List.length_append, List.length_take]; omega
  rw [List.take_append, List.take_of_length_le (by omega), hA, List.take_take, Nat.min_eq_left (by omega), List.drop_take]
theorem splice_take2 (L : List Value) (a : Nat) (y : List Value) (ham : a + y.length ≤ L.length) : (L.take a ++ y ++ L.drop (a + y.length)).take (a + y.length) = L.take a ++ y := by
  have hA : (L.take a ++ y).length = a + y.length := by rw [List.length_append, List.length_take]; omega
  rw [List.take_append_of_le_length (by omega), List.take_of_length_le (by omega)]
/-- rows of the call's own that lie in a block: it, whole -/
theorem OwnRows.open {base k : Nat} {e : TypeId} {w : World} {v : Value} {xs : List (List Value)} (h : OwnRows base e k w v xs) {g : Nat} (hg : v.ownBlock = some g) :
    ∃ cap cur, v = .slice (some ⟨g, 0, none⟩) xs.length cap ∧ base ≤ g ∧ w.heap[g]? = some (.cells cur e (0, 0)) ∧ xs.length ≤ cap ∧ cap ≤ maxLen ∧ cur.size = cap * k ∧ cur.toList.take (xs.length * k) = xs.flatten := by
  rcases h.2.2 with ⟨hv, _⟩ | ⟨g', cap, cur, hv, h1, h2, h3, h4, h5, h6⟩
  · rw [hv] at hg; simp [Value.ownBlock] at hg
  · rw [hv] at hg; simp [Value.ownBlock] at hg; subst hg
    exact ⟨cap, cur, hv, h1, h2, h3, h4, h5, h6⟩
/-- l[i] = y, in rows of the call's own -/
theorem OwnRows.store {base k : Nat} {e : TypeId} {w : World} {v : Value} {xs : List (List Value)} (h : OwnRows base e k w v xs) {i : Nat} {y : List Value} (hi : i < xs.length) (hy : y.length = k) (hy1 : ∀ u ∈ y, u.oneCell' = true) {g : Nat} (hg : v.ownBlock = some g) :
    OwnRows base e k (w.setCells g (i * k) y) v (xs.set i y) := by
  obtain ⟨cap, cur, hv, h1, h2, h3, h4, h5, h6⟩ := h.open hg
  have hik : i * k + k ≤ xs.length * k := by have : (i + 1) * k ≤ xs.length * k := Nat.mul_le_mul_right _ hi; rw [Nat.succ_mul] at this; exact this
  have hck : xs.length * k ≤ cap * k := Nat.mul_le_mul_right _ h3
  have hxs : ∀ x ∈ xs, x.length = k := fun x hx => (h.1 x hx).1
  have hh := setCells_heap y (i * k) w cur h2 (by omega)
  have hA : (cur.toList.take (i * k)).length = i * k := by rw [List.length_take]; simp; omega
  have hflat : (xs.set i y).flatten = (cur.toList.take (i * k) ++ y ++ cur.toList.drop (i * k + y.length)).take (xs.length * k) := by
    rw [flatten_set hxs hi, ← h6, splice_take _ _ _ _ (by omega) (by simp; omega), hy]
  refine ⟨?_, ?_, Or.inr ⟨g, cap, _, by rw [List.length_set]; exact hv, h1, hh, by rw [List.length_set]; exact h3, h4, ?_, ?_⟩⟩
  · intro x hx
    rcases List.mem_or_eq_of_mem_set hx with hx | rfl
    · exact h.1 x hx
    · exact ⟨hy, hy1⟩
  · rw [hflat, List.length_set, List.length_take, Nat.min_eq_left]
    simp; omega
  · simp; omega
  · rw [List.length_set, hflat]
/-- append(l[:i], ys...) where there is room, or l[:i] (ys empty) -/
theorem OwnRows.splice {base k : Nat} {e : TypeId} {w : World} {v : Value} {xs : List (List Value)} (h : OwnRows base e k w v xs) {i : Nat} {ys : List (List Value)} (hi : i ≤ xs.length) (hy : ∀ y ∈ ys, y.length = k ∧ ∀ u ∈ y, u.oneCell' = true) {g cap : Nat}
    (hg : v = .slice (some ⟨g, 0, none⟩) xs.length cap) (hc : i + ys.length ≤ cap) : OwnRows base e k (w.setCells g (i * k) ys.flatten) (.slice (some ⟨g, 0, none⟩) (i + ys.length) cap) (xs.take i ++ ys) := by
  obtain ⟨cap', cur, hv, h1, h2, h3, h4, h5, h6⟩ := h.open (g := g) (by rw [hg]; rfl)
  rw [hg] at hv; cases hv
  have hys : ys.flatten.length = ys.length * k := flatten_len (fun y hm => (hy y hm).1)
  have hcl : cur.toList.length = cur.size := by simp
  have hik : i * k + ys.length * k ≤ cap * k := by rw [← Nat.add_mul]; exact Nat.mul_le_mul_right _ hc
  have hii : i * k ≤ xs.length * k := Nat.mul_le_mul_right _ hi
  have hh := setCells_heap ys.flatten (i * k) w cur h2 (by omega)
  have hlen : (xs.take i ++ ys).length = i + ys.length := by rw [List.length_append, List.length_take]; omega
  have hxs : ∀ x ∈ xs, x.length = k := fun x hx => (h.1 x hx).1
  have hflat : (xs.take i ++ ys).flatten = (cur.toList.take (i * k) ++ ys.flatten ++ cur.toList.drop (i * k + ys.flatten.length)).take ((i + ys.length) * k) := by
    rw [Nat.add_mul, ← hys, splice_take2 _ _ _ (by rw [hys]; omega), List.flatten_append, flatten_take hxs, ← h6, List.take_take, Nat.min_eq_left hii]
  refine ⟨?_, ?_, Or.inr ⟨g, cap, _, by rw [hlen], h1, hh, by rw [hlen]; exact hc, h4, ?_, ?_⟩⟩
  · intro x hx
    rcases List.mem_append.1 hx with hx | hx
    · exact h.1 x (List.mem_of_mem_take hx)
    · exact hy x hx
  · rw [hflat, hlen, List.length_take, Nat.min_eq_left]
    rw [List.length_append, List.length_append, List.length_take, List.length_drop, hys, Nat.add_mul]; omega
  · rw [List.size_toArray, List.length_append, List.length_append, List.length_take, List.length_drop, hys]; omega
  · rw [hlen, hflat]
theorem OwnRows.cut {base k : Nat} {e : TypeId} {w : World} {v : Value} {xs : List (List Value)} (h : OwnRows base e k w v xs) {i : Nat} (hi : i ≤ xs.length) {g cap : Nat} (hg : v = .slice (some ⟨g, 0, none⟩) xs.length cap) : OwnRows base e k w (.slice (some ⟨g, 0, none⟩) i cap) (xs.take i) := by
  obtain ⟨cap', cur, hv, h1, h2, h3, h4, h5, h6⟩ := h.open (g := g) (by rw [hg]; rfl)
  have hc : cap = cap' := by rw [hg] at hv; cases hv; rfl
  have := h.splice (i := i) (ys := []) hi (fun y hy => by cases hy) hg (by simp; omega)
  simpa [World.setCells] using this
/-- what lies behind the first i rows is none of theirs -/
theorem OwnRows.behind {base k : Nat} {e : TypeId} {w : World} {v : Value} {xs : List (List Value)} (h : OwnRows base e k w v xs) {o : Nat} {vs : List Value} (ho : xs.length * k ≤ o) {g cap : Nat}
    (hg : v = .slice (some ⟨g, 0, none⟩) xs.length cap) (hc : o + vs.length ≤ cap * k) : OwnRows base e k (w.setCells g o vs) v xs := by
  obtain ⟨cap', cur, hv, h1, h2, h3, h4, h5, h6⟩ := h.open (g := g) (by rw [hg]; rfl)
  rw [hg] at hv; cases hv
  have hh := setCells_heap vs o w cur h2 (by omega)
  refine ⟨h.1, h.2.1, Or.inr ⟨g, cap, _, hg, h1, hh, h3, h4, by simp; omega, ?_⟩⟩
  have hA : xs.length * k ≤ (cur.toList.take o).length := by rw [List.length_take]; simp; omega
  rw [List.append_assoc]
  show List.take (xs.length * k) (List.take o cur.toList ++ (vs ++ List.drop (o + vs.length) cur.toList)) = _
  rw [List.take_append_of_le_length hA, List.take_take, Nat.min_eq_left ho, h6]
/-- the cells from row i on are there, and free -/
theorem OwnRows.there {base k : Nat} {e : TypeId} {w : World} {v : Value} {xs : List (List Value)} (h : OwnRows base e k w v xs) {g cap : Nat} (hg : v = .slice (some ⟨g, 0, none⟩) xs.length cap) {o n : Nat} (hn : o + n ≤ cap * k) : w.there g o n := by
  obtain ⟨cap', cur, hv, h1, h2, h3, h4, h5, h6⟩ := h.open (g := g) (by rw [hg]; rfl)
  rw [hg] at hv; cases hv
  intro j hj
  constructor
  · simp only [World.cell?, h2]
    rw [Array.getElem?_eq_getElem (by omega)]; rfl
  · simp [World.frozen?, h2]
/-- two results, the first a struct in its block -/
theorem results_cell_tmp {P : Program} {fn : Func} {p q : Tmp} {ty : TypeId} (h : fn.results = #[.cell p ty, .tmp q]) (tmps : Array Value) (w : World) (g : Nat) (t : TypeId) (cs : Array Value) (fr : Nat × Nat) (d : TypeDesc)
    (hp : tmps.getD p undef = .pointer (some ⟨g, 0, none⟩)) (hg : w.heap[g]? = some (.cells cs t fr))
    (hu : P.underlying ty = some d) (hd : (match d with | .struct _ | .array _ _ => true | _ => false) = true) (hi : (P.info? ty).map (·.size) = some cs.size) :
    (results fn tmps).run P w = .ok (.tuple #[.agg cs, tmps.getD q undef]) w := by
  have hp' : tmps[p]?.getD undef = .pointer (some ⟨g, 0, none⟩) := by simpa using hp
  simp [results, h, hp', asAddr, run_loadVar_row w g t ty cs fr d hg hu hd hi]
theorem new_cells (w : World) (y : List Value) (t : TypeId) : ∀ j u, y[j]? = some u → (w.alloc (.cells y.toArray t)).cell? ((⟨w.heap.size, 0, none⟩ : Addr).add j) = some u := by
  intro j u hj
  have ea : (Addr.add ⟨w.heap.size, 0, none⟩ j) = ⟨w.heap.size, j, none⟩ := by unfold Addr.add; split <;> simp_all
  rw [ea, World.cell?_alloc_mark]
  simpa using hj
end Go.Proofs.YtkoobhgedoanhaaDoor

namespace Go.Proofs.YtkoobhgedoanhaaDoor
open Go.RowKit

/-- a block that nothing writes: of the caller's (below base), or one of strings -/
def Still (base : Nat) (w : World) (k : Nat) : Prop := k < base ∨ ∃ c f, w.heap[k]? = some (.cells c 9 f)
/-- blocks of S are the call's own, and none is one of strings -/
def Off (base : Nat) (w : World) (S : Nat → Prop) : Prop := ∀ k, S k → k < w.heap.size → base ≤ k ∧ ∀ c f, w.heap[k]? ≠ some (.cells c 9 f)
theorem Off.none (base : Nat) (w : World) : Off base w noB := fun _ h => absurd h (fun h => h)
theorem Still.fr {base : Nat} {w w' : World} {k : Nat} {S : Nat → Prop} (h : Still base w k) (hf : Fr S w w') (ho : Off base w S) : Still base w' k := by
  rcases h with h | ⟨c, f, h⟩
  · exact Or.inl h
  · exact Or.inr ⟨c, f, hf.keep h (fun hs => (ho k hs (lt_of_some h)).2 c f h)⟩
/-- v reads as ss, few of them, and stays so -/
structure StrsIn (base : Nat) (w : World) (v : Value) (ss : List ByteArray) : Prop where
  rd : StrsAt w v ss
  own : ∀ k, v.ownBlock = some k → ss ≠ [] → k < w.heap.size ∧ Still base w k
  few : ss.length < 4398046511104
theorem StrsAt.empty {w w' : World} {v : Value} (h : StrsAt w v []) : StrsAt w' v [] := by
  rcases h with h | ⟨bk, o, c, hv, _⟩
  · exact Or.inl h
  · exact Or.inl ⟨_, _, hv, rfl, fun e => by cases e⟩
theorem StrsIn.fr {base : Nat} {w w' : World} {v : Value} {ss : List ByteArray} {S : Nat → Prop} (h : StrsIn base w v ss) (hf : Fr S w w') (ho : Off base w S) : StrsIn base w' v ss := by
  refine ⟨?_, fun k hk hs => ⟨Nat.lt_of_lt_of_le (h.own k hk hs).1 hf.size, (h.own k hk hs).2.fr hf ho⟩, h.few⟩
  by_cases he : ss = []
  · subst he; exact h.rd.empty
  refine h.rd.fr hf (fun k hk hs => ?_)
  obtain ⟨hl, hst⟩ := h.own k hk he
  have hk2 := ho k hs hl
  rcases hst with g | ⟨c, f, g⟩
  · omega
  · exact hk2.2 c f g
theorem StrsIn.frN {base : Nat} {w w' : World} {v : Value} {ss : List ByteArray} (h : StrsIn base w v ss) (hf : Fr noB w w') : StrsIn base w' v ss := h.fr hf (Off.none _ _)
theorem StrsIn.nil (base : Nat) (w : World) : StrsIn base w (.slice none 0 0) [] := ⟨StrsAt.nil w, fun k hk => by simp [Value.ownBlock] at hk, by simp⟩
theorem Strs.in {base b : Nat} {w : World} {v : Value} {ss : List ByteArray} (h : Strs b w v ss) (hl : ss.length < 4398046511104) : StrsIn base w v ss := by
  refine ⟨h.at, fun k hk _ => ?_, hl⟩
  rcases h.2 with ⟨hv, _⟩ | ⟨g, cap, cur, hv, hg, hh, _⟩
  · rw [hv] at hk; simp [Value.ownBlock] at hk
  · rw [hv] at hk; simp [Value.ownBlock] at hk; subst hk
    exact ⟨lt_of_some hh, Or.inr ⟨_, _, hh⟩⟩

/-- both lists, one by one -/
inductive Both {α β : Type} (R : α → β → Prop) : List α → List β → Prop
  | nil : Both R [] []
  | cons {a b l m} : R a b → Both R l m → Both R (a :: l) (b :: m)
namespace Both
variable {α β : Type} {R T : α → β → Prop} {l l' : List α} {m m' : List β}
theorem len (h : Both R l m) : l.length = m.length := by induction h with
  | nil => rfl
  | cons _ _ ih => simp [ih]
theorem mono (h : Both R l m) (hs : ∀ a b, R a b → T a b) : Both T l m := by induction h with
  | nil => exact .nil
  | cons h _ ih => exact .cons (hs _ _ h) ih
theorem get (h : Both R l m) {i : Nat} {a : α} (hi : l[i]? = some a) : ∃ b, m[i]? = some b ∧ R a b := by
  induction h generalizing i with
  | nil => simp at hi
  | cons h _ ih =>
    cases i with
    | zero => simp at hi; subst hi; exact ⟨_, rfl, h⟩
    | succ i => simpa using ih (by simpa using hi)
theorem app (h : Both R l m) (h' : Both R l' m') : Both R (l ++ l') (m ++ m') := by induction h with
  | nil => exact h'
  | cons h _ ih => exact .cons h ih
theorem take (h : Both R l m) (n : Nat) : Both R (l.take n) (m.take n) := by
  induction h generalizing n with
  | nil => simp; exact .nil
  | cons h _ ih => cases n with
    | zero => exact .nil
    | succ n => exact .cons h (ih n)
theorem drop (h : Both R l m) (n : Nat) : Both R (l.drop n) (m.drop n) := by
  induction h generalizing n with
  | nil => simp; exact .nil
  | cons h t ih => cases n with
    | zero => exact .cons h t
    | succ n => exact ih n
theorem filter (h : Both R l m) {p : α → Bool} {q : β → Bool} (hpq : ∀ a b, R a b → p a = q b) : Both R (l.filter p) (m.filter q) := by
  induction h with
  | nil => exact .nil
  | cons h _ ih =>
    rw [List.filter_cons, List.filter_cons, hpq _ _ h]
    split
    · exact .cons h ih
    · exact ih
theorem memL (h : Both R l m) {a : α} (ha : a ∈ l) : ∃ b, b ∈ m ∧ R a b := by
  obtain ⟨i, hi⟩ := List.getElem?_of_mem ha
  obtain ⟨b, hb, hr⟩ := h.get hi
  exact ⟨b, List.mem_of_getElem? hb, hr⟩
end Both

theorem Fr.setRow {S : Nat → Prop} {a w : World} (h : Fr S a w) {g : Nat} (hg : g < a.heap.size → S g) (cs : Array Value) : Fr S a (w.setRow g cs) :=
  ⟨h.os, h.tape, h.output, by simpa [World.setRow] using h.size, fun k hk hn => by
    rw [← h.block k hk hn]
    simp only [World.setRow, Array.getElem?_modify]
    by_cases e : g = k
    · subst e; exact absurd (hg hk) hn
    · simp [e]⟩
theorem setRow_other {w : World} {g k : Nat} (h : k ≠ g) (cs : Array Value) : (w.setRow g cs).heap[k]? = w.heap[k]? := by
  simp only [World.setRow, Array.getElem?_modify]
  simp [Ne.symm h]
/-- the block of a row whose elements are no strings -/
def own (v : Value) : Nat → Prop := fun k => v.ownBlock = some k
theorem OwnRows.off {base b k : Nat} {e : TypeId} {w : World} {v : Value} {xs : List (List Value)} (h : OwnRows b e k w v xs) (hb : base ≤ b) (he : e ≠ 9) : Off base w (own v) := by
  intro g hg _
  obtain ⟨cap, cur, _, h1, h2, _⟩ := h.open hg
  exact ⟨Nat.le_trans hb h1, fun c f e2 => by rw [h2] at e2; cases e2; exact he rfl⟩
/-- behind an append: new blocks, and the row's own -/
theorem Fr.ofGrown {w w' : World} {v : Value} (o : Obj) (h : (w.alloc o).grownBy w' v.ownBlock) : Fr (own v) w w' :=
  ((Fr.refl (own v) w).alloc o).grown h (fun _ hk _ => hk)
end Go.Proofs.YtkoobhgedoanhaaDoor

namespace Go.Proofs.YtkoobhgedoanhaaDoor

/-- the first place where p holds, or -1 -/
def idxP {α : Type} (p : α → Bool) : List α → Nat → Int
  | [], _ => -1
  | x :: l, i => if p x then i else idxP p l (i + 1)
theorem idxP_any {α : Type} (p : α → Bool) : ∀ (l : List α) (i : Nat), decide (0 ≤ idxP p l i) = l.any p
  | [], _ => rfl
  | x :: l, i => by
    rw [idxP, List.any_cons]
    cases h : p x
    · simp only [Bool.false_eq_true, if_false, Bool.false_or]; exact idxP_any p l (i + 1)
    · simp
theorem idxP_hit {α : Type} {p : α → Bool} {l : List α} {k i : Nat} {x : α} (h : l[k]? = some x) (hp : p x = true) (hn : (l.take k).any p = false) : idxP p l i = ((i + k : Nat) : Int) := by
  induction l generalizing k i with
  | nil => simp at h
  | cons a l ih =>
    cases k with
    | zero => simp at h; subst h; rw [idxP, if_pos hp]; rfl
    | succ k =>
      simp only [List.getElem?_cons_succ] at h
      simp only [List.take_succ_cons, List.any_cons, Bool.or_eq_false_iff] at hn
      rw [idxP, hn.1]
      simp only [Bool.false_eq_true, if_false]
      rw [ih h hn.2]; congr 1; omega
theorem idxP_none {α : Type} {p : α → Bool} {l : List α} {i : Nat} (hn : l.any p = false) : idxP p l i = -1 := by
  induction l generalizing i with
  | nil => rfl
  | cons a l ih =>
    simp only [List.any_cons, Bool.or_eq_false_iff] at hn
    rw [idxP, hn.1]
    simp only [Bool.false_eq_true, if_false]
    exact ih hn.2
theorem any_take_succ {α : Type} {p : α → Bool} {l : List α} {k : Nat} {x : α} (h : l[k]? = some x) (hn : (l.take k).any p = false) (hp : p x = false) : (l.take (k + 1)).any p = false := by
  rw [List.take_add_one, h]; simp only [List.any_append, hn, Option.toList_some, List.any_cons, hp, List.any_nil, Bool.or_false]

theorem take_snocG {α : Type} {l : List α} {k : Nat} {x : α} (h : l[k]? = some x) : l.take (k + 1) = l.take k ++ [x] := by rw [List.take_add_one, h]; rfl
end Go.Proofs.YtkoobhgedoanhaaDoor

namespace Go.Proofs.YtkoobhgedoanhaaDoor
open Go.RowKit

/-- a function value that answers p at each row of xs, whatever was done to the blocks of S since w -/
def AnswersK (S : Nat → Prop) (w : World) (g : Nat) (cap : Array Value) (p : List Value → Bool) (xs : List (List Value)) : Prop :=
  ∀ x, x ∈ xs → ∀ u, Fr S w u → Calls Tryd.prog g (#[.agg x.toArray] ++ cap) u fun e u' => e = .returned (.bool (p x)) ∧ Fr noB u u'
theorem AnswersK.none {S : Nat → Prop} {w : World} {g : Nat} {cap : Array Value} {p : List Value → Bool} {xs : List (List Value)} (h : AnswersK S w g cap p xs) : AnswersK noB w g cap p xs :=
  fun x hx u hu => h x hx u (hu.mono (fun _ _ h => absurd h (fun h => h)))
theorem AnswersK.fr {S : Nat → Prop} {w w' : World} {g : Nat} {cap : Array Value} {p : List Value → Bool} {xs : List (List Value)} (h : AnswersK S w g cap p xs) (hf : Fr noB w w') : AnswersK S w' g cap p xs :=
  fun x hx u hu => h x hx u (Fr.step (hf.mono (fun _ _ h => absurd h (fun h => h))) hu (fun _ _ h => h))

/-- 'clear(l)', l of n > 0 structs -/
theorem run_clear_rows {P : Program} (w : World) (t e ty : TypeId) (zs : Array Value) (ht : P.underlying t = some (.slice e)) (hv : ∀ w, (zeroValue e).run P w = .ok (.agg zs) w) (hs : 0 < zs.size) (h1 : ∀ v ∈ zs.toList, v.oneCell' = true) (b o n c : Nat) (hn : 0 < n)
    (hc : w.there b o (n * zs.size)) :
    (Builtin.clear_ #[t] ty #[.slice (some ⟨b, o, none⟩) n c]).run P w = .ok (.tuple #[]) (w.setCells b o (Builtin.zeroCells zs n).toList) := by
  have hl : (Builtin.zeroCells zs n).toList.length = n * zs.size := by simp [Builtin.zeroCells]
  have hst := run_storeCells_cells (P := P) b o (Builtin.zeroCells zs n).toList 0 w (by rw [hl]; intro j hj; exact (hc j hj).1) (by rw [hl]; intro j hj; exact (hc j hj).2) (by
    intro v hv'
    rw [Builtin.zeroCells, Array.mem_toList_iff, Array.mem_map] at hv'
    obtain ⟨i, _, rfl⟩ := hv'
    have hm := Nat.mod_lt i hs
    rw [getElem!_pos zs _ hm]
    exact h1 _ (by simp))
  simp only [Nat.add_zero] at hst
  obtain ⟨m, rfl⟩ : ∃ m, n = m + 1 := ⟨n - 1, by omega⟩
  have hcells : (Value.agg zs).cells = zs := rfl
  simp [Builtin.clear_, run_underlying ht, hv, hcells, hst]
end Go.Proofs.YtkoobhgedoanhaaDoor

namespace Go.Proofs.YtkoobhgedoanhaaDoor
open Go.RowKit

/-- a block of the kind before anything is stored -/
abbrev zPa : Array Value := #[.bool false, .string ⟨#[]⟩, .int .i64 0, .bool false, .string ⟨#[]⟩, .int .i64 0, .string ⟨#[]⟩, .string ⟨#[]⟩, .bool false, .string ⟨#[]⟩, .string ⟨#[]⟩, .int .i64 0]
theorem zPa_size : zPa.size = 12 := rfl
theorem zPa_one : ∀ v ∈ zPa.toList, v.oneCell' = true := by decide +kernel
theorem sizePa {x : List Value} (h : x.length = 12) : (Tryd.prog.info? 63).map (·.size) = some x.length := by rw [h]; kernel_rfl

def IRelPa (w : World) (p : List Value → Bool) (xs : List (List Value)) (i : Value) (wr : World) : Prop :=
  ∃ k : Nat, k ≤ xs.length ∧ i = .int .i64 k ∧ (xs.take k).any p = false ∧ Fr noB w wr
set_option maxRecDepth 100000 in
set_option maxHeartbeats 1000000 in
theorem IndexFunc_Pa (g : Nat) (cap : Array Value) (p : List Value → Bool) (v : Value) (xs : List (List Value)) (w : World) (eg : ∀ args w, (callFunc g args).run Tryd.prog w = .ok (.enter g args) w) (hp : AnswersK noB w g cap p xs) (hv : RowsAt 12 w v xs) :
    Calls Tryd.prog 68 #[v, .func (.func g) #[] cap] w fun e w' => e = .returned (.int .i64 (idxP p xs 0)) ∧ Fr noB w w' := by
  obtain ⟨av, cv, hform⟩ := hv.form
  subst hform
  have hone := Lib.hid hv.1
  go_enter Tryd.func68, Tryd.ntmps68
  go_wp2
  go_loopw [8] (IRelPa w p xs) (fun i _ => xs.length - (intOf i).toNat)
  case atStart => exact ⟨0, Nat.zero_le _, rfl, rfl, Fr.refl _ _⟩
  case round =>
    obtain ⟨k, hk, rfl, hn, hfr⟩ := hrel
    have HN := Lib.hid hn
    clear hn
    by_cases hks : k < xs.length
    · rcases (hv.frNone hfr).2 with ⟨_, _, _, e, _⟩ | ⟨bk, of, c, hf, h1, h2, h3, h4⟩
      · rw [e] at hks; exact absurd hks (Nat.not_lt_zero _)
      · cases hf
        unfold maxLen at h2
        have hat := Lib.hid (List.getElem?_eq_getElem hks)
        have hcell := h4 k _ hat.out
        have hmem := Lib.hid (List.getElem_mem hks)
        generalize xs[k] = x at hat hcell hmem
        have hcall := Lib.hid (hp x hmem.out wr hfr)
        have hxk := (hone.out x hmem.out).1
        clear h4
        cases hpx : p x
        · have hnx := Lib.hid (any_take_succ hat.out HN.out hpx)
          go_wp2_with (first | ((with_reducible refine wpList_at ⟨some 15, _, _, _, _, _⟩ ?_); go_must (refine wpList_load_mid rfl 63 (.tmp 14) rfl bk (of + k * 12) rfl x _ hcell Tryd.underlying63 rfl (sizePa hxk) ?_)) | fail)
          refine hcall.out.mono ?_
          rintro e w1 ⟨rfl, hf1⟩
          rw [hpx]
          go_wp2
          go_roundw
          case rel => exact ⟨k + 1, by omega, by go_num, hnx.out, hfr.trans hf1⟩
          case measure => simp [intOf]; omega
        · have hfin := Lib.hid (idxP_hit (i := 0) hat.out hpx HN.out)
          go_wp2_with (first | ((with_reducible refine wpList_at ⟨some 15, _, _, _, _, _⟩ ?_); go_must (refine wpList_load_mid rfl 63 (.tmp 14) rfl bk (of + k * 12) rfl x _ hcell Tryd.underlying63 rfl (sizePa hxk) ?_)) | fail)
          refine hcall.out.mono ?_
          rintro e w1 ⟨rfl, hf1⟩
          rw [hpx]
          go_wp2
          go_ret
          rw [hfin.out, Nat.zero_add]
          exact ⟨rfl, hfr.trans hf1⟩
    · have hfin := Lib.hid (show idxP p xs 0 = -1 from idxP_none (by have h := HN.out; rw [List.take_of_length_le (by omega)] at h; exact h))
      go_wp2
      go_ret
      rw [hfin.out]
      exact ⟨rfl, hfr⟩

set_option maxHeartbeats 1000000 in
theorem ContainsFunc_Pa (g : Nat) (cap : Array Value) (p : List Value → Bool) (v : Value) (xs : List (List Value)) (w : World) (eg : ∀ args w, (callFunc g args).run Tryd.prog w = .ok (.enter g args) w) (hp : AnswersK noB w g cap p xs) (hv : RowsAt 12 w v xs) :
    Calls Tryd.prog 33 #[v, .func (.func g) #[] cap] w fun e w' => e = .returned (.bool (xs.any p)) ∧ Fr noB w w' := by
  have hb := Lib.hid (idxP_any p xs 0)
  go_enter Tryd.func33, Tryd.ntmps33
  go_wp2_with fail
  refine (IndexFunc_Pa g cap p v xs w eg hp hv).mono ?_
  rintro e w1 ⟨rfl, hf1⟩
  go_wp2
  go_ret
  exact ⟨ret_bool hb.out, hf1⟩

end Go.Proofs.YtkoobhgedoanhaaDoor

namespace Go.Proofs.YtkoobhgedoanhaaDoor
open Go.RowKit

/-- a request; D: what its headers are -/
structure ReqOf (D : Type) where
  part : Int
  frm : Ori
  o : Ori
  path : ByteArray
  query : ByteArray
  method : ByteArray
  heads : D
  wth : Bool
  body : ByteArray
def ReqOf.cells (r : ReqOf Value) : List Value := [.int .i64 r.part, .bool r.frm.secure, .string r.frm.host, .int .i64 r.frm.port, .bool r.o.secure, .string r.o.host, .int .i64 r.o.port, .string r.path, .string r.query, .string r.method, r.heads, .bool r.wth, .string r.body]
def ReqOf.toL {D : Type} (r : ReqOf D) (hs : List Prm) : ReqL := ⟨r.frm, r.o, r.path, r.query, r.method, hs, r.wth⟩
/-- v reads as the passes ps -/
def PasAt (w : World) (v : Value) (ps : List Pas) : Prop := RowsAt 12 w v (ps.map Pas.cells)
def pasC (x : List Value) : Pas := ⟨⟨cB x 0, cS x 1, cI x 2⟩, ⟨cB x 3, cS x 4, cI x 5⟩, cS x 6, cS x 7, cB x 8, cS x 9, cS x 10, cI x 11⟩
theorem pasC_cells (p : Pas) : pasC p.cells = p := rfl
theorem any_pasC (ps : List Pas) (f : Pas → Bool) : (ps.map Pas.cells).any (fun x => f (pasC x)) = ps.any f := by
  rw [List.any_map]; rfl
set_option maxHeartbeats 1000000 in
set_option maxRecDepth 100000 in
theorem Cov2_any (p : Pas) (m : ByteArray) (r : ReqOf Value) (bm br : Nat) (w : World) (hm : w.heap[bm]? = some (.cells #[.string m] 9 (0, 0))) (hr : w.heap[br]? = some (.cells r.cells.toArray 67 (0, 0))) :
    Calls Tryd.prog 87 #[.agg p.cells.toArray, .pointer (some ⟨bm, 0, none⟩), .pointer (some ⟨br, 0, none⟩)] w fun e w' => e = .returned (.bool (p.lets m r.wth)) ∧ Fr noB w w' := by
  unfold Pas.cells
  unfold ReqOf.cells at hr
  have hfa : Fr noB w _ := (Fr.refl noB w).alloc (.cells #[.bool p.frm.secure, .string p.frm.host, .int .i64 p.frm.port, .bool p.o.secure, .string p.o.host, .int .i64 p.o.port, .string p.path, .string p.query, .bool p.wth, .string p.method, .string p.head, .int .i64 p.til] 63)
  have hm2 := hfa.keep hm (fun h => h)
  have hr2 := hfa.keep hr (fun h => h)
  have cm : (w.alloc (.cells #[.bool p.frm.secure, .string p.frm.host, .int .i64 p.frm.port, .bool p.o.secure, .string p.o.host, .int .i64 p.o.port, .string p.path, .string p.query, .bool p.wth, .string p.method, .string p.head, .int .i64 p.til] 63)).cell? ⟨bm, 0, none⟩ = some (.string m) := by simp [World.cell?, hm2]
  clear hm2
  have HFA := Lib.hid hfa
  cases e1 : (p.method.toList == m.toList)
  · cases e2 : (p.method.toList == star)
    · have HR := Lib.hid (show p.lets m r.wth = false by unfold Pas.lets; rw [e1, e2]; rfl)
      have e2' : (p.method.toList == [42]) = false := e2
      clear hfa hm hr e2
      go_enter Tryd.func87, Tryd.ntmps87
      go_wp2
      go_ret
      exact ⟨by rw [HR.out]; rfl, HFA.out⟩
    · have e2' : (p.method.toList == [42]) = true := e2
      have cw : (w.alloc (.cells #[.bool p.frm.secure, .string p.frm.host, .int .i64 p.frm.port, .bool p.o.secure, .string p.o.host, .int .i64 p.o.port, .string p.path, .string p.query, .bool p.wth, .string p.method, .string p.head, .int .i64 p.til] 63)).cell? ⟨br, 11, none⟩ = some (.bool r.wth) := by simp [World.cell?, hr2]
      cases e3 : r.wth
      · have HR := Lib.hid (show p.lets m false = true by unfold Pas.lets; rw [e1, e2]; rfl)
        rw [e3] at cw
        clear hfa hm hr e2 hr2 e3
        go_enter Tryd.func87, Tryd.ntmps87
        go_wp2
        go_ret
        exact ⟨by rw [HR.out]; rfl, HFA.out⟩
      · have HR := Lib.hid (show p.lets m true = false by unfold Pas.lets; rw [e1, e2]; rfl)
        rw [e3] at cw
        clear hfa hm hr e2 hr2 e3
        go_enter Tryd.func87, Tryd.ntmps87
        go_wp2
        go_ret
        exact ⟨by rw [HR.out]; rfl, HFA.out⟩
  · have HR := Lib.hid (show p.lets m r.wth = true by unfold Pas.lets; rw [e1]; rfl)
    clear hfa hm hr
    go_enter Tryd.func87, Tryd.ntmps87
    go_wp2
    go_ret
    exact ⟨by rw [HR.out]; rfl, HFA.out⟩
set_option maxHeartbeats 1000000 in
set_option maxRecDepth 100000 in
theorem Cov3_any (p : Pas) (m : ByteArray) (r : ReqOf Value) (bm br : Nat) (w : World) (hm : w.heap[bm]? = some (.cells #[.string m] 9 (0, 0))) (hr : w.heap[br]? = some (.cells r.cells.toArray 67 (0, 0))) :
    Calls Tryd.prog 88 #[.agg p.cells.toArray, .pointer (some ⟨bm, 0, none⟩), .pointer (some ⟨br, 0, none⟩)] w fun e w' => e = .returned (.bool (p.letsH m r.wth)) ∧ Fr noB w w' := by
  unfold Pas.cells
  unfold ReqOf.cells at hr
  have hfa : Fr noB w _ := (Fr.refl noB w).alloc (.cells #[.bool p.frm.secure, .string p.frm.host, .int .i64 p.frm.port, .bool p.o.secure, .string p.o.host, .int .i64 p.o.port, .string p.path, .string p.query, .bool p.wth, .string p.method, .string p.head, .int .i64 p.til] 63)
  have hm2 := hfa.keep hm (fun h => h)
  have hr2 := hfa.keep hr (fun h => h)
  have cm : (w.alloc (.cells #[.bool p.frm.secure, .string p.frm.host, .int .i64 p.frm.port, .bool p.o.secure, .string p.o.host, .int .i64 p.o.port, .string p.path, .string p.query, .bool p.wth, .string p.method, .string p.head, .int .i64 p.til] 63)).cell? ⟨bm, 0, none⟩ = some (.string m) := by simp [World.cell?, hm2]
  clear hm2
  have HFA := Lib.hid hfa
  cases e1 : (p.head.toList == m.toList)
  · cases e2 : (p.head.toList == star)
    · have HR := Lib.hid (show p.letsH m r.wth = false by unfold Pas.letsH; rw [e1, e2]; rfl)
      have e2' : (p.head.toList == [42]) = false := e2
      clear hfa hm hr e2
      go_enter Tryd.func88, Tryd.ntmps88
      go_wp2
      go_ret
      exact ⟨by rw [HR.out]; rfl, HFA.out⟩
    · have e2' : (p.head.toList == [42]) = true := e2
      have cw : (w.alloc (.cells #[.bool p.frm.secure, .string p.frm.host, .int .i64 p.frm.port, .bool p.o.secure, .string p.o.host, .int .i64 p.o.port, .string p.path, .string p.query, .bool p.wth, .string p.method, .string p.head, .int .i64 p.til] 63)).cell? ⟨br, 11, none⟩ = some (.bool r.wth) := by simp [World.cell?, hr2]
      cases e3 : r.wth
      · rw [e3] at cw
        cases e4 : (m.toList == authz)
        · have HR := Lib.hid (show p.letsH m false = true by unfold Pas.letsH; rw [e1, e2]; unfold bne; rw [e4]; rfl)
          have e4' : (m.toList == [97, 117, 116, 104, 111, 114, 105, 122, 97, 116, 105, 111, 110]) = false := e4
          clear hfa hm hr e2 hr2 e3 e4
          go_enter Tryd.func88, Tryd.ntmps88
          go_wp2
          go_ret
          exact ⟨by rw [HR.out]; rfl, HFA.out⟩
        · have HR := Lib.hid (show p.letsH m false = false by unfold Pas.letsH; rw [e1, e2]; unfold bne; rw [e4]; rfl)
          have e4' : (m.toList == [97, 117, 116, 104, 111, 114, 105, 122, 97, 116, 105, 111, 110]) = true := e4
          clear hfa hm hr e2 hr2 e3 e4
          go_enter Tryd.func88, Tryd.ntmps88
          go_wp2
          go_ret
          exact ⟨by rw [HR.out]; rfl, HFA.out⟩
      · have HR := Lib.hid (show p.letsH m true = false by unfold Pas.letsH; rw [e1, e2]; rfl)
        rw [e3] at cw
        clear hfa hm hr e2 hr2 e3
        go_enter Tryd.func88, Tryd.ntmps88
        go_wp2
        go_ret
        exact ⟨by rw [HR.out]; rfl, HFA.out⟩
  · have HR := Lib.hid (show p.letsH m r.wth = true by unfold Pas.letsH; rw [e1]; rfl)
    clear hfa hm hr
    go_enter Tryd.func88, Tryd.ntmps88
    go_wp2
    go_ret
    exact ⟨by rw [HR.out]; rfl, HFA.out⟩
/-- the closure has -/
theorem Cov1_any (g : Nat) (cap : Array Value) (p : List Value → Bool) (v : Value) (xs : List (List Value)) (bl : Nat) (w : World) (eg : ∀ args w, (callFunc g args).run Tryd.prog w = .ok (.enter g args) w) (hp : AnswersK noB w g cap p xs) (hv : RowsAt 12 w v xs) (hl : w.heap[bl]? = some (.cells #[v] 53 (0, 0))) :
    Calls Tryd.prog 86 #[.func (.func g) #[] cap, .pointer (some ⟨bl, 0, none⟩)] w fun e w' => e = .returned (.bool (xs.any p)) ∧ Fr noB w w' := by
  have hc := Lib.hid (ContainsFunc_Pa g cap p v xs w eg hp hv)
  obtain ⟨av, cv, rfl⟩ := hv.form
  have c0 : w.cell? ⟨bl, 0, none⟩ = some (.slice av xs.length cv) := by simp [World.cell?, hl]
  clear hv hl hp
  go_enter Tryd.func86, Tryd.ntmps86
  go_wp2_with fail
  refine hc.out.mono ?_
  rintro e u ⟨rfl, hf⟩
  go_wp2
  go_ret
  exact ⟨rfl, hf⟩

/-- a request of sizes that can be -/
def ReqOk (r : ReqOf Value) (hs : List Prm) : Prop := r.method.size < 100000 ∧ hs.length < 100000 ∧ ∀ p ∈ hs, p.1.size < 100000 ∧ p.2.size < 100000
def CvRel (hs : List ByteArray) (wth : Bool) (ps : List Pas) (w : World) (t : Value) (wr : World) : Prop :=
  ∃ k : Nat, k ≤ hs.length ∧ t = .int .i64 k ∧ (hs.take k).all (fun h => ps.any (Pas.letsH h wth)) = true ∧ Fr noB w wr
theorem cv_take_succ {α : Type} {p : α → Bool} {l : List α} {k : Nat} {x : α} (h : l[k]? = some x) (hn : (l.take k).all p = true) (hp : p x = true) : (l.take (k + 1)).all p = true := by
  rw [take_snocG h, List.all_append, hn]; simp [hp]
theorem cv_all_not {α : Type} {p : α → Bool} {l : List α} {k : Nat} {x : α} (h : l[k]? = some x) (hp : p x = false) : l.all p = false := by
  rw [List.all_eq_false]; exact ⟨x, List.mem_of_getElem? h, by simp [hp]⟩
set_option maxRecDepth 100000 in
set_option maxHeartbeats 4000000 in
theorem Covers_any (r : ReqOf Value) (hs : List Prm) (v : Value) (ps : List Pas) (w : World) (hr : PrmsAt w r.heads hs) (hv : PasAt w v ps) (hz : ReqOk r hs) :
    Calls Tryd.prog 67 #[.agg r.cells.toArray, v] w fun e w' => e = .returned (.bool ((r.toL hs).covers ps)) ∧ Fr noB w w' := by
  have HRES := Lib.hid (show (r.toL hs).covers ps = ((simpleB (methodB r.method) || ps.any (Pas.lets (methodB r.method) r.wth)) && (askedB hs).all fun h => ps.any (Pas.letsH h r.wth)) from rfl)
  generalize (r.toL hs).covers ps = res at HRES ⊢
  obtain ⟨av, cv, hvf⟩ := RowsAt.form hv
  rw [List.length_map] at hvf
  subst hvf
  obtain ⟨ah, ch, hhf⟩ := RowsAt.form hr
  rw [List.length_map] at hhf
  obtain ⟨rc, hrc⟩ : ∃ rc, rc = r.cells.toArray := ⟨_, rfl⟩
  obtain ⟨wb, hwb⟩ : ∃ wb, wb = (w.alloc (.cells rc 67)).alloc (.cells #[.slice av ps.length cv] 53) := ⟨_, rfl⟩
  have hfb : Fr noB w wb := by rw [hwb]; exact ((Fr.refl noB w).alloc _).alloc _
  have hsb : wb.heap.size = w.heap.size + 2 := by rw [hwb]; simp
  have hk1 : wb.heap[w.heap.size]? = some (.cells rc 67 (0, 0)) := by rw [hwb]; exact ((Fr.refl noB _).alloc _).keep (new_block _ _) (fun h => h)
  have hk2 : wb.heap[w.heap.size + 1]? = some (.cells #[.slice av ps.length cv] 53 (0, 0)) := by
    have h := new_block (w.alloc (.cells rc 67)) (.cells #[.slice av ps.length cv] 53)
    rw [World.size_alloc] at h
    rw [hwb]; exact h
  have HC := Lib.hid (show ∀ U, Fr noB wb U → U.heap[w.heap.size]? = some (.cells r.cells.toArray 67 (0, 0)) ∧ U.heap[w.heap.size + 1]? = some (.cells #[.slice av ps.length cv] 53 (0, 0)) from fun U hU => ⟨by rw [← hrc]; exact hU.keep hk1 (fun h => h), hU.keep hk2 (fun h => h)⟩)
  have HX := Lib.hid (show ∀ U, Fr noB wb U → U.cell? ⟨w.heap.size, 9, none⟩ = some (.string r.method) ∧ U.cell? ⟨w.heap.size, 10, none⟩ = some (.slice ah hs.length ch) from fun U hU => by
    have j := (HC.out U hU).1
    unfold ReqOf.cells at j
    rw [hhf] at j
    simp [World.cell?, j])
  have HV := Lib.hid (show ∀ U, Fr noB w U → PasAt U (.slice av ps.length cv) ps from fun U hU => RowsAt.frNone hv hU)
  have HH := Lib.hid (show ∀ U, Fr noB w U → PrmsAt U (.slice ah hs.length ch) hs from fun U hU => by rw [← hhf]; exact RowsAt.frNone hr hU)
  have HZ := Lib.hid hz
  have HFB := Lib.hid hfb
  have HWB := Lib.hid hwb
  have HRC := Lib.hid hrc
  clear hv hr hz hfb hwb hk1 hk2
  rw [← hrc]
  clear hrc
  obtain ⟨c9, c10⟩ := HX.out wb (Fr.refl _ _)
  rw [HWB.out] at c9 c10
  go_enter Tryd.func67, Tryd.ntmps67
  go_wp2_with fail
  rw [← HWB.out]
  refine (Method_any r.method wb HZ.out.1).mono ?_
  rintro e u1 ⟨rfl, hf1⟩
  obtain ⟨m, hm⟩ : ∃ m, m = methodB r.method := ⟨_, rfl⟩
  rw [← hm] at HRES ⊢
  clear hm
  obtain ⟨w1, hw1⟩ : ∃ w1, w1 = u1.alloc (.cells #[.string m] 9) := ⟨_, rfl⟩
  have hmb : w1.heap[u1.heap.size]? = some (.cells #[.string m] 9 (0, 0)) := by rw [hw1]; exact new_block _ _
  have hf2 : Fr noB wb w1 := by rw [hw1]; exact hf1.alloc _
  have HW1 := Lib.hid hw1
  have HF1 := Lib.hid hf2
  have k0 : w1.cell? ⟨u1.heap.size, 0, none⟩ = some (.string m) := by simp [World.cell?, hmb]
  have HMB := Lib.hid hmb
  clear hf1 hf2 c9 c10 hw1 hmb
  go_wp2_with fail
  rw [← HW1.out]
  refine (Simple_any m w1).mono ?_
  rintro e u2 ⟨rfl, rfl⟩
  -- the method is allowed
  have HC2 := Lib.hid (show Calls Tryd.prog 86 #[.func (.func 87) #[] #[.pointer (some ⟨u1.heap.size, 0, none⟩), .pointer (some ⟨w.heap.size, 0, none⟩)], .pointer (some ⟨w.heap.size + 1, 0, none⟩)] w1 fun e w' => e = .returned (.bool (ps.any (Pas.lets m r.wth))) ∧ Fr noB w1 w' from by
    rw [← any_pasC]
    refine Cov1_any _ _ (fun x => Pas.lets m r.wth (pasC x)) _ _ _ w1 Tryd.call87 ?_ (HV.out w1 (HFB.out.trans HF1.out)) (HC.out w1 HF1.out).2
    intro x hx u hu
    obtain ⟨p, hp, rfl⟩ := List.mem_map.1 hx
    exact Cov2_any p m r _ _ u (hu.keep HMB.out (fun h => h)) ((HC.out u (HF1.out.trans hu)).1))
  cases hsm : simpleB m
  · cases hml : ps.any (Pas.lets m r.wth)
    · have HR := Lib.hid (show res = false by rw [HRES.out, hsm, hml]; rfl)
      rw [hml] at HC2
      clear hsm hml HRES
      go_wp2_with fail
      refine HC2.out.mono ?_
      rintro e u3 ⟨rfl, hf3⟩
      go_wp2
      go_ret
      exact ⟨by rw [HR.out]; rfl, (HFB.out.trans HF1.out).trans hf3⟩
    · have HRA := Lib.hid (show res = (askedB hs).all (fun h => ps.any (Pas.letsH h r.wth)) by rw [HRES.out, hsm, hml]; rfl)
      rw [hml] at HC2
      clear hsm hml HRES
      go_wp2_with fail
      refine HC2.out.mono ?_
      rintro e u3 ⟨rfl, hf3⟩
      have HF3 := Lib.hid (HF1.out.trans hf3)
      obtain ⟨c9, c10⟩ := HX.out _ HF3.out
      clear hf3 HC2
      go_wp2_with fail
      refine (Asked_any hs _ u3 (HH.out u3 (HFB.out.trans HF3.out)) HZ.out.2.1 HZ.out.2.2).mono ?_
      rintro e u4 ⟨uv, rfl, hst, hf4⟩
      obtain ⟨au, cu, huf⟩ := hst.form
      obtain ⟨nl, hnl⟩ : ∃ nl, nl = askedB hs := ⟨_, rfl⟩
      rw [← hnl] at hst huf HRA
      subst huf
      have HF4 := Lib.hid (HF3.out.trans hf4)
      have HST := Lib.hid hst.at
      clear hf4 hst hnl c9 c10
      go_wp2
      go_loopw [26] (CvRel nl r.wth ps u4) (fun i _ => nl.length - (intOf i).toNat)
      case atStart => exact ⟨0, Nat.zero_le _, rfl, rfl, Fr.refl _ _⟩
      case round =>
        obtain ⟨k, hk, rfl, hall, hfr⟩ := hrel
        have HAL := Lib.hid hall
        clear hall
        by_cases hks : k < nl.length
        · have hki : (k : Int) < (nl.length : Int) := by omega
          rcases HST.out.frNone hfr with ⟨_, _, _, e, _⟩ | ⟨bk, o, c, hf, h1, h2, h3, h4⟩
          · rw [e] at hks; exact absurd hks (Nat.not_lt_zero _)
          · cases hf
            unfold maxLen at h2
            have hat := Lib.hid (List.getElem?_eq_getElem hks)
            have hc := h4 k _ hat.out
            generalize nl[k] = x at hat hc
            clear h4
            obtain ⟨wx, hwx⟩ : ∃ wx, wx = wr.alloc (.cells #[.string x] 9) := ⟨_, rfl⟩
            have hxb : wx.heap[wr.heap.size]? = some (.cells #[.string x] 9 (0, 0)) := by rw [hwx]; exact new_block _ _
            have hfx : Fr noB wr wx := by rw [hwx]; exact (Fr.refl _ _).alloc _
            have HFX := Lib.hid ((HF4.out.trans hfr).trans hfx)
            have HCX := Lib.hid (show Calls Tryd.prog 86 #[.func (.func 88) #[] #[.pointer (some ⟨wr.heap.size, 0, none⟩), .pointer (some ⟨w.heap.size, 0, none⟩)], .pointer (some ⟨w.heap.size + 1, 0, none⟩)] wx fun e w' => e = .returned (.bool (ps.any (Pas.letsH x r.wth))) ∧ Fr noB wx w' from by
              rw [← any_pasC]
              refine Cov1_any _ _ (fun y => Pas.letsH x r.wth (pasC y)) _ _ _ wx Tryd.call88 ?_ (HV.out wx (HFB.out.trans HFX.out)) (HC.out wx HFX.out).2
              intro y hy u hu
              obtain ⟨p, hp, rfl⟩ := List.mem_map.1 hy
              exact Cov3_any p x r _ _ u (hu.keep hxb (fun h => h)) ((HC.out u (HFX.out.trans hu)).1))
            have HWX := Lib.hid hwx
            have HFR := Lib.hid (hfr.trans hfx)
            clear hwx
            cases hany : ps.any (Pas.letsH x r.wth)
            · have HR := Lib.hid (show res = false by rw [HRA.out]; exact cv_all_not hat.out hany)
              rw [hany] at HCX
              clear hany
              go_wp2_with fail
              rw [← HWX.out]
              refine HCX.out.mono ?_
              rintro e u6 ⟨rfl, hf6⟩
              go_wp2
              go_ret
              exact ⟨by rw [HR.out]; rfl, (HFB.out.trans HFX.out).trans hf6⟩
            · have hnx := Lib.hid (cv_take_succ hat.out HAL.out hany)
              rw [hany] at HCX
              clear hany
              go_wp2_with fail
              rw [← HWX.out]
              refine HCX.out.mono ?_
              rintro e u6 ⟨rfl, hf6⟩
              go_wp2
              go_roundw
              case rel => exact ⟨k + 1, by omega, by go_num, hnx.out, HFR.out.trans hf6⟩
              case measure => simp [intOf]; omega
        · have hki : ¬ (k : Int) < (nl.length : Int) := by omega
          have HR := Lib.hid (show res = true by rw [HRA.out]; have h := HAL.out; rwa [List.take_of_length_le (by omega)] at h)
          go_wp2
          go_ret
          exact ⟨by rw [HR.out]; rfl, HFB.out.trans (HF4.out.trans hfr)⟩
  · have HRA := Lib.hid (show res = (askedB hs).all (fun h => ps.any (Pas.letsH h r.wth)) by rw [HRES.out, hsm]; simp)
    clear hsm HRES HC2
    obtain ⟨c9, c10⟩ := HX.out _ HF1.out
    go_wp2_with fail
    refine (Asked_any hs _ w1 (HH.out w1 (HFB.out.trans HF1.out)) HZ.out.2.1 HZ.out.2.2).mono ?_
    rintro e u4 ⟨uv, rfl, hst, hf4⟩
    obtain ⟨au, cu, huf⟩ := hst.form
    obtain ⟨nl, hnl⟩ : ∃ nl, nl = askedB hs := ⟨_, rfl⟩
    rw [← hnl] at hst huf HRA
    subst huf
    have HF4 := Lib.hid (HF1.out.trans hf4)
    have HST := Lib.hid hst.at
    clear hf4 hst hnl c9 c10
    go_wp2
    go_loopw [26] (CvRel nl r.wth ps u4) (fun i _ => nl.length - (intOf i).toNat)
    case atStart => exact ⟨0, Nat.zero_le _, rfl, rfl, Fr.refl _ _⟩
    case round =>
      obtain ⟨k, hk, rfl, hall, hfr⟩ := hrel
      have HAL := Lib.hid hall
      clear hall
      by_cases hks : k < nl.length
      · have hki : (k : Int) < (nl.length : Int) := by omega
        rcases HST.out.frNone hfr with ⟨_, _, _, e, _⟩ | ⟨bk, o, c, hf, h1, h2, h3, h4⟩
        · rw [e] at hks; exact absurd hks (Nat.not_lt_zero _)
        · cases hf
          unfold maxLen at h2
          have hat := Lib.hid (List.getElem?_eq_getElem hks)
          have hc := h4 k _ hat.out
          generalize nl[k] = x at hat hc
          clear h4
          obtain ⟨wx, hwx⟩ : ∃ wx, wx = wr.alloc (.cells #[.string x] 9) := ⟨_, rfl⟩
          have hxb : wx.heap[wr.heap.size]? = some (.cells #[.string x] 9 (0, 0)) := by rw [hwx]; exact new_block _ _
          have hfx : Fr noB wr wx := by rw [hwx]; exact (Fr.refl _ _).alloc _
          have HFX := Lib.hid ((HF4.out.trans hfr).trans hfx)
          have HCX := Lib.hid (show Calls Tryd.prog 86 #[.func (.func 88) #[] #[.pointer (some ⟨wr.heap.size, 0, none⟩), .pointer (some ⟨w.heap.size, 0, none⟩)], .pointer (some ⟨w.heap.size + 1, 0, none⟩)] wx fun e w' => e = .returned (.bool (ps.any (Pas.letsH x r.wth))) ∧ Fr noB wx w' from by
            rw [← any_pasC]
            refine Cov1_any _ _ (fun y => Pas.letsH x r.wth (pasC y)) _ _ _ wx Tryd.call88 ?_ (HV.out wx (HFB.out.trans HFX.out)) (HC.out wx HFX.out).2
            intro y hy u hu
            obtain ⟨p, hp, rfl⟩ := List.mem_map.1 hy
            exact Cov3_any p x r _ _ u (hu.keep hxb (fun h => h)) ((HC.out u (HFX.out.trans hu)).1))
          have HWX := Lib.hid hwx
          have HFR := Lib.hid (hfr.trans hfx)
          clear hwx
          cases hany : ps.any (Pas.letsH x r.wth)
          · have HR := Lib.hid (show res = false by rw [HRA.out]; exact cv_all_not hat.out hany)
            rw [hany] at HCX
            clear hany
            go_wp2_with fail
            rw [← HWX.out]
            refine HCX.out.mono ?_
            rintro e u6 ⟨rfl, hf6⟩
            go_wp2
            go_ret
            exact ⟨by rw [HR.out]; rfl, (HFB.out.trans HFX.out).trans hf6⟩
          · have hnx := Lib.hid (cv_take_succ hat.out HAL.out hany)
            rw [hany] at HCX
            clear hany
            go_wp2_with fail
            rw [← HWX.out]
            refine HCX.out.mono ?_
            rintro e u6 ⟨rfl, hf6⟩
            go_wp2
            go_roundw
            case rel => exact ⟨k + 1, by omega, by go_num, hnx.out, HFR.out.trans hf6⟩
            case measure => simp [intOf]; omega
      · have hki : ¬ (k : Int) < (nl.length : Int) := by omega
        have HR := Lib.hid (show res = true by rw [HRA.out]; have h := HAL.out; rwa [List.take_of_length_le (by omega)] at h)
        go_wp2
        go_ret
        exact ⟨by rw [HR.out]; rfl, HFB.out.trans (HF4.out.trans hfr)⟩

set_option maxRecDepth 100000 in
set_option maxHeartbeats 4000000 in
theorem Needs_any (r : ReqOf Value) (hs : List Prm) (w : World) (hr : PrmsAt w r.heads hs) (hz : ReqOk r hs) :
    Calls Tryd.prog 31 #[.agg r.cells.toArray] w fun e w' => e = .returned (.bool (r.toL hs).needs) ∧ Fr noB w w' := by
  have HRES := Lib.hid (show (r.toL hs).needs = (!r.frm.eqB r.o && !(r.toL hs).covers []) from rfl)
  generalize (r.toL hs).needs = res at HRES ⊢
  have hne := run_neq_ori r.frm r.o
  obtain ⟨wb, hwb⟩ : ∃ wb, wb = w.alloc (.cells r.cells.toArray 67) := ⟨_, rfl⟩
  have hfb : Fr noB w wb := by rw [hwb]; exact (Fr.refl noB w).alloc _
  have hk1 : wb.heap[w.heap.size]? = some (.cells r.cells.toArray 67 (0, 0)) := by rw [hwb]; exact new_block _ _
  have hfld : ∀ i u, r.cells[i]? = some u → wb.cell? ⟨w.heap.size, i, none⟩ = some u := fun i u hu => by
    simp only [World.cell?, hk1]; simpa using hu
  have c1 := hfld 1 _ rfl
  have c2 := hfld 2 _ rfl
  have c3 := hfld 3 _ rfl
  have c4 := hfld 4 _ rfl
  have c5 := hfld 5 _ rfl
  have c6 := hfld 6 _ rfl
  have HCV := Lib.hid (Covers_any r hs (.slice none 0 0) [] wb (RowsAt.frNone hr hfb) (show RowsAt 12 wb _ [] from ⟨by simp, Or.inl ⟨_, _, rfl, rfl, fun _ => rfl⟩⟩) hz)
  have HFB := Lib.hid hfb
  have c7 := hfld 7 _ rfl
  have c8 := hfld 8 _ rfl
  have c9 := hfld 9 _ rfl
  have c10 := hfld 10 _ rfl
  have c11 := hfld 11 _ rfl
  have c12 := hfld 12 _ rfl
  have c0 := hfld 0 _ rfl
  obtain ⟨ah, ch, hhf⟩ := RowsAt.form hr
  rw [List.length_map] at hhf
  have hrc : r.cells = [.int .i64 r.part, .bool r.frm.secure, .string r.frm.host, .int .i64 r.frm.port, .bool r.o.secure, .string r.o.host, .int .i64 r.o.port, .string r.path, .string r.query, .string r.method, .slice ah hs.length ch, .bool r.wth, .string r.body] := by unfold ReqOf.cells; rw [hhf]
  rw [hhf] at c10
  rw [hrc] at HCV hwb ⊢
  have HWB := Lib.hid hwb
  clear hhf hrc hfld hk1 hfb hwb hr hz
  cases e1 : r.frm.eqB r.o
  · have HR := Lib.hid (show res = !(r.toL hs).covers [] by rw [HRES.out, e1]; rfl)
    rw [e1] at hne
    clear HRES e1
    rw [HWB.out] at c0 c1 c2 c3 c4 c5 c6 c7 c8 c9 c10 c11 c12
    go_enter Tryd.func31, Tryd.ntmps31
    go_wp2_with fail
    rw [← HWB.out]
    refine HCV.out.mono ?_
    rintro e u ⟨rfl, hf⟩
    go_wp2
    go_ret
    exact ⟨by rw [HR.out]; rfl, HFB.out.trans hf⟩
  · have HR := Lib.hid (show res = false by rw [HRES.out, e1]; rfl)
    rw [e1] at hne
    clear HRES e1
    rw [HWB.out] at c0 c1 c2 c3 c4 c5 c6 c7 c8 c9 c10 c11 c12
    have HF := Lib.hid (HWB.out ▸ HFB.out)
    go_enter Tryd.func31, Tryd.ntmps31
    go_wp2
    go_ret
    exact ⟨by rw [HR.out]; rfl, HF.out⟩
end Go.Proofs.YtkoobhgedoanhaaDoor

namespace Go.Proofs.YtkoobhgedoanhaaDoor
open Go.RowKit

/-- sizes that a pass among the arguments has -/
def Pas.Sized (p : Pas) : Prop := p.method.size ≤ 140737488351232 ∧ p.head.size ≤ 140737488351232 ∧ p.path.size ≤ 140737488351232 ∧ p.query.size ≤ 140737488351232 ∧ p.o.host.size ≤ 140737488351232 ∧ p.frm.host.size ≤ 140737488351232
def ReqOf.Sized {D : Type} (r : ReqOf D) : Prop := r.method.size ≤ 140737488351232 ∧ r.path.size ≤ 140737488351232 ∧ r.query.size ≤ 140737488351232 ∧ r.o.host.size ≤ 140737488351232 ∧ r.frm.host.size ≤ 140737488351232
end Go.Proofs.YtkoobhgedoanhaaDoor
