/- Whole structs: into a new block, out of a block, in and out of a row. No program in sight. -/
import Derived.Test.YtkoobhgedoanhaaGreatDoorRowK
import Derived.Deep.MidRow
namespace Go.Proofs.YtkoobhgedoanhaaGreatDoor
open Go.RowKit

/-- stands at the operation o, or fails at once -/
theorem wpList_at {P : Program} {ops : Array Oper} {rest : List Oper} {a : Act} {w : World} {Q : Exit → Act → World → Prop} (o : Oper) (h : wpList P ops Q (o :: rest) a w) : wpList P ops Q (o :: rest) a w := h
/-- the same, in a region that draws its order -/
theorem step_at {P : Program} {ops : Array Oper} {a : Act} {w : World} {K : Act → World → Prop} {Q : Exit → Act → World → Prop} {E : Prop} (o : Oper) (h : if Region.wanted o (yielded ops a.tmps) = true then Oper.wp P o a w K Q else E) : if Region.wanted o (yielded ops a.tmps) = true then Oper.wp P o a w K Q else E := h
/-- a call of a Go function by its contract, in a region that draws its order -/
theorem step_call {P : Program} {ops : Array Oper} {a : Act} {w : World} {K : Act → World → Prop} {Q : Exit → Act → World → Prop} {E : Prop} {o : Oper} (hgd : o.guard = none) (f : FuncId) (args : Array Value) (hrun : (execOp a.eval o).run P w = .ok (.enter f args) w) {Post : Ending → World → Prop} (hc : Calls P f args w Post)
    (h : ∀ e w', Post e w' → ∃ v, e = .returned v ∧ K (a.put o.dst v) w') : if Region.wanted o (yielded ops a.tmps) = true then Oper.wp P o a w K Q else E := by
  have hw : Region.wanted o (yielded ops a.tmps) = true := by simp [Region.wanted, hgd]
  rw [if_pos hw]
  unfold Oper.wp
  rw [hrun, Oper.upon_enter]
  refine hc.mono fun e w' hh => ?_
  obtain ⟨v, rfl, hk⟩ := h e w' hh
  exact hk
theorem setRow_alloc (w : World) (old cells : Array Value) (t : TypeId) : (w.alloc (.cells old t)).setRow w.heap.size cells = w.alloc (.cells cells t) := by
  unfold World.setRow World.alloc
  congr 1
  apply Array.ext
  · simp
  · intro k h1 h2
    simp only [Array.getElem_modify]
    by_cases hk : w.heap.size = k
    · subst hk; simp
    · have : k < w.heap.size := by simp at h2; omega
      simp [hk, Array.getElem_push, this]
/-- x := a struct's value, x's block just laid -/
theorem wpList_store_new {P : Program} {ops : Array Oper} {rest : List Oper} {o : Oper} {a : Act} {w : World} {Q : Exit → Act → World → Prop} (hgd : o.guard = none) (ty : TypeId) (x y : Operand) (ho : o.op = .store ty x y) (old : Array Value)
    (cells : Array Value) (hx : a.eval x = .pointer (some ⟨w.heap.size, 0, none⟩)) (hy : a.eval y = .agg cells)
    (hi : (P.info? ty).map (·.size) = some cells.size) (hold : old.size = cells.size) (h1 : cells.all (·.oneCell') = true)
    (h : wpList P ops Q rest (a.put o.dst undef) (w.alloc (.cells cells ty))) : wpList P ops Q (o :: rest) a (w.alloc (.cells old ty)) := by
  refine wpList_store_row hgd ty x y ho w.heap.size cells hx hy ty old (new_block w _) hi hold h1 ?_
  rw [setRow_alloc]
  exact h
/-- .. as the walk meets it -/
theorem run_storeCells_new {P : Program} (w : World) (t : TypeId) (old : Array Value) (x : List Value) (hold : old.size = x.length) (h1 : ∀ u ∈ x, u.oneCell' = true) :
    Sem.run P (storeCells ⟨w.heap.size, 0, none⟩ x 0) (w.alloc (.cells old t)) = .ok () (w.alloc (.cells x.toArray t)) := by
  have h := run_storeCells_from (P := P) w.heap.size t x 0 old (w.alloc (.cells old t)) (new_block w _) (by omega) h1
  rw [h, List.take_zero, List.nil_append, setRow_alloc]
theorem one_all {k : Nat} {xs : List (List Value)} (h : ∀ x ∈ xs, x.length = k ∧ ∀ u ∈ x, u.oneCell' = true) {x : List Value} (hx : x ∈ xs) : x.toArray.all (·.oneCell') = true := all_oneCell_toArray (h x hx).2

theorem setCell_heap {w : World} {b : Nat} {cur : Array Value} {t : TypeId} {f : Nat × Nat} (h : w.heap[b]? = some (.cells cur t f)) (o : Nat) (v : Value) : (w.setCell ⟨b, o, none⟩ v).heap[b]? = some (.cells (cur.setIfInBounds o v) t f) := by
  simp [World.setCell, Array.getElem?_modify, h]
theorem setCell_other {w : World} {b g : Nat} (hg : g ≠ b) (o : Nat) (v : Value) : (w.setCell ⟨b, o, none⟩ v).heap[g]? = w.heap[g]? := Below.heap_setCell _ _ _ _ hg
theorem setCells_size (b : Nat) : ∀ (vs : List Value) (o : Nat) (w : World), (w.setCells b o vs).heap.size = w.heap.size
  | [], _, _ => rfl
  | v :: r, o, w => by rw [World.setCells, setCells_size b r]; simp [World.setCell]
theorem setCells_other {b g : Nat} (hg : g ≠ b) : ∀ (vs : List Value) (o : Nat) (w : World), (w.setCells b o vs).heap[g]? = w.heap[g]?
  | [], _, _ => rfl
  | v :: r, o, w => by rw [World.setCells, setCells_other hg r, setCell_other hg]
theorem setCells_heap {b : Nat} {t : TypeId} {f : Nat × Nat} : ∀ (vs : List Value) (o : Nat) (w : World) (cur : Array Value), w.heap[b]? = some (.cells cur t f) → o + vs.length ≤ cur.size →
    (w.setCells b o vs).heap[b]? = some (.cells (cur.toList.take o ++ vs ++ cur.toList.drop (o + vs.length)).toArray t f)
  | [], o, w, cur, h, hl => by
    rw [World.setCells, h]
    simp
  | v :: r, o, w, cur, h, hl => by
    simp only [List.length_cons] at hl
    rw [World.setCells, setCells_heap r (o + 1) _ _ (setCell_heap h o v) (by simp; omega)]
    congr 3
    simp only [Array.toList_setIfInBounds, List.length_cons]
    have h1 : (cur.toList.set o v).take (o + 1) = cur.toList.take o ++ [v] := by
      have hlt : o < cur.toList.length := by simp; omega
      rw [List.take_add_one, List.getElem?_set_self hlt, List.take_set_of_le (Nat.le_refl o)]
      rfl
    have h2 : (cur.toList.set o v).drop (o + 1 + r.length) = cur.toList.drop (o + (r.length + 1)) := by
      rw [List.drop_set_of_lt (by omega)]
      congr 1; omega
    rw [h1, h2]
    simp
theorem Fr.setCells {S : Nat → Prop} {a w : World} (h : Fr S a w) {b : Nat} (hb : b < a.heap.size → S b) : ∀ (vs : List Value) (o : Nat), Fr S a (w.setCells b o vs) := by
  intro vs
  induction vs generalizing w with
  | nil => intro o; exact h
  | cons v r ih => intro o; exact ih (h.setCell (p := ⟨b, o, none⟩) hb v) (o + 1)
/-- what a slice literal of one struct lays -/
theorem fold_zip_from : ∀ (y : List Value) (i : Nat) (z : Array Value), i + y.length ≤ z.size → List.foldl (fun cs x => cs.setIfInBounds x.snd x.fst) z (y.zipIdx i) = (z.toList.take i ++ y ++ z.toList.drop (i + y.length)).toArray
  | [], i, z, _ => by simp
  | v :: r, i, z, hl => by
    simp only [List.length_cons] at hl
    rw [List.zipIdx_cons, List.foldl_cons, fold_zip_from r (i + 1) _ (by simp; omega)]
    congr 1
    simp only [Array.toList_setIfInBounds, List.length_cons]
    have h1 : (z.toList.set i v).take (i + 1) = z.toList.take i ++ [v] := by
      have hlt : i < z.toList.length := by simp; omega
      rw [List.take_add_one, List.getElem?_set_self hlt, List.take_set_of_le (Nat.le_refl i)]
      rfl
    have h2 : (z.toList.set i v).drop (i + 1 + r.length) = z.toList.drop (i + (r.length + 1)) := by
      rw [List.drop_set_of_lt (by omega)]
      congr 1; omega
    rw [h1, h2]
    simp
theorem fold_zip (y : List Value) (z : Array Value) (h : z.size = y.length) : List.foldl (fun cs x => cs.setIfInBounds x.snd x.fst) z y.zipIdx = y.toArray := by
  rw [fold_zip_from y 0 z (by omega), List.take_zero, List.nil_append, List.drop_eq_nil_of_le (by simp; omega), List.append_nil]
theorem flatten_set {k : Nat} : ∀ {xs : List (List Value)} (_ : ∀ x ∈ xs, x.length = k) {i : Nat} {y : List Value} (_ : i < xs.length), (xs.set i y).flatten = xs.flatten.take (i * k) ++ y ++ xs.flatten.drop (i * k + k)
  | [], _, i, y, hi => absurd hi (Nat.not_lt_zero _)
  | x :: xs, hl, 0, y, hi => by
    have hx := hl x (by simp)
    simp only [List.set_cons_zero, List.flatten_cons, Nat.zero_mul, List.take_zero, List.nil_append, Nat.zero_add]
    rw [List.drop_append_of_le_length (by omega), List.drop_eq_nil_of_le (by omega)]
    simp
  | x :: xs, hl, i + 1, y, hi => by
    have hx := hl x (by simp)
    have ih := flatten_set (k := k) (xs := xs) (fun z hz => hl z (List.mem_cons_of_mem _ hz)) (i := i) (y := y) (by simpa using hi)
    have e1 : (i + 1) * k = x.length + i * k := by rw [Nat.succ_mul, hx]; omega
    simp only [List.set_cons_succ, List.flatten_cons, ih, e1]
    rw [List.take_length_add_append, show x.length + i * k + k = x.length + (i * k + k) from by omega, List.drop_length_add_append]
    simp
theorem flatten_take {k : Nat} : ∀ {xs : List (List Value)} (_ : ∀ x ∈ xs, x.length = k) (i : Nat), (xs.take i).flatten = xs.flatten.take (i * k)
  | [], _, i => by simp
  | x :: xs, hl, 0 => by simp
  | x :: xs, hl, i + 1 => by
    have hx := hl x (by simp)
    have ih := flatten_take (k := k) (xs := xs) (fun z hz => hl z (List.mem_cons_of_mem _ hz)) i
    rw [List.take_succ_cons, List.flatten_cons, ih, List.flatten_cons, show (i + 1) * k = x.length + i * k from by rw [Nat.succ_mul, hx]; omega, List.take_length_add_append]
theorem splice_take (L : List Value) (a n : Nat) (y : List Value) (ham : a + y.length ≤ n) (hn : n ≤ L.length) : (L.take a ++ y ++ L.drop (a + y.length)).take n = (L.take n).take a ++ y ++ (L.take n).drop (a + y.length) := by
  have hA : (L.take a ++ y).length = a + y.length := by rw [List.length_append, List.length_take]; omega
  rw [List.take_append, List.take_of_length_le (by omega), hA, List.take_take, Nat.min_eq_left (by omega), List.drop_take]
theorem splice_take2 (L : List Value) (a : Nat) (y : List Value) (ham : a + y.length ≤ L.length) : (L.take a ++ y ++ L.drop (a + y.length)).take (a + y.length) = L.take a ++ y := by
  have hA : (L.take a ++ y).length = a + y.length := by rw [List.length_append, List.length_take]; omega
  rw [List.take_append_of_le_length (by omega), List.take_of_length_le (by omega)]
/-- rows of the call's own that lie in a block: it, whole -/
theorem OwnRows.open {base k : Nat} {e : TypeId} {w : World} {v : Value} {xs : List (List Value)} (h : OwnRows base e k w v xs) {g : Nat} (hg : v.ownBlock = some g) :
    ∃ cap cur, v = .slice (some ⟨g, 0, none⟩) xs.length cap ∧ base ≤ g ∧ w.heap[g]? = some (.cells cur e (0, 0)) ∧ xs.length ≤ cap ∧ cap ≤ maxLen ∧ cur.size = cap * k ∧ cur.toList.take (xs.length * k) = xs.flatten := by
  rcases h.2.2 with ⟨hv, _⟩ | ⟨g', cap, cur, hv, h1, h2, h3, h4, h5, h6⟩
  · rw [hv] at hg; simp [Value.ownBlock] at hg
  · rw [hv] at hg; simp [Value.ownBlock] at hg; subst hg
    exact ⟨cap, cur, hv, h1, h2, h3, h4, h5, h6⟩
/-- l[i] = y, in rows of the call's own -/
theorem OwnRows.store {base k : Nat} {e : TypeId} {w : World} {v : Value} {xs : List (List Value)} (h : OwnRows base e k w v xs) {i : Nat} {y : List Value} (hi : i < xs.length) (hy : y.length = k) (hy1 : ∀ u ∈ y, u.oneCell' = true) {g : Nat} (hg : v.ownBlock = some g) :
    OwnRows base e k (w.setCells g (i * k) y) v (xs.set i y) := by
  obtain ⟨cap, cur, hv, h1, h2, h3, h4, h5, h6⟩ := h.open hg
  have hik : i * k + k ≤ xs.length * k := by have : (i + 1) * k ≤ xs.length * k := Nat.mul_le_mul_right _ hi; rw [Nat.succ_mul] at this; exact this
  have hck : xs.length * k ≤ cap * k := Nat.mul_le_mul_right _ h3
  have hxs : ∀ x ∈ xs, x.length = k := fun x hx => (h.1 x hx).1
  have hh := setCells_heap y (i * k) w cur h2 (by omega)
  have hA : (cur.toList.take (i * k)).length = i * k := by rw [List.length_take]; simp; omega
  have hflat : (xs.set i y).flatten = (cur.toList.take (i * k) ++ y ++ cur.toList.drop (i * k + y.length)).take (xs.length * k) := by
    rw [flatten_set hxs hi, ← h6, splice_take _ _ _ _ (by omega) (by simp; omega), hy]
  refine ⟨?_, ?_, Or.inr ⟨g, cap, _, by rw [List.length_set]; exact hv, h1, hh, by rw [List.length_set]; exact h3, h4, ?_, ?_⟩⟩
  · intro x hx
    rcases List.mem_or_eq_of_mem_set hx with hx | rfl
    · exact h.1 x hx
    · exact ⟨hy, hy1⟩
  · rw [hflat, List.length_set, List.length_take, Nat.min_eq_left]
    simp; omega
  · simp; omega
  · rw [List.length_set, hflat]
/-- append(l[:i], ys...) where there is room, or l[:i] (ys empty) -/
theorem OwnRows.splice {base k : Nat} {e : TypeId} {w : World} {v : Value} {xs : List (List Value)} (h : OwnRows base e k w v xs) {i : Nat} {ys : List (List Value)} (hi : i ≤ xs.length) (hy : ∀ y ∈ ys, y.length = k ∧ ∀ u ∈ y, u.oneCell' = true) {g cap : Nat}
    (hg : v = .slice (some ⟨g, 0, none⟩) xs.length cap) (hc : i + ys.length ≤ cap) : OwnRows base e k (w.setCells g (i * k) ys.flatten) (.slice (some ⟨g, 0, none⟩) (i + ys.length) cap) (xs.take i ++ ys) := by
  obtain ⟨cap', cur, hv, h1, h2, h3, h4, h5, h6⟩ := h.open (g := g) (by rw [hg]; rfl)
  rw [hg] at hv; cases hv
  have hys : ys.flatten.length = ys.length * k := flatten_len (fun y hm => (hy y hm).1)
  have hcl : cur.toList.length = cur.size := by simp
  have hik : i * k + ys.length * k ≤ cap * k := by rw [← Nat.add_mul]; exact Nat.mul_le_mul_right _ hc
  have hii : i * k ≤ xs.length * k := Nat.mul_le_mul_right _ hi
  have hh := setCells_heap ys.flatten (i * k) w cur h2 (by omega)
  have hlen : (xs.take i ++ ys).length = i + ys.length := by rw [List.length_append, List.length_take]; omega
  have hxs : ∀ x ∈ xs, x.length = k := fun x hx => (h.1 x hx).1
  have hflat : (xs.take i ++ ys).flatten = (cur.toList.take (i * k) ++ ys.flatten ++ cur.toList.drop (i * k + ys.flatten.length)).take ((i + ys.length) * k) := by
    rw [Nat.add_mul, ← hys, splice_take2 _ _ _ (by rw [hys]; omega), List.flatten_append, flatten_take hxs, ← h6, List.take_take, Nat.min_eq_left hii]
  refine ⟨?_, ?_, Or.inr ⟨g, cap, _, by rw [hlen], h1, hh, by rw [hlen]; exact hc, h4, ?_, ?_⟩⟩
  · intro x hx
    rcases List.mem_append.1 hx with hx | hx
    · exact h.1 x (List.mem_of_mem_take hx)
    · exact hy x hx
  · rw [hflat, hlen, List.length_take, Nat.min_eq_left]
    rw [List.length_append, List.length_append, List.length_take, List.length_drop, hys, Nat.add_mul]; omega
  · rw [List.size_toArray, List.length_append, List.length_append, List.length_take, List.length_drop, hys]; omega
  · rw [hlen, hflat]
theorem OwnRows.cut {base k : Nat} {e : TypeId} {w : World} {v : Value} {xs : List (List Value)} (h : OwnRows base e k w v xs) {i : Nat} (hi : i ≤ xs.length) {g cap : Nat} (hg : v = .slice (some ⟨g, 0, none⟩) xs.length cap) : OwnRows base e k w (.slice (some ⟨g, 0, none⟩) i cap) (xs.take i) := by
  obtain ⟨cap', cur, hv, h1, h2, h3, h4, h5, h6⟩ := h.open (g := g) (by rw [hg]; rfl)
  have hc : cap = cap' := by rw [hg] at hv; cases hv; rfl
  have := h.splice (i := i) (ys := []) hi (fun y hy => by cases hy) hg (by simp; omega)
  simpa [World.setCells] using this
/-- what lies behind the first i rows is none of theirs -/
theorem OwnRows.behind {base k : Nat} {e : TypeId} {w : World} {v : Value} {xs : List (List Value)} (h : OwnRows base e k w v xs) {o : Nat} {vs : List Value} (ho : xs.length * k ≤ o) {g cap : Nat}
    (hg : v = .slice (some ⟨g, 0, none⟩) xs.length cap) (hc : o + vs.length ≤ cap * k) : OwnRows base e k (w.setCells g o vs) v xs := by
  obtain ⟨cap', cur, hv, h1, h2, h3, h4, h5, h6⟩ := h.open (g := g) (by rw [hg]; rfl)
  rw [hg] at hv; cases hv
  have hh := setCells_heap vs o w cur h2 (by omega)
  refine ⟨h.1, h.2.1, Or.inr ⟨g, cap, _, hg, h1, hh, h3, h4, by simp; omega, ?_⟩⟩
  have hA : xs.length * k ≤ (cur.toList.take o).length := by rw [List.length_take]; simp; omega
  rw [List.append_assoc]
  show List.take (xs.length * k) (List.take o cur.toList ++ (vs ++ List.drop (o + vs.length) cur.toList)) = _
  rw [List.take_append_of_le_length hA, List.take_take, Nat.min_eq_left ho, h6]
/-- the cells from row i on are there, and free -/
theorem OwnRows.there {base k : Nat} {e : TypeId} {w : World} {v : Value} {xs : List (List Value)} (h : OwnRows base e k w v xs) {g cap : Nat} (hg : v = .slice (some ⟨g, 0, none⟩) xs.length cap) {o n : Nat} (hn : o + n ≤ cap * k) : w.there g o n := by
  obtain ⟨cap', cur, hv, h1, h2, h3, h4, h5, h6⟩ := h.open (g := g) (by rw [hg]; rfl)
  rw [hg] at hv; cases hv
  intro j hj
  constructor
  · simp only [World.cell?, h2]
    rw [Array.getElem?_eq_getElem (by omega)]; rfl
  · simp [World.frozen?, h2]
/-- two results, the first a struct in its block -/
theorem results_cell_tmp {P : Program} {fn : Func} {p q : Tmp} {ty : TypeId} (h : fn.results = #[.cell p ty, .tmp q]) (tmps : Array Value) (w : World) (g : Nat) (t : TypeId) (cs : Array Value) (fr : Nat × Nat) (d : TypeDesc)
    (hp : tmps.getD p undef = .pointer (some ⟨g, 0, none⟩)) (hg : w.heap[g]? = some (.cells cs t fr))
    (hu : P.underlying ty = some d) (hd : (match d with | .struct _ | .array _ _ => true | _ => false) = true) (hi : (P.info? ty).map (·.size) = some cs.size) :
    (results fn tmps).run P w = .ok (.tuple #[.agg cs, tmps.getD q undef]) w := by
  have hp' : tmps[p]?.getD undef = .pointer (some ⟨g, 0, none⟩) := by simpa using hp
  simp [results, h, hp', asAddr, run_loadVar_row w g t ty cs fr d hg hu hd hi]
theorem new_cells (w : World) (y : List Value) (t : TypeId) : ∀ j u, y[j]? = some u → (w.alloc (.cells y.toArray t)).cell? ((⟨w.heap.size, 0, none⟩ : Addr).add j) = some u := by
  intro j u hj
  have ea : (Addr.add ⟨w.heap.size, 0, none⟩ j) = ⟨w.heap.size, j, none⟩ := by unfold Addr.add; split <;> simp_all
  rw [ea, World.cell?_alloc_mark]
  simpa using hj
end Go.Proofs.YtkoobhgedoanhaaGreatDoor
