/- A row of elements of k cells that is turned in place: what lies behind it. No function of the program in sight. -/
import Derived.Test.YtegbacpenolehaaDoorRowK
import Derived.Sort.OwnSorted
import Derived.Shelf.SlicesQ.Reverse
namespace Go.Proofs.YtegbacpenolehaaDoor
open Go.RowKit Go.Sort

theorem flatK_list {α : Type} [Inhabited α] (enc : α → List Value) (k : Nat) (h0 : 0 < k) (hk : ∀ x, (enc x).length = k) (l : List α) : (flatK enc k l.toArray).toList = (l.map enc).flatten := by
  have hall : ∀ x ∈ l.map enc, x.length = k := fun x hx => by
    obtain ⟨y, _, rfl⟩ := List.mem_map.1 hx
    exact hk y
  have hl : (l.map enc).flatten.length = l.length * k := by rw [flatten_len hall, List.length_map]
  apply List.ext_getElem?
  intro t
  by_cases ht : t < l.length * k
  · have hd : t / k < l.length := Nat.div_lt_of_lt_mul (by rwa [Nat.mul_comm])
    have hm : t % k < k := Nat.mod_lt _ h0
    have e1 := flatten_at (k := k) (xs := l.map enc) hall (j := t / k) (x := enc l[t / k]) (by simp [hd]) (i := t % k) (u := (enc l[t / k])[t % k]'(by rw [hk]; exact hm)) (List.getElem?_eq_getElem _)
    rw [Nat.div_add_mod'] at e1
    rw [e1, Array.getElem?_toList, Array.getElem?_eq_getElem (by simpa using ht)]
    congr 1
    have e2 := get_flatK enc k l.toArray t (by simpa using ht)
    rw [getElem!_pos _ t (by simpa using ht)] at e2
    rw [e2, getElem!_pos l.toArray (t / k) (by simpa using hd), getElem!_pos _ (t % k) (by rw [hk]; exact hm)]
    rfl
  · rw [List.getElem?_eq_none (by simp; omega), List.getElem?_eq_none (by omega)]
theorem take_putId (cur : Array Value) (ts : List Value) (h : ts.length ≤ cur.size) : (putCells id 0 ts.toArray cur).toList.take ts.length = ts := by
  apply List.ext_getElem?
  intro j
  by_cases hj : j < ts.length
  · rw [List.getElem?_take_of_lt hj, Array.getElem?_toList]
    simp [putCells, hj, show j < cur.size by omega]
  · rw [List.getElem?_take_eq_none (by omega), List.getElem?_eq_none (by omega)]
theorem holds_id {w : World} {g : Nat} {cur : Array Value} {e : TypeId} {ts : List Value} (hb : w.heap[g]? = some (.cells cur e (0, 0))) (ht : cur.toList.take ts.length = ts) : Holds id w g 0 ts.toArray := by
  intro j hj
  have hj' : j < ts.length := by simpa using hj
  refine ⟨?_, by simp [World.frozen?, hb]⟩
  have h1 : (cur.toList.take ts.length)[j]? = ts[j]? := by rw [ht]
  rw [List.getElem?_take_of_lt hj'] at h1
  simp only [World.cell?, hb, Nat.zero_add]
  simp only [Option.isSome_none, Bool.false_eq_true, if_false]
  rw [← Array.getElem?_toList, h1]
  simp [hj']
theorem heap_id {w : World} {g n : Nat} {cur : Array Value} {e : TypeId} {fr : Nat × Nat} (d : Array Value) (hb : w.heap[g]? = some (.cells cur e fr)) :
    (putRow id (Sort.ahead w n) g 0 d).heap[g]? = some (.cells (putCells id 0 d cur) e fr) := by
  simp [putRow, mapBlock, Sort.ahead, Array.getElem?_modify, hb, onCells]
theorem grownBy_id {w : World} {g n : Nat} (d : Array Value) : w.grownBy (putRow id (Sort.ahead w n) g 0 d) (some g) := by
  refine ⟨rfl, rfl, rfl, by simp, fun k hk hne => ?_⟩
  have : g ≠ k := fun e => hne (by rw [e])
  simp [putRow, mapBlock, Sort.ahead, Array.getElem?_modify, this]
/-- the same slice owns the turned row -/
theorem OwnRows.turned {base k g cap n : Nat} {e : TypeId} {w : World} {cur : Array Value} {xs ys : List (List Value)} (hx : ∀ x ∈ ys, x.length = k ∧ ∀ u ∈ x, u.oneCell' = true) (hl : ys.length = xs.length) (hg : base ≤ g) (hb : w.heap[g]? = some (.cells cur e (0, 0)))
    (h1 : xs.length ≤ cap) (h2 : cap ≤ maxLen) (h3 : cur.size = cap * k) :
    OwnRows base e k (putRow id (Sort.ahead w n) g 0 ys.flatten.toArray) (.slice (some ⟨g, 0, none⟩) xs.length cap) ys := by
  have hf : ys.flatten.length = ys.length * k := flatten_len (fun x h => (hx x h).1)
  have hle : ys.flatten.length ≤ cur.size := by rw [hf, h3, hl]; exact Nat.mul_le_mul_right _ h1
  refine ⟨hx, hf, .inr ⟨g, cap, _, by rw [hl], hg, heap_id _ hb, by omega, h2, by simp [putCells, h3], ?_⟩⟩
  rw [← hf]
  exact take_putId cur _ hle
/-- the elements of a row, each with its sizes -/
abbrev Elt (k : Nat) := { x : List Value // x.length = k ∧ ∀ u ∈ x, u.oneCell' = true }
instance (k : Nat) : Inhabited (Elt k) := ⟨⟨List.replicate k (.bool false), by simp, by intro u hu; rw [List.eq_of_mem_replicate hu]; rfl⟩⟩
theorem elts {k : Nat} {xs : List (List Value)} (h : ∀ x ∈ xs, x.length = k ∧ ∀ u ∈ x, u.oneCell' = true) : ∃ l : List (Elt k), l.map Subtype.val = xs :=
  ⟨xs.attach.map fun x => ⟨x.1, h x.1 x.2⟩, by rw [List.map_map]; exact List.attach_map_subtype_val xs⟩
end Go.Proofs.YtegbacpenolehaaDoor
