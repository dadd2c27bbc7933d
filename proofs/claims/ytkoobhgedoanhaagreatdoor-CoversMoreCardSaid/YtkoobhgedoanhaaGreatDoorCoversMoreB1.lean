/- slices.Grow at nil, an append of rows to own rows, slices.Concat of two slices: at []api.Pass. A row of elements of k cells that is turned in place: what lies behind it. No function of the program in sight. slices.Reverse at passes. The law CoversMore: its walk. The reading of an argument: passes. -/
import Derived.Test.YtkoobhgedoanhaaGreatDoorCB8
import Derived.Test.YtkoobhgedoanhaaGreatDoorCB5
import Derived.Test.YtkoobhgedoanhaaGreatDoorShelf
import Derived.Test.YtkoobhgedoanhaaGreatDoorShelf2
import Derived.Laws.AppendOwnNone
import Derived.Test.YtkoobhgedoanhaaGreatDoorCB4
import Derived.Sort.OwnSorted
import Derived.Shelf.SlicesQ.Reverse
import Derived.Test.YtkoobhgedoanhaaGreatDoorCB12
namespace Go.Proofs.YtkoobhgedoanhaaGreatDoor
open Go.RowKit

theorem info_catA : (Tryz.prog.info? 64).map (fun i => (i.zero, i.size, i.bytes)) = some (some (.agg #[.bool false, .string ⟨#[]⟩, .int .i64 0, .bool false, .string ⟨#[]⟩, .int .i64 0, .string ⟨#[]⟩, .string ⟨#[]⟩, .bool false, .string ⟨#[]⟩, .string ⟨#[]⟩, .int .i64 0]), 12, 144) := by kernel_rfl
theorem GrowA_nil (n : Nat) (w : World) (hn : n < 1000000000) :
    Calls Tryz.prog 85 #[.slice none 0 0, .int .i64 n] w fun e w' => ∃ v, e = .returned v ∧ OwnRows w.heap.size 64 12 w' v [] ∧ Fr noB w w' := by
  by_cases h0 : n = 0
  · subst h0
    exact (Any8.slices_Grow_room Tryz.growA none 0 0 0 w (Nat.le_refl _) (by decide) (by decide) (Nat.le_refl _)).mono fun e w' ⟨he, hw⟩ => ⟨_, he, OwnRows.nil _ _ _ _, hw ▸ Fr.refl _ _⟩
  · obtain ⟨i0, hi, hz0, hz1, hz2⟩ := info_parts info_catA
    have h := Any8.slices_Grow_grow Tryz.growA i0 (.agg #[.bool false, .string ⟨#[]⟩, .int .i64 0, .bool false, .string ⟨#[]⟩, .int .i64 0, .string ⟨#[]⟩, .string ⟨#[]⟩, .bool false, .string ⟨#[]⟩, .string ⟨#[]⟩, .int .i64 0]) hi hz0 (by rw [hz1]; decide) none 0 0 n [] w (Nat.le_refl _) (by omega) (by rw [hz2]; omega) (by omega) (by simp) (fun _ => rfl) (fun a ha => by cases ha)
    refine h.mono fun e w' ⟨he, hw⟩ => ⟨_, he, ⟨fun x hx => (by cases hx), ?_⟩, ?_⟩
    · rw [hw]
      refine ⟨rfl, Or.inr ⟨w.heap.size, _, _, rfl, Nat.le_refl _, new_block w.drew _, Nat.zero_le _, ?_, ?_, by simp⟩⟩
      · exact grownCap_le_maxLen w _ _ _ (by unfold maxLen; omega)
      · show _ = grownCap w (0 + n) 0 64 * 12
        have hg := grownCap_ge w (0 + n) 0 64
        rw [Nat.zero_add] at hg ⊢
        have e1 : (Value.cells (.agg #[.bool false, .string ⟨#[]⟩, .int .i64 0, .bool false, .string ⟨#[]⟩, .int .i64 0, .string ⟨#[]⟩, .string ⟨#[]⟩, .bool false, .string ⟨#[]⟩, .string ⟨#[]⟩, .int .i64 0])).size = 12 := rfl
        show (#[] ++ _ ++ Builtin.zeroCells _ (grownCap w n 0 64 - n)).size = _
        simp [Builtin.zeroCells, e1]
        omega
    · rw [hw]; exact ((Fr.refl _ w).drew).alloc _
set_option maxRecDepth 100000 in
theorem wpList_rowsA {ops : Array Oper} {rest : List Oper} {o : Oper} {a : Act} {Q : Exit → Act → World → Prop} {w : World} (hgd : o.guard = none) (s x : Operand)
    (ho : o.op = .call { callee := .builtin .append, args := #[s, x], argTypes := #[60, 60] }) (base : Nat) (v : Value) (l : List (List Value)) (hs : a.eval s = v) (hown : OwnRows base 64 12 w v l)
    (vx : Value) (m : List (List Value)) (hx : a.eval x = vx) (hm : RowsAt 12 w vx m) (hlen : l.length + m.length < 1000000000) (hbase : base ≤ w.heap.size)
    (h : ∀ v' w', OwnRows base 64 12 w' v' (l ++ m) → w.grownBy w' v.ownBlock → wpList Tryz.prog ops Q rest (a.put o.dst v') w') : wpList Tryz.prog ops Q (o :: rest) a w := by
  obtain ⟨i0, hi, hz0, hz1, hz2⟩ := info_parts info_catA
  obtain ⟨ax, cx, hform⟩ := hm.form
  have HM := hm.1
  cases ax with
  | none =>
    obtain ⟨hm0, h2⟩ : m = [] ∧ cx = 0 := by
      rcases hm.2 with ⟨a', c', hv, hs, hc⟩ | ⟨bk, o', c, hf, _⟩
      · rw [hform] at hv
        injection hv with e1 e2 e3
        exact ⟨hs, e3.trans (hc e1.symm)⟩
      · rw [hform] at hf; injection hf with e1; cases e1
    subst hm0
    have hx' : a.eval x = .slice none 0 0 := by rw [hx, hform, h2]; rfl
    refine wpList_append_own_none hgd s x 60 ho base 64 i0 12 Tryz.underlying60 hi v l.length l.flatten hs hown.2 hx' ?_
    exact h v w (by rw [List.append_nil]; exact hown) ⟨rfl, rfl, rfl, Nat.le_refl _, fun _ _ _ => rfl⟩
  | some ad =>
    have hfl : m.flatten.length = m.length * 12 := flatten_len (fun x hx => (HM x hx).1)
    refine wpList_append_own w hgd s x 60 ho base 64 i0 (.agg #[.bool false, .string ⟨#[]⟩, .int .i64 0, .bool false, .string ⟨#[]⟩, .int .i64 0, .string ⟨#[]⟩, .string ⟨#[]⟩, .bool false, .string ⟨#[]⟩, .string ⟨#[]⟩, .int .i64 0]) 12 144 Tryz.underlying60 hi hz0 hz1 hz2 rfl (by decide) v l.length l.flatten hs hown.2 ad m.length cx m.flatten (hx.trans hform) hfl ?_ ?_ ?_ ?_ hbase ?_
    · intro j u hj
      rcases hm.2 with ⟨_, _, _, e, _⟩ | ⟨bk, o', c, hf, g1, g2, g3, g4⟩
      · subst e; simp at hj
      · rw [hf] at hform; cases hform
        have hjl := (List.getElem?_eq_some_iff.1 hj).1
        have hd : j / 12 < m.length := by omega
        have hmo : j % 12 < 12 := by omega
        have hxl : (m[j / 12]).length = 12 := (HM _ (List.getElem_mem hd)).1
        have e1 := flatten_at (k := 12) (xs := m) (fun x hx => (HM x hx).1) (j := j / 12) (List.getElem?_eq_getElem hd) (i := j % 12) (List.getElem?_eq_getElem (by rw [hxl]; exact hmo))
        rw [Nat.div_add_mod'] at e1
        rw [e1] at hj
        cases hj
        have := g4 (j / 12) _ (List.getElem?_eq_getElem hd) (j % 12) _ (List.getElem?_eq_getElem (by rw [hxl]; exact hmo))
        have ea : (Addr.add ⟨bk, o', none⟩ j) = ⟨bk, o' + j, none⟩ := by unfold Addr.add; split <;> simp_all
        rw [ea, ← this]
        congr 2
        omega
    · intro u hu
      obtain ⟨y, hy, huy⟩ := List.mem_flatten.1 hu
      exact (HM y hy).2 u huy
    · unfold maxLen; omega
    · omega
    · intro v' w' h1 h2 _
      refine h v' w' ⟨fun y hy => ?_, by simpa using h1⟩ h2
      rcases List.mem_append.1 hy with hy | hy
      · exact hown.1 y hy
      · exact HM y hy
set_option maxRecDepth 100000 in
set_option maxHeartbeats 2000000 in
theorem Concat_A (g : Nat) (x y : Value) (xs ys : List (List Value)) (w : World) (hg : w.heap[g]? = some (.cells #[x, y] 60 (0, 0))) (hx : RowsAt 12 w x xs) (hy : RowsAt 12 w y ys) (hl : xs.length + ys.length < 1000000000) :
    Calls Tryz.prog 32 #[.slice (some ⟨g, 0, none⟩) 2 2] w fun e w' => ∃ v, e = .returned v ∧ OwnRows w.heap.size 64 12 w' v (xs ++ ys) ∧ Fr noB w w' := by
  obtain ⟨ax, cx, fx⟩ := hx.form
  obtain ⟨ay, cy, fy⟩ := hy.form
  subst fx
  subst fy
  have c0 : w.cell? ⟨g, 0, none⟩ = some (.slice ax xs.length cx) := by simp [World.cell?, hg]
  have c1 : w.cell? ⟨g, 1, none⟩ = some (.slice ay ys.length cy) := by simp [World.cell?, hg]
  have hgl : g < w.heap.size := lt_of_some hg
  go_enter Tryz.func32, Tryz.ntmps32
  go_wp2
  refine wp_loop_rounds 3 ?_
  rw [rounds_succ]
  go_wp2_with fail
  rw [rounds_succ]
  go_wp2_with fail
  rw [rounds_succ]
  go_wp2_with fail
  refine (GrowA_nil (xs.length + ys.length) w hl).mono ?_
  rintro e w1 ⟨v, rfl, ho1, hf1⟩
  have c0' : w1.cell? ⟨g, 0, none⟩ = some (.slice ax xs.length cx) := by rw [hf1.cell hgl (fun h => h)]; exact c0
  have c1' : w1.cell? ⟨g, 1, none⟩ = some (.slice ay ys.length cy) := by rw [hf1.cell hgl (fun h => h)]; exact c1
  have hx1 := RowsAt.frNone hx hf1
  have hs1 := hf1.size
  obtain ⟨va, vc, hvf⟩ := ho1.form
  subst hvf
  go_wp2
  refine wp_loop_rounds 3 ?_
  rw [rounds_succ]
  go_wp2_with (at_builtin; refine wpList_rowsA rfl _ _ rfl w.heap.size _ [] rfl ho1 (.slice ax xs.length cx) xs rfl hx1 (by simp; omega) (by omega) ?_; intro v2 w2 ho2 hg2)
  have hf2 := hf1.grownNew hg2 (fun k hk => ho1.block k hk)
  have c1'' : w2.cell? ⟨g, 1, none⟩ = some (.slice ay ys.length cy) := by rw [hf2.cell hgl (fun h => h)]; exact c1
  have hy2 := RowsAt.frNone hy hf2
  have hs2 := hf2.size
  obtain ⟨va2, vc2, hvf⟩ := ho2.form
  subst hvf
  go_wp2
  rw [rounds_succ]
  go_wp2_with (at_builtin; refine wpList_rowsA rfl _ _ rfl w.heap.size _ ([] ++ xs) rfl ho2 (.slice ay ys.length cy) ys rfl hy2 (by simp; omega) (by omega) ?_; intro v3 w3 ho3 hg3)
  have hf3 := hf2.grownNew hg3 (fun k hk => ho2.block k hk)
  obtain ⟨va3, vc3, hvf⟩ := ho3.form
  subst hvf
  go_wp2
  rw [rounds_succ]
  go_wp2
  go_ret
  rw [List.nil_append] at ho3
  exact ⟨_, rfl, ho3, hf3⟩
end Go.Proofs.YtkoobhgedoanhaaGreatDoor

namespace Go.Proofs.YtkoobhgedoanhaaGreatDoor
open Go.RowKit Go.Sort

theorem flatK_list {α : Type} [Inhabited α] (enc : α → List Value) (k : Nat) (h0 : 0 < k) (hk : ∀ x, (enc x).length = k) (l : List α) : (flatK enc k l.toArray).toList = (l.map enc).flatten := by
  have hall : ∀ x ∈ l.map enc, x.length = k := fun x hx => by
    obtain ⟨y, _, rfl⟩ := List.mem_map.1 hx
    exact hk y
  have hl : (l.map enc).flatten.length = l.length * k := by rw [flatten_len hall, List.length_map]
  apply List.ext_getElem?
  intro t
  by_cases ht : t < l.length * k
  · have hd : t / k < l.length := Nat.div_lt_of_lt_mul (by rwa [Nat.mul_comm])
    have hm : t % k < k := Nat.mod_lt _ h0
    have e1 := flatten_at (k := k) (xs := l.map enc) hall (j := t / k) (x := enc l[t / k]) (by simp [hd]) (i := t % k) (u := (enc l[t / k])[t % k]'(by rw [hk]; exact hm)) (List.getElem?_eq_getElem _)
    rw [Nat.div_add_mod'] at e1
    rw [e1, Array.getElem?_toList, Array.getElem?_eq_getElem (by simpa using ht)]
    congr 1
    have e2 := get_flatK enc k l.toArray t (by simpa using ht)
    rw [getElem!_pos _ t (by simpa using ht)] at e2
    rw [e2, getElem!_pos l.toArray (t / k) (by simpa using hd), getElem!_pos _ (t % k) (by rw [hk]; exact hm)]
    rfl
  · rw [List.getElem?_eq_none (by simp; omega), List.getElem?_eq_none (by omega)]
theorem take_putId (cur : Array Value) (ts : List Value) (h : ts.length ≤ cur.size) : (putCells id 0 ts.toArray cur).toList.take ts.length = ts := by
  apply List.ext_getElem?
  intro j
  by_cases hj : j < ts.length
  · rw [List.getElem?_take_of_lt hj, Array.getElem?_toList]
    simp [putCells, hj, show j < cur.size by omega]
  · rw [List.getElem?_take_eq_none (by omega), List.getElem?_eq_none (by omega)]
theorem holds_id {w : World} {g : Nat} {cur : Array Value} {e : TypeId} {ts : List Value} (hb : w.heap[g]? = some (.cells cur e (0, 0))) (ht : cur.toList.take ts.length = ts) : Holds id w g 0 ts.toArray := by
  intro j hj
  have hj' : j < ts.length := by simpa using hj
  refine ⟨?_, by simp [World.frozen?, hb]⟩
  have h1 : (cur.toList.take ts.length)[j]? = ts[j]? := by rw [ht]
  rw [List.getElem?_take_of_lt hj'] at h1
  simp only [World.cell?, hb, Nat.zero_add]
  simp only [Option.isSome_none, Bool.false_eq_true, if_false]
  rw [← Array.getElem?_toList, h1]
  simp [hj']
theorem heap_id {w : World} {g n : Nat} {cur : Array Value} {e : TypeId} {fr : Nat × Nat} (d : Array Value) (hb : w.heap[g]? = some (.cells cur e fr)) :
    (putRow id (Sort.ahead w n) g 0 d).heap[g]? = some (.cells (putCells id 0 d cur) e fr) := by
  simp [putRow, mapBlock, Sort.ahead, Array.getElem?_modify, hb, onCells]
theorem grownBy_id {w : World} {g n : Nat} (d : Array Value) : w.grownBy (putRow id (Sort.ahead w n) g 0 d) (some g) := by
  refine ⟨rfl, rfl, rfl, by simp, fun k hk hne => ?_⟩
  have : g ≠ k := fun e => hne (by rw [e])
  simp [putRow, mapBlock, Sort.ahead, Array.getElem?_modify, this]
/-- the same slice owns the turned row -/
theorem OwnRows.turned {base k g cap n : Nat} {e : TypeId} {w : World} {cur : Array Value} {xs ys : List (List Value)} (hx : ∀ x ∈ ys, x.length = k ∧ ∀ u ∈ x, u.oneCell' = true) (hl : ys.length = xs.length) (hg : base ≤ g) (hb : w.heap[g]? = some (.cells cur e (0, 0)))
    (h1 : xs.length ≤ cap) (h2 : cap ≤ maxLen) (h3 : cur.size = cap * k) :
    OwnRows base e k (putRow id (Sort.ahead w n) g 0 ys.flatten.toArray) (.slice (some ⟨g, 0, none⟩) xs.length cap) ys := by
  have hf : ys.flatten.length = ys.length * k := flatten_len (fun x h => (hx x h).1)
  have hle : ys.flatten.length ≤ cur.size := by rw [hf, h3, hl]; exact Nat.mul_le_mul_right _ h1
  refine ⟨hx, hf, .inr ⟨g, cap, _, by rw [hl], hg, heap_id _ hb, by omega, h2, by simp [putCells, h3], ?_⟩⟩
  rw [← hf]
  exact take_putId cur _ hle
/-- the elements of a row, each with its sizes -/
abbrev Elt (k : Nat) := { x : List Value // x.length = k ∧ ∀ u ∈ x, u.oneCell' = true }
instance (k : Nat) : Inhabited (Elt k) := ⟨⟨List.replicate k (.bool false), by simp, by intro u hu; rw [List.eq_of_mem_replicate hu]; rfl⟩⟩
theorem elts {k : Nat} {xs : List (List Value)} (h : ∀ x ∈ xs, x.length = k ∧ ∀ u ∈ x, u.oneCell' = true) : ∃ l : List (Elt k), l.map Subtype.val = xs :=
  ⟨xs.attach.map fun x => ⟨x.1, h x.1 x.2⟩, by rw [List.map_map]; exact List.attach_map_subtype_val xs⟩
end Go.Proofs.YtkoobhgedoanhaaGreatDoor

namespace Go.Proofs.YtkoobhgedoanhaaGreatDoor
open Go.RowKit Go.Sort

theorem Reverse_A (base : Nat) (v : Value) (xs : List (List Value)) (w : World) (h : OwnRows base 64 12 w v xs) (hl : xs.length ≤ 1000000000) :
    Calls Tryz.prog 33 #[v] w fun e w' => e = .returned (.tuple #[]) ∧ OwnRows base 64 12 w' v xs.reverse ∧ w.grownBy w' v.ownBlock := by
  rcases h.2.2 with ⟨rfl, h0⟩ | ⟨g, cap, cur, rfl, hg, hb, h1, h2, h3, h4⟩
  · obtain rfl : xs = [] := List.length_eq_zero_iff.1 h0
    refine (AnyQ.slices_Reverse_empty Tryz.revA none 0 w).mono ?_
    rintro e w' ⟨rfl, rfl⟩
    exact ⟨rfl, h, ⟨rfl, rfl, rfl, Nat.le_refl _, fun _ _ _ => rfl⟩⟩
  · have hx := h.1
    obtain ⟨l, hll⟩ := elts hx
    have hsz : l.toArray.size = xs.length := by rw [← hll]; simp
    have hfl : (flatK (Subtype.val : Elt 12 → List Value) 12 l.toArray) = xs.flatten.toArray := by
      apply Array.ext'
      rw [flatK_list Subtype.val 12 (by decide) (fun x => x.2.1) l, hll]
    have hfr : (flatK (Subtype.val : Elt 12 → List Value) 12 l.toArray.reverse) = xs.reverse.flatten.toArray := by
      apply Array.ext'
      rw [show l.toArray.reverse = l.reverse.toArray by simp, flatK_list Subtype.val 12 (by decide) (fun x => x.2.1) l.reverse, List.map_reverse, hll]
    have hlen : xs.flatten.length = xs.length * 12 := flatten_len (fun x hx' => (hx x hx').1)
    have hH : HoldsK (Subtype.val : Elt 12 → List Value) 12 w g 0 l.toArray := by
      unfold HoldsK
      rw [hfl]
      exact holds_id hb (by rw [hlen]; exact h4)
    have := AnyQ.slices_Reverse Tryz.revA 12 Tryz.isAgg64 Tryz.sizeOf64 (Subtype.val : Elt 12 → List Value) (fun x => x.2.1) (fun x => x.2.2) g 0 cap l.toArray w hH (by omega)
    rw [hsz] at this
    refine this.mono ?_
    rintro e w' ⟨rfl, n, rfl⟩
    unfold putRowK
    rw [hfr]
    exact ⟨rfl, OwnRows.turned (fun x hx' => hx x (by simpa using hx')) (by simp) hg hb h1 h2 h3, grownBy_id _⟩
end Go.Proofs.YtkoobhgedoanhaaGreatDoor

namespace Go.Proofs.YtkoobhgedoanhaaGreatDoor
open Go.RowKit

theorem RowsAt.dropOne {k : Nat} {w : World} {bk o n c : Nat} {x : List Value} {xs : List (List Value)} (h : RowsAt k w (.slice (some ⟨bk, o, none⟩) (n + 1) c) (x :: xs)) : RowsAt k w (.slice (some ⟨bk, o + k, none⟩) n (c - 1)) xs := by
  refine ⟨fun y hy => h.1 y (List.mem_cons_of_mem _ hy), ?_⟩
  rcases h.2 with ⟨a, c', hv, hs, _⟩ | ⟨bk', o', c', hv, h1, h2, h3, h4⟩
  · cases hs
  · cases hv
    rw [List.length_cons] at h1
    refine Or.inr ⟨bk, o + k, c - 1, rfl, by omega, by omega, h3, fun j y hj i u hi => ?_⟩
    have := h4 (j + 1) y (by simpa using hj) i u hi
    rw [← this]
    congr 2
    rw [Nat.succ_mul]
    omega
theorem more_law {r : ReqL} {ls ms : List Pas} (h : r.covers ls = true) : r.covers (ms ++ ls).reverse = true :=
  coversB_more h (fun _ hp => List.mem_reverse.2 (List.mem_append_right _ hp)) (fun _ h => h)
theorem less_law {r : ReqL} {p : Prm} {hs : List Prm} {ls : List Pas} (hr : r.heads = p :: hs) (h : r.covers ls = true) : ({ r with heads := hs } : ReqL).covers ls = true :=
  coversB_more h (fun _ hp => hp) (fun x hx => by rw [hr]; exact askedB_tail p hs x hx)
set_option maxHeartbeats 2000000 in
set_option maxRecDepth 100000 in
theorem CoversMore_walk (r : ReqOf Value) (hs : List Prm) (v1 : Value) (ls : List Pas) (v2 : Value) (ms : List Pas) (w : World) (st0 : ReqFit w r hs) (st1 : PasAt w v1 ls ∧ ls.length ≤ 140737488355328 ∧ ∀ p ∈ ls, p.Sized) (st2 : PasAt w v2 ms ∧ ms.length ≤ 140737488355328 ∧ ∀ p ∈ ms, p.Sized) (ht : PwTab w) :
    Calls Tryz.prog 9 #[.agg r.cells.toArray, v1, v2] w fun e w' => e = .returned (.bool true) ∧ Below w.heap.size w w' := by
  obtain ⟨h2, l2, z2, z3, _, _, _, _⟩ := st0
  obtain ⟨g1, l1, _⟩ := st1
  obtain ⟨g3, l3, _⟩ := st2
  obtain ⟨w1, hw1⟩ : ∃ w1, w1 = w.alloc (.cells r.cells.toArray 53) := ⟨_, rfl⟩
  have hfb : Fr noB w w1 := by rw [hw1]; exact (Fr.refl noB w).alloc _
  have hk1 : w1.heap[w.heap.size]? = some (.cells r.cells.toArray 53 (0, 0)) := by rw [hw1]; exact new_block _ _
  obtain ⟨a1, c1, hf1⟩ := RowsAt.form g1
  obtain ⟨a2, c2, hf2⟩ := RowsAt.form g3
  rw [List.length_map] at hf1 hf2
  subst hf1 hf2
  have HX := Lib.hid (show ∀ U, Fr noB w1 U → ReqLie U w.heap.size r from fun U hU => ReqLie.blk (hU.keep hk1 (fun h => h)))
  have HL := Lib.hid (show ∀ U, Fr noB w1 U → PasAt U (.slice a1 ls.length c1) ls from fun U hU => RowsAt.frNone g1 (hfb.trans hU))
  have HM := Lib.hid (show ∀ U, Fr noB w1 U → PasAt U (.slice a2 ms.length c2) ms from fun U hU => RowsAt.frNone g3 (hfb.trans hU))
  have HRF := Lib.hid (show ∀ U, Fr noB w1 U → Calls Tryz.prog 23 #[.agg r.cells.toArray] U fun e w' => e = .returned (.bool (rightfulB r hs)) ∧ Fr noB U w' from fun U hU => rightful_any r hs U (RowsAt.frNone h2 (hfb.trans hU)) l2 z2 z3)
  have HCV := Lib.hid (show rightfulB r hs = true → ∀ U, Fr noB w1 U → Calls Tryz.prog 30 #[.agg r.cells.toArray, .slice a1 ls.length c1] U fun e w' => e = .returned (.bool ((r.toL hs).covers ls)) ∧ Fr noB U w' from fun hz U hU => Covers_any r hs _ ls U (RowsAt.frNone h2 (hfb.trans hU)) (HL.out U hU) (ReqOk.ofR hz))
  have HCA := Lib.hid (show rightfulB r hs = true → (r.toL hs).covers ls = true → ∀ U v, Fr noB w1 U → PasAt U v (ms ++ ls).reverse → Calls Tryz.prog 30 #[.agg r.cells.toArray, v] U fun e w' => e = .returned (.bool true) ∧ Fr noB U w' from fun hz hc U v hU hv => by
    have h := Covers_any r hs v _ U (RowsAt.frNone h2 (hfb.trans hU)) hv (ReqOk.ofR hz)
    rw [more_law hc] at h; exact h)
  have HCL := Lib.hid (show rightfulB r hs = true → (r.toL hs).covers ls = true → ∀ p t, hs = p :: t → ∀ U v, Fr noB w1 U → PrmsAt U v t → Calls Tryz.prog 30 #[.agg ({ r with heads := v } : ReqOf Value).cells.toArray, .slice a1 ls.length c1] U fun e w' => e = .returned (.bool true) ∧ Fr noB U w' from fun hz hc p t e U v hU hv => by
    have hok := ReqOk.ofR hz
    subst e
    have h := Covers_any { r with heads := v } t _ ls U hv (HL.out U hU) ⟨hok.1, by have := hok.2.1; simp at this; omega, fun q hq => hok.2.2 q (List.mem_cons_of_mem _ hq)⟩
    have e2 := less_law (r := r.toL (p :: t)) rfl hc
    have e3 : (({ r with heads := v } : ReqOf Value).toL t).covers ls = true := e2
    rw [e3] at h; exact h)
  have HH := Lib.hid (show ∀ U, Fr noB w1 U → PrmsAt U r.heads hs from fun U hU => RowsAt.frNone h2 (hfb.trans hU))
  obtain ⟨ah, ch, hhf⟩ := RowsAt.form h2
  rw [List.length_map] at hhf
  have HTL := Lib.hid (show 0 < hs.length → ∃ bk o, ah = some ⟨bk, o, none⟩ ∧ hs.length ≤ ch ∧ (rightfulB r hs = true → (r.toL hs).covers ls = true → ∀ U, Fr noB w1 U → Calls Tryz.prog 30 #[.agg ({ r with heads := .slice (some ⟨bk, o + 2, none⟩) (hs.length - 1) (ch - 1) } : ReqOf Value).cells.toArray, .slice a1 ls.length c1] U fun e w' => e = .returned (.bool true) ∧ Fr noB U w') ∧ (hs.length = 1 → rightfulB r hs = true → (r.toL hs).covers ls = true → ∀ U, Fr noB w1 U → Calls Tryz.prog 30 #[.agg ({ r with heads := .slice (some ⟨bk, o, none⟩) 0 0 } : ReqOf Value).cells.toArray, .slice a1 ls.length c1] U fun e w' => e = .returned (.bool true) ∧ Fr noB U w') from by
    intro h0
    obtain ⟨p, t, rfl⟩ : ∃ p t, hs = p :: t := by
      cases hs with
      | nil => simp at h0
      | cons p t => exact ⟨p, t, rfl⟩
    have hh := HH.out w1 (Fr.refl _ _)
    rw [hhf] at hh
    obtain ⟨bk, o, rfl, hle⟩ : ∃ bk o, ah = some ⟨bk, o, none⟩ ∧ (p :: t).length ≤ ch := by
      rcases hh.2 with ⟨_, _, _, e, _⟩ | ⟨bk, o, c, e, g, _⟩
      · cases e
      · injection e with e1 e2 e3
        rw [List.length_map] at g
        exact ⟨bk, o, e1, by rw [e3]; exact g⟩
    have e : (p :: t).length - 1 = t.length := by simp
    rw [e]
    refine ⟨bk, o, rfl, hle, fun hz hc U hU => ?_, fun h1 hz hc U hU => ?_⟩
    · exact HCL.out hz hc p t rfl U _ hU (RowsAt.dropOne (by have h := HH.out U hU; rw [hhf] at h; exact h))
    · obtain rfl : t = [] := by simpa using h1
      exact HCL.out hz hc p [] rfl U _ hU ⟨by simp, Or.inl ⟨_, _, rfl, rfl, fun e => by cases e⟩⟩
    )
  clear HCL HH
  have hst := fun W => run_storeCells_new (P := Tryz.prog) W 53 #[.int .i64 0, .bool false, .string ⟨#[]⟩, .int .i64 0, .bool false, .string ⟨#[]⟩, .int .i64 0, .string ⟨#[]⟩, .string ⟨#[]⟩, .string ⟨#[]⟩, .slice none 0 0, .bool false, .string ⟨#[]⟩] r.cells rfl (by unfold ReqOf.cells; rw [hhf]; simp [Value.oneCell'])
  have HFB := Lib.hid hfb
  clear h2 l2 z2 z3 hk1 hfb g1 g3
  generalize (r.toL hs).covers ls = cv at *
  generalize rightfulB r hs = rf at *
  obtain ⟨part, ⟨fs, fh, fp⟩, ⟨os, oh, op⟩, path, query, method, heads, wth, body⟩ := r
  simp only at hhf
  subst hhf
  have hx := HX
  unfold ReqLie at hx
  unfold ReqOf.cells at hst hw1 HRF HCV HCA HTL ⊢
  dsimp only at hx hst hw1 HRF HCV HCA HTL ⊢
  clear HX
  generalize hs.length = n at *
  go_enter Tryz.func9, Tryz.ntmps9
  go_wp2_with fail
  rw [← hw1]
  clear hw1
  refine (granted_any w1 (ht.fr HFB.out)).mono ?_
  rintro e u1 ⟨rfl, hu1⟩
  have HU1 := Lib.hid hu1
  obtain ⟨e0, e1, e2, e3, e4, e5, e6, e7, e8, e9, e10, e11, e12⟩ := hx.out u1 hu1
  clear hu1
  go_wp2_with fail
  refine (HRF.out u1 HU1.out).mono ?_
  rintro e u2 ⟨rfl, hu2⟩
  have HU2 := Lib.hid (HU1.out.trans hu2)
  clear hu2 e0 e1 e2 e3 e4 e5 e6 e7 e8 e9 e10 e11 e12
  cases rf
  · go_wp2
    go_ret
    exact ⟨rfl, (HFB.out.trans HU2.out).none_below⟩
  replace HCV := Lib.hid (HCV.out (by simp))
  replace HCA := Lib.hid (HCA.out (by simp))
  have hwr : IntKind.i64.wrap ((ls.length : Int) + (ms.length : Int)) = (ls.length : Int) + (ms.length : Int) := by rw [IntWalk.i64_left]; exact IntWalk.wrap64_in _ (by omega)
  by_cases h60 : 60 < ls.length + ms.length
  · have i60 : (60 : Int) < (ls.length : Int) + (ms.length : Int) := by omega
    go_wp2
    go_ret
    exact ⟨rfl, (HFB.out.trans HU2.out).none_below⟩
  have i60 : ¬ (60 : Int) < (ls.length : Int) + (ms.length : Int) := by omega
  go_wp2_with fail
  obtain ⟨w3, hw3⟩ : ∃ w3, w3 = u2.alloc (.cells #[.slice a2 ms.length c2, .slice a1 ls.length c1] 60) := ⟨_, rfl⟩
  have hf3 : Fr noB u2 w3 := by rw [hw3]; exact (Fr.refl _ _).alloc _
  have hg3 : w3.heap[u2.heap.size]? = some (.cells #[.slice a2 ms.length c2, .slice a1 ls.length c1] 60 (0, 0)) := by rw [hw3]; exact new_block _ _
  have HU3 := Lib.hid (HU2.out.trans hf3)
  have hcc := Concat_A u2.heap.size _ _ _ _ w3 hg3 (HM.out w3 HU3.out) (HL.out w3 HU3.out) (by simp; omega)
  rw [← hw3]
  clear hw3 hf3 hg3
  refine hcc.mono ?_
  clear hcc
  rintro e u4 ⟨v4, rfl, ho4, hf4⟩
  rw [← List.map_append] at ho4
  have HU4 := Lib.hid (HU3.out.trans hf4)
  obtain ⟨a4, c4, hv4⟩ := ho4.form
  rw [List.length_map] at hv4
  subst hv4
  have hrv := Reverse_A _ _ _ u4 ho4 (by simp; omega)
  have HO4 := Lib.hid ho4
  clear ho4
  generalize (ms ++ ls).length = N at *
  go_wp2_with fail
  refine hrv.mono ?_
  rintro e u5 ⟨rfl, ho5, hg5⟩
  have HU5 := Lib.hid (HU3.out.trans (hf4.grownNew hg5 HO4.out.block))
  rw [← List.map_reverse] at ho5
  have HALL := Lib.hid ho5.at
  clear hrv HO4 hf4 ho5 hg5
  obtain ⟨e0, e1, e2, e3, e4, e5, e6, e7, e8, e9, e10, e11, e12⟩ := hx.out u5 HU5.out
  go_wp2_with fail
  refine (HCV.out u5 HU5.out).mono ?_
  rintro e u6 ⟨rfl, hu6⟩
  have HU6 := Lib.hid (HU5.out.trans hu6)
  have HALL6 := Lib.hid (show PasAt u6 (.slice a4 N c4) (ms ++ ls).reverse from RowsAt.frNone HALL.out hu6)
  clear hu6 HALL e0 e1 e2 e3 e4 e5 e6 e7 e8 e9 e10 e11 e12
  obtain ⟨e0, e1, e2, e3, e4, e5, e6, e7, e8, e9, e10, e11, e12⟩ := hx.out u6 HU6.out
  cases cv
  · clear HCA HALL6
    rcases Nat.eq_zero_or_pos n with hn | hn
    · clear HTL
      have in0 : ¬ (0 : Int) < (n : Int) := by omega
      clear hn
      obtain ⟨q0, q1, q2, q3, q4, q5, q6, q7, q8, q9, q10, q11, q12⟩ := hx.out _ (show Fr noB w1 (u6.alloc (.cells #[.int .i64 part, .bool fs, .string fh, .int .i64 fp, .bool os, .string oh, .int .i64 op, .string path, .string query, .string method, .slice ah n ch, .bool wth, .string body] 53)) from HU6.out.alloc _)
      go_wp2_with fail
      obtain ⟨w8, hw8⟩ : ∃ w8, w8 = u6.alloc (.cells #[.int .i64 part, .bool fs, .string fh, .int .i64 fp, .bool os, .string oh, .int .i64 op, .string path, .string query, .string method, .slice ah n ch, .bool wth, .string body] 53) := ⟨_, rfl⟩
      have HW8 := Lib.hid (show Fr noB w1 w8 from by rw [hw8]; exact HU6.out.alloc _)
      rw [← hw8]
      clear hw8 hst e0 e1 e2 e3 e4 e5 e6 e7 e8 e9 e10 e11 e12 q0 q1 q2 q3 q4 q5 q6 q7 q8 q9 q10 q11 q12
      refine (HCV.out w8 HW8.out).mono ?_
      rintro e u9 ⟨rfl, hu9⟩
      have HU9 := Lib.hid (HW8.out.trans hu9)
      go_wp2
      go_ret
      exact ⟨rfl, (HFB.out.trans HU9.out).none_below⟩
    · obtain ⟨bk, o, rfl, hle, htt, htu⟩ := HTL.out hn
      have in0 : (0 : Int) < (n : Int) := by omega
      have in1 : (1 : Int) ≤ (n : Int) := by omega
      rcases Nat.lt_or_ge 1 ch with hc | hc
      · clear htt htu HTL
        have hc1 : ¬ ch = 1 := by omega
        have hc2 : ¬ ch - 1 = 0 := by omega
        obtain ⟨q0, q1, q2, q3, q4, q5, q6, q7, q8, q9, q10, q11, q12⟩ := hx.out _ (show Fr noB w1 (u6.alloc (.cells #[.int .i64 part, .bool fs, .string fh, .int .i64 fp, .bool os, .string oh, .int .i64 op, .string path, .string query, .string method, .slice (some ⟨bk, o, none⟩) n ch, .bool wth, .string body] 53)) from HU6.out.alloc _)
        obtain ⟨p0, p1, p2, p3, p4, p5, p6, p7, p8, p9, p10, p11, p12⟩ := hx.out _ (show Fr noB w1 (u6.alloc (.cells #[.int .i64 part, .bool fs, .string fh, .int .i64 fp, .bool os, .string oh, .int .i64 op, .string path, .string query, .string method, .slice (some ⟨bk, o + 2, none⟩) (n - 1) (ch - 1), .bool wth, .string body] 53)) from HU6.out.alloc _)
        go_wp2_with fail
        obtain ⟨w8, hw8⟩ : ∃ w8, w8 = u6.alloc (.cells #[.int .i64 part, .bool fs, .string fh, .int .i64 fp, .bool os, .string oh, .int .i64 op, .string path, .string query, .string method, .slice (some ⟨bk, o + 2, none⟩) (n - 1) (ch - 1), .bool wth, .string body] 53) := ⟨_, rfl⟩
        have HW8 := Lib.hid (show Fr noB w1 w8 from by rw [hw8]; exact HU6.out.alloc _)
        rw [← hw8]
        clear hw8 hst e0 e1 e2 e3 e4 e5 e6 e7 e8 e9 e10 e11 e12 q0 q1 q2 q3 q4 q5 q6 q7 q8 q9 q10 q11 q12 p0 p1 p2 p3 p4 p5 p6 p7 p8 p9 p10 p11 p12
        refine (HCV.out w8 HW8.out).mono ?_
        rintro e u9 ⟨rfl, hu9⟩
        have HU9 := Lib.hid (HW8.out.trans hu9)
        go_wp2
        go_ret
        exact ⟨rfl, (HFB.out.trans HU9.out).none_below⟩
      · obtain rfl : ch = 1 := by omega
        have hn1 : n = 1 := by omega
        clear htt htu HTL hc hn1
        obtain ⟨q0, q1, q2, q3, q4, q5, q6, q7, q8, q9, q10, q11, q12⟩ := hx.out _ (show Fr noB w1 (u6.alloc (.cells #[.int .i64 part, .bool fs, .string fh, .int .i64 fp, .bool os, .string oh, .int .i64 op, .string path, .string query, .string method, .slice (some ⟨bk, o, none⟩) n 1, .bool wth, .string body] 53)) from HU6.out.alloc _)
        obtain ⟨p0, p1, p2, p3, p4, p5, p6, p7, p8, p9, p10, p11, p12⟩ := hx.out _ (show Fr noB w1 (u6.alloc (.cells #[.int .i64 part, .bool fs, .string fh, .int .i64 fp, .bool os, .string oh, .int .i64 op, .string path, .string query, .string method, .slice (some ⟨bk, o, none⟩) 0 0, .bool wth, .string body] 53)) from HU6.out.alloc _)
        go_wp2_with fail
        obtain ⟨w8, hw8⟩ : ∃ w8, w8 = u6.alloc (.cells #[.int .i64 part, .bool fs, .string fh, .int .i64 fp, .bool os, .string oh, .int .i64 op, .string path, .string query, .string method, .slice (some ⟨bk, o, none⟩) 0 0, .bool wth, .string body] 53) := ⟨_, rfl⟩
        have HW8 := Lib.hid (show Fr noB w1 w8 from by rw [hw8]; exact HU6.out.alloc _)
        rw [← hw8]
        clear hw8 hst e0 e1 e2 e3 e4 e5 e6 e7 e8 e9 e10 e11 e12 q0 q1 q2 q3 q4 q5 q6 q7 q8 q9 q10 q11 q12 p0 p1 p2 p3 p4 p5 p6 p7 p8 p9 p10 p11 p12
        refine (HCV.out w8 HW8.out).mono ?_
        rintro e u9 ⟨rfl, hu9⟩
        have HU9 := Lib.hid (HW8.out.trans hu9)
        go_wp2
        go_ret
        exact ⟨rfl, (HFB.out.trans HU9.out).none_below⟩
  · replace HCA := Lib.hid (HCA.out (by simp))
    go_wp2_with fail
    refine (HCA.out u6 _ HU6.out HALL6.out).mono ?_
    rintro e u7 ⟨rfl, hu7⟩
    have HU7 := Lib.hid (HU6.out.trans hu7)
    clear hu7 HALL6 HCA e0 e1 e2 e3 e4 e5 e6 e7 e8 e9 e10 e11 e12
    obtain ⟨e0, e1, e2, e3, e4, e5, e6, e7, e8, e9, e10, e11, e12⟩ := hx.out u7 HU7.out
    rcases Nat.eq_zero_or_pos n with hn | hn
    · clear HTL
      have in0 : ¬ (0 : Int) < (n : Int) := by omega
      clear hn
      obtain ⟨q0, q1, q2, q3, q4, q5, q6, q7, q8, q9, q10, q11, q12⟩ := hx.out _ (show Fr noB w1 (u7.alloc (.cells #[.int .i64 part, .bool fs, .string fh, .int .i64 fp, .bool os, .string oh, .int .i64 op, .string path, .string query, .string method, .slice ah n ch, .bool wth, .string body] 53)) from HU7.out.alloc _)
      go_wp2_with fail
      obtain ⟨w8, hw8⟩ : ∃ w8, w8 = u7.alloc (.cells #[.int .i64 part, .bool fs, .string fh, .int .i64 fp, .bool os, .string oh, .int .i64 op, .string path, .string query, .string method, .slice ah n ch, .bool wth, .string body] 53) := ⟨_, rfl⟩
      have HW8 := Lib.hid (show Fr noB w1 w8 from by rw [hw8]; exact HU7.out.alloc _)
      have hk8 : w8.heap[u7.heap.size]? = some (.cells #[.int .i64 part, .bool fs, .string fh, .int .i64 fp, .bool os, .string oh, .int .i64 op, .string path, .string query, .string method, .slice ah n ch, .bool wth, .string body] 53 (0, 0)) := by rw [hw8]; exact new_block _ _
      rw [← hw8]
      clear hw8 hst e0 e1 e2 e3 e4 e5 e6 e7 e8 e9 e10 e11 e12 q0 q1 q2 q3 q4 q5 q6 q7 q8 q9 q10 q11 q12
      refine (HCV.out w8 HW8.out).mono ?_
      rintro e u9 ⟨rfl, hu9⟩
      have HU9 := Lib.hid (HW8.out.trans hu9)
      have hr8 : ReqLie u9 u7.heap.size (ReqOf.mk part ⟨fs, fh, fp⟩ ⟨os, oh, op⟩ path query method (.slice ah n ch) wth body) := ReqLie.blk (hu9.keep hk8 (fun h => h))
      unfold ReqLie at hr8
      obtain ⟨q0, q1, q2, q3, q4, q5, q6, q7, q8, q9, q10, q11, q12⟩ := hr8
      clear hu9 hk8
      obtain ⟨r0, r1, r2, r3, r4, r5, r6, r7, r8, r9, r10, r11, r12⟩ := hx.out u9 HU9.out
      go_wp2_with fail
      refine (HCV.out u9 HU9.out).mono ?_
      rintro e u10 ⟨rfl, hu10⟩
      go_wp2
      go_ret
      exact ⟨rfl, (HFB.out.trans (HU9.out.trans hu10)).none_below⟩
    · obtain ⟨bk, o, rfl, hle, htt, htu⟩ := HTL.out hn
      have in0 : (0 : Int) < (n : Int) := by omega
      have in1 : (1 : Int) ≤ (n : Int) := by omega
      rcases Nat.lt_or_ge 1 ch with hc | hc
      · have HTT := Lib.hid (htt (by simp) (by simp))
        clear htt htu HTL
        have hc1 : ¬ ch = 1 := by omega
        have hc2 : ¬ ch - 1 = 0 := by omega
        obtain ⟨q0, q1, q2, q3, q4, q5, q6, q7, q8, q9, q10, q11, q12⟩ := hx.out _ (show Fr noB w1 (u7.alloc (.cells #[.int .i64 part, .bool fs, .string fh, .int .i64 fp, .bool os, .string oh, .int .i64 op, .string path, .string query, .string method, .slice (some ⟨bk, o, none⟩) n ch, .bool wth, .string body] 53)) from HU7.out.alloc _)
        obtain ⟨p0, p1, p2, p3, p4, p5, p6, p7, p8, p9, p10, p11, p12⟩ := hx.out _ (show Fr noB w1 (u7.alloc (.cells #[.int .i64 part, .bool fs, .string fh, .int .i64 fp, .bool os, .string oh, .int .i64 op, .string path, .string query, .string method, .slice (some ⟨bk, o + 2, none⟩) (n - 1) (ch - 1), .bool wth, .string body] 53)) from HU7.out.alloc _)
        go_wp2_with fail
        obtain ⟨w8, hw8⟩ : ∃ w8, w8 = u7.alloc (.cells #[.int .i64 part, .bool fs, .string fh, .int .i64 fp, .bool os, .string oh, .int .i64 op, .string path, .string query, .string method, .slice (some ⟨bk, o + 2, none⟩) (n - 1) (ch - 1), .bool wth, .string body] 53) := ⟨_, rfl⟩
        have HW8 := Lib.hid (show Fr noB w1 w8 from by rw [hw8]; exact HU7.out.alloc _)
        have hk8 : w8.heap[u7.heap.size]? = some (.cells #[.int .i64 part, .bool fs, .string fh, .int .i64 fp, .bool os, .string oh, .int .i64 op, .string path, .string query, .string method, .slice (some ⟨bk, o + 2, none⟩) (n - 1) (ch - 1), .bool wth, .string body] 53 (0, 0)) := by rw [hw8]; exact new_block _ _
        rw [← hw8]
        clear hw8 hst e0 e1 e2 e3 e4 e5 e6 e7 e8 e9 e10 e11 e12 q0 q1 q2 q3 q4 q5 q6 q7 q8 q9 q10 q11 q12 p0 p1 p2 p3 p4 p5 p6 p7 p8 p9 p10 p11 p12
        refine (HCV.out w8 HW8.out).mono ?_
        rintro e u9 ⟨rfl, hu9⟩
        have HU9 := Lib.hid (HW8.out.trans hu9)
        have hr8 : ReqLie u9 u7.heap.size (ReqOf.mk part ⟨fs, fh, fp⟩ ⟨os, oh, op⟩ path query method (.slice (some ⟨bk, o + 2, none⟩) (n - 1) (ch - 1)) wth body) := ReqLie.blk (hu9.keep hk8 (fun h => h))
        unfold ReqLie at hr8
        obtain ⟨q0, q1, q2, q3, q4, q5, q6, q7, q8, q9, q10, q11, q12⟩ := hr8
        clear hu9 hk8
        obtain ⟨r0, r1, r2, r3, r4, r5, r6, r7, r8, r9, r10, r11, r12⟩ := hx.out u9 HU9.out
        go_wp2_with fail
        refine (HTT.out u9 HU9.out).mono ?_
        rintro e u10 ⟨rfl, hu10⟩
        go_wp2
        go_ret
        exact ⟨rfl, (HFB.out.trans (HU9.out.trans hu10)).none_below⟩
      · obtain rfl : ch = 1 := by omega
        have hn1 : n = 1 := by omega
        have HTT := Lib.hid (htu hn1 (by simp) (by simp))
        clear htt htu HTL hc hn1
        obtain ⟨q0, q1, q2, q3, q4, q5, q6, q7, q8, q9, q10, q11, q12⟩ := hx.out _ (show Fr noB w1 (u7.alloc (.cells #[.int .i64 part, .bool fs, .string fh, .int .i64 fp, .bool os, .string oh, .int .i64 op, .string path, .string query, .string method, .slice (some ⟨bk, o, none⟩) n 1, .bool wth, .string body] 53)) from HU7.out.alloc _)
        obtain ⟨p0, p1, p2, p3, p4, p5, p6, p7, p8, p9, p10, p11, p12⟩ := hx.out _ (show Fr noB w1 (u7.alloc (.cells #[.int .i64 part, .bool fs, .string fh, .int .i64 fp, .bool os, .string oh, .int .i64 op, .string path, .string query, .string method, .slice (some ⟨bk, o, none⟩) 0 0, .bool wth, .string body] 53)) from HU7.out.alloc _)
        go_wp2_with fail
        obtain ⟨w8, hw8⟩ : ∃ w8, w8 = u7.alloc (.cells #[.int .i64 part, .bool fs, .string fh, .int .i64 fp, .bool os, .string oh, .int .i64 op, .string path, .string query, .string method, .slice (some ⟨bk, o, none⟩) 0 0, .bool wth, .string body] 53) := ⟨_, rfl⟩
        have HW8 := Lib.hid (show Fr noB w1 w8 from by rw [hw8]; exact HU7.out.alloc _)
        have hk8 : w8.heap[u7.heap.size]? = some (.cells #[.int .i64 part, .bool fs, .string fh, .int .i64 fp, .bool os, .string oh, .int .i64 op, .string path, .string query, .string method, .slice (some ⟨bk, o, none⟩) 0 0, .bool wth, .string body] 53 (0, 0)) := by rw [hw8]; exact new_block _ _
        rw [← hw8]
        clear hw8 hst e0 e1 e2 e3 e4 e5 e6 e7 e8 e9 e10 e11 e12 q0 q1 q2 q3 q4 q5 q6 q7 q8 q9 q10 q11 q12 p0 p1 p2 p3 p4 p5 p6 p7 p8 p9 p10 p11 p12
        refine (HCV.out w8 HW8.out).mono ?_
        rintro e u9 ⟨rfl, hu9⟩
        have HU9 := Lib.hid (HW8.out.trans hu9)
        have hr8 : ReqLie u9 u7.heap.size (ReqOf.mk part ⟨fs, fh, fp⟩ ⟨os, oh, op⟩ path query method (.slice (some ⟨bk, o, none⟩) 0 0) wth body) := ReqLie.blk (hu9.keep hk8 (fun h => h))
        unfold ReqLie at hr8
        obtain ⟨q0, q1, q2, q3, q4, q5, q6, q7, q8, q9, q10, q11, q12⟩ := hr8
        clear hu9 hk8
        obtain ⟨r0, r1, r2, r3, r4, r5, r6, r7, r8, r9, r10, r11, r12⟩ := hx.out u9 HU9.out
        go_wp2_with fail
        refine (HTT.out u9 HU9.out).mono ?_
        rintro e u10 ⟨rfl, hu10⟩
        go_wp2
        go_ret
        exact ⟨rfl, (HFB.out.trans (HU9.out.trans hu10)).none_below⟩
end Go.Proofs.YtkoobhgedoanhaaGreatDoor

namespace Go.Proofs.YtkoobhgedoanhaaGreatDoor
open Go.ChangeShapes Go.WideShapes Go.ChangeAt Go.RowKit Go.Deep

variable {H : Type} {enc : TypeId × Value → H} {W : World}
theorem cells_pas : Tryz.prog.cellsOf 64 = 12 := by kernel_rfl
theorem len12 {α : Type} {l : List α} (h : l.length = 12) : ∃ a b c d e f g i j k m n, l = [a, b, c, d, e, f, g, i, j, k, m, n] := by
  match l, h with
  | [a, b, c, d, e, f, g, i, j, k, m, n], _ => exact ⟨a, b, c, d, e, f, g, i, j, k, m, n, rfl⟩
theorem open_pas {fuel : Nat} {cs : List Value} {x : DataW H × List MemPlace} (h : DataW.trod enc Tryz.prog W 0 (fun _ => true) true fuel 64 cs = some x) :
    ∃ p : Pas, cs = p.cells ∧ cs.length = 12 ∧ (∀ u ∈ cs, u.oneCell' = true) ∧ (Light Tryz.prog 64 x.1 → p.Sized) := by
  obtain ⟨hl, n, hf⟩ := open_field Tryz.underlying64 h
  rw [cells_pas] at hl
  obtain ⟨c0, c1, c2, c3, c4, c5, c6, c7, c8, c9, c10, c11, rfl⟩ := len12 hl
  obtain ⟨y0, h0, l0⟩ := hf 0 49 0 _ rfl cells_ori
  obtain ⟨y1, h1, l1⟩ := hf 1 51 3 _ rfl cells_url
  obtain ⟨y2, h2, l2⟩ := hf 2 4 8 _ rfl cells_bool
  obtain ⟨y3, h3, l3⟩ := hf 3 9 9 _ rfl cells_string
  obtain ⟨y4, h4, l4⟩ := hf 4 9 10 _ rfl cells_string
  obtain ⟨y5, h5, l5⟩ := hf 5 3 11 _ rfl cells_int
  simp only [List.drop, List.take] at h0 h1 h2 h3 h4 h5
  obtain ⟨o, e0, w0, s0⟩ := open_ori h0
  obtain ⟨o1, pa, qu, e1, w1, s1⟩ := open_url h1
  obtain ⟨b2, e2⟩ := open_bool_field Tryz.underlying4 h2
  obtain ⟨b3, e3, w3⟩ := open_string_field Tryz.underlying9 h3
  obtain ⟨b4, e4, w4⟩ := open_string_field Tryz.underlying9 h4
  obtain ⟨b5, e5, w5⟩ := open_int_field Tryz.underlying3 h5
  unfold Ori.cells at e0 e1
  simp only [List.cons_append, List.nil_append, List.cons.injEq, and_true] at e0 e1 e2 e3 e4 e5
  obtain ⟨rfl, rfl, rfl⟩ := e0
  obtain ⟨rfl, rfl, rfl, rfl, rfl⟩ := e1
  subst e2 e3 e4 e5
  have hone : ∀ u ∈ (⟨o, o1, pa, qu, b2, b3, b4, b5⟩ : Pas).cells, u.oneCell' = true := by unfold Pas.cells; simp [Value.oneCell']
  refine ⟨⟨o, o1, pa, qu, b2, b3, b4, b5⟩, rfl, rfl, hone, fun hL => ?_⟩
  have := s1 (l1 hL)
  unfold Pas.Sized
  show _ ≤ reachBytes ∧ _ ≤ reachBytes ∧ _ ≤ reachBytes ∧ _ ≤ reachBytes ∧ _ ≤ reachBytes ∧ _ ≤ reachBytes
  exact ⟨w3 (l3 hL), w4 (l4 hL), this.2.1, this.2.2, this.1, s0 (l0 hL)⟩
set_option maxRecDepth 100000 in
/-- a slice of passes as an argument -/
theorem open_passesArg {base : Nat} {v : Value} {d : DataW H} {p : List MemPlace} (hv : Value.okWide Tryz.prog W .any base 60 v) (h : DataW.Trod enc Tryz.prog W 0 (fun _ => true) true 60 v d p) (hL : Light Tryz.prog 60 d) :
    ∃ ps : List Pas, PasAt W v ps ∧ ps.length ≤ 140737488355328 ∧ ∀ p ∈ ps, p.Sized := by
  obtain ⟨a, len, cap, rfl⟩ := okWide_slice Tryz.underlying60 hv
  obtain ⟨fuel, hf⟩ := h
  obtain ⟨v', css, bs, e, hr, hb, hs⟩ := open_rowsR (Q := fun cs (b : Pas) => cs = b.cells) (S := fun b => b.Sized) Tryz.underlying60 cells_pas (by decide) (by kernel_rfl : Tryz.prog.bytesOf 64 = 144) open_pas hf
  simp only [Value.cells, List.cons.injEq, and_true] at e
  subst e
  rw [both_eqR hb] at hr
  have h2 := hs hL
  refine ⟨bs, hr, ?_, h2.2⟩
  have hk : reachBytes = 140737488351232 := rfl
  have := h2.1
  omega
end Go.Proofs.YtkoobhgedoanhaaGreatDoor
