/- A row of elements of k cells that is turned in place: what lies behind it. No function of the program in sight. slices.Clone and slices.Reverse at params and at challenges. One cell of a row of the call's own is stored. No function of the program in sight. -/
import Derived.Test.YtegbacpenolehaaDoorRowK
import Derived.Sort.OwnSorted
import Derived.Shelf.SlicesQ.Reverse
import Derived.Test.YtegbacpenolehaaDoorShelf
import Derived.Test.YtegbacpenolehaaDoorRowS
namespace Go.Proofs.YtegbacpenolehaaDoor
open Go.RowKit Go.Sort

theorem flatK_list {α : Type} [Inhabited α] (enc : α → List Value) (k : Nat) (h0 : 0 < k) (hk : ∀ x, (enc x).length = k) (l : List α) : (flatK enc k l.toArray).toList = (l.map enc).flatten := by
  have hall : ∀ x ∈ l.map enc, x.length = k := fun x hx => by
    obtain ⟨y, _, rfl⟩ := List.mem_map.1 hx
    exact hk y
  have hl : (l.map enc).flatten.length = l.length * k := by rw [flatten_len hall, List.length_map]
  apply List.ext_getElem?
  intro t
  by_cases ht : t < l.length * k
  · have hd : t / k < l.length := Nat.div_lt_of_lt_mul (by rwa [Nat.mul_comm])
    have hm : t % k < k := Nat.mod_lt _ h0
    have e1 := flatten_at (k := k) (xs := l.map enc) hall (j := t / k) (x := enc l[t / k]) (by simp [hd]) (i := t % k) (u := (enc l[t / k])[t % k]'(by rw [hk]; exact hm)) (List.getElem?_eq_getElem _)
    rw [Nat.div_add_mod'] at e1
    rw [e1, Array.getElem?_toList, Array.getElem?_eq_getElem (by simpa using ht)]
    congr 1
    have e2 := get_flatK enc k l.toArray t (by simpa using ht)
    rw [getElem!_pos _ t (by simpa using ht)] at e2
    rw [e2, getElem!_pos l.toArray (t / k) (by simpa using hd), getElem!_pos _ (t % k) (by rw [hk]; exact hm)]
    rfl
  · rw [List.getElem?_eq_none (by simp; omega), List.getElem?_eq_none (by omega)]
theorem take_putId (cur : Array Value) (ts : List Value) (h : ts.length ≤ cur.size) : (putCells id 0 ts.toArray cur).toList.take ts.length = ts := by
  apply List.ext_getElem?
  intro j
  by_cases hj : j < ts.length
  · rw [List.getElem?_take_of_lt hj, Array.getElem?_toList]
    simp [putCells, hj, show j < cur.size by omega]
  · rw [List.getElem?_take_eq_none (by omega), List.getElem?_eq_none (by omega)]
theorem holds_id {w : World} {g : Nat} {cur : Array Value} {e : TypeId} {ts : List Value} (hb : w.heap[g]? = some (.cells cur e (0, 0))) (ht : cur.toList.take ts.length = ts) : Holds id w g 0 ts.toArray := by
  intro j hj
  have hj' : j < ts.length := by simpa using hj
  refine ⟨?_, by simp [World.frozen?, hb]⟩
  have h1 : (cur.toList.take ts.length)[j]? = ts[j]? := by rw [ht]
  rw [List.getElem?_take_of_lt hj'] at h1
  simp only [World.cell?, hb, Nat.zero_add]
  simp only [Option.isSome_none, Bool.false_eq_true, if_false]
  rw [← Array.getElem?_toList, h1]
  simp [hj']
theorem heap_id {w : World} {g n : Nat} {cur : Array Value} {e : TypeId} {fr : Nat × Nat} (d : Array Value) (hb : w.heap[g]? = some (.cells cur e fr)) :
    (putRow id (Sort.ahead w n) g 0 d).heap[g]? = some (.cells (putCells id 0 d cur) e fr) := by
  simp [putRow, mapBlock, Sort.ahead, Array.getElem?_modify, hb, onCells]
theorem grownBy_id {w : World} {g n : Nat} (d : Array Value) : w.grownBy (putRow id (Sort.ahead w n) g 0 d) (some g) := by
  refine ⟨rfl, rfl, rfl, by simp, fun k hk hne => ?_⟩
  have : g ≠ k := fun e => hne (by rw [e])
  simp [putRow, mapBlock, Sort.ahead, Array.getElem?_modify, this]
/-- the same slice owns the turned row -/
theorem OwnRows.turned {base k g cap n : Nat} {e : TypeId} {w : World} {cur : Array Value} {xs ys : List (List Value)} (hx : ∀ x ∈ ys, x.length = k ∧ ∀ u ∈ x, u.oneCell' = true) (hl : ys.length = xs.length) (hg : base ≤ g) (hb : w.heap[g]? = some (.cells cur e (0, 0)))
    (h1 : xs.length ≤ cap) (h2 : cap ≤ maxLen) (h3 : cur.size = cap * k) :
    OwnRows base e k (putRow id (Sort.ahead w n) g 0 ys.flatten.toArray) (.slice (some ⟨g, 0, none⟩) xs.length cap) ys := by
  have hf : ys.flatten.length = ys.length * k := flatten_len (fun x h => (hx x h).1)
  have hle : ys.flatten.length ≤ cur.size := by rw [hf, h3, hl]; exact Nat.mul_le_mul_right _ h1
  refine ⟨hx, hf, .inr ⟨g, cap, _, by rw [hl], hg, heap_id _ hb, by omega, h2, by simp [putCells, h3], ?_⟩⟩
  rw [← hf]
  exact take_putId cur _ hle
/-- the elements of a row, each with its sizes -/
abbrev Elt (k : Nat) := { x : List Value // x.length = k ∧ ∀ u ∈ x, u.oneCell' = true }
instance (k : Nat) : Inhabited (Elt k) := ⟨⟨List.replicate k (.bool false), by simp, by intro u hu; rw [List.eq_of_mem_replicate hu]; rfl⟩⟩
theorem elts {k : Nat} {xs : List (List Value)} (h : ∀ x ∈ xs, x.length = k ∧ ∀ u ∈ x, u.oneCell' = true) : ∃ l : List (Elt k), l.map Subtype.val = xs :=
  ⟨xs.attach.map fun x => ⟨x.1, h x.1 x.2⟩, by rw [List.map_map]; exact List.attach_map_subtype_val xs⟩
end Go.Proofs.YtegbacpenolehaaDoor

namespace Go.Proofs.YtegbacpenolehaaDoor
open Go.RowKit Go.Sort

theorem info_Px : (Tryd.prog.info? 103).map (fun i => (i.zero, i.size, i.bytes)) = some (some (.agg #[.string ⟨#[]⟩, .string ⟨#[]⟩]), 2, 32) := by kernel_rfl
set_option maxHeartbeats 2000000 in
set_option maxRecDepth 100000 in
theorem Clone_P (v : Value) (xs : List (List Value)) (w : World) (h : RowsAt 2 w v xs) (hl : xs.length ≤ 1000000000) :
    Calls Tryd.prog 66 #[v] w fun e w' => ∃ v', e = .returned v' ∧ OwnRows w.heap.size 103 2 w' v' xs ∧ Fr noB w w' := by
  obtain ⟨a, c, hv⟩ := h.form
  subst hv
  have q22 : ∀ (w : World) (a : Option Addr) (n c n' c' : Nat), (binOp .eql 59 (.slice a n c) (.slice none n' c')).run Tryd.prog w = .ok (.bool a.isNone) w := fun w a n c n' c' => Lib.run_eql_slice_nil w _ _ a n c n' c' Tryd.underlying59
  cases a with
  | none =>
    obtain ⟨rfl, rfl⟩ : xs = [] ∧ c = 0 := by
      rcases h.2 with ⟨a', c', hv, hs, hc⟩ | ⟨bk, o', c', hf, _⟩
      · injection hv with e1 e2 e3
        exact ⟨hs, e3.trans (hc e1.symm)⟩
      · injection hf with e1; cases e1
    go_enter Tryd.func66, Tryd.ntmps66
    go_wp2
    go_ret
    exact ⟨_, rfl, OwnRows.nil _ _ _ _, Fr.refl _ _⟩
  | some ad =>
    have HX := h.1
    have HC := Lib.hid (show ∀ j u, xs.flatten[j]? = some u → w.cell? (ad.add j) = some u from fun j u hj => by
      rcases h.2 with ⟨_, _, _, e, _⟩ | ⟨bk, o', c', hf, g1, g2, g3, g4⟩
      · subst e; simp at hj
      · cases hf
        have hfl : xs.flatten.length = xs.length * 2 := flatten_len (fun x hx => (HX x hx).1)
        have hjl := (List.getElem?_eq_some_iff.1 hj).1
        have hd : j / 2 < xs.length := by omega
        have hm : j % 2 < 2 := by omega
        have hx : (xs[j / 2]).length = 2 := (HX _ (List.getElem_mem hd)).1
        have e1 := flatten_at (k := 2) (xs := xs) (fun x hx => (HX x hx).1) (j := j / 2) (List.getElem?_eq_getElem hd) (i := j % 2) (List.getElem?_eq_getElem (by rw [hx]; exact hm))
        rw [Nat.div_add_mod'] at e1
        rw [e1] at hj
        cases hj
        have := g4 (j / 2) _ (List.getElem?_eq_getElem hd) (j % 2) _ (List.getElem?_eq_getElem (by rw [hx]; exact hm))
        have ea : (Addr.add ⟨bk, o', none⟩ j) = ⟨bk, o' + j, none⟩ := by unfold Addr.add; split <;> simp_all
        rw [ea, ← this]
        congr 2
        omega)
    have HF := Lib.hid (show xs.flatten.length = xs.length * 2 from flatten_len (fun x hx => (HX x hx).1))
    have HXX := Lib.hid HX
    obtain ⟨i0, hi, hz0, hz1, hz2⟩ := info_parts info_Px
    clear HX h
    go_enter Tryd.func66, Tryd.ntmps66
    go_wp2_with (at_builtin; refine wpList_append_own _ rfl _ _ 59 rfl w.heap.size 103 i0 (.agg #[.string ⟨#[]⟩, .string ⟨#[]⟩]) 2 32 Tryd.underlying59 hi hz0 hz1 hz2 rfl (by decide) _ _ _ rfl (World.ownsRow_made w #[] 0 (Nat.le_refl _) (Nat.zero_le _) rfl) ad xs.length c xs.flatten rfl HF.out ?qc2 ?qc3 ?qc4 ?qc5 ?qc6 ?_)
    case qc2 =>
      intro j u hj
      exact Lib.cell?_alloc_some _ (HC.out j u hj)
    case qc3 =>
      intro u hu
      obtain ⟨x, hx, hux⟩ := List.mem_flatten.1 hu
      exact (HXX.out x hx).2 u hux
    case qc4 => unfold maxLen; omega
    case qc5 => omega
    case qc6 => simp
    intro v' w1 hown hgrow hnil
    go_wp2
    go_ret
    refine ⟨v', rfl, ⟨HXX.out, by simpa using hown⟩, Fr.of_below (((Below.refl _ w).alloc (Nat.le_refl _) _).grown hgrow (by simp) (by intro k hk; simp [Value.ownBlock] at hk; omega))⟩
theorem Reverse_P (base : Nat) (v : Value) (xs : List (List Value)) (w : World) (h : OwnRows base 103 2 w v xs) (hl : xs.length ≤ 1000000000) :
    Calls Tryd.prog 72 #[v] w fun e w' => e = .returned (.tuple #[]) ∧ OwnRows base 103 2 w' v xs.reverse ∧ w.grownBy w' v.ownBlock := by
  rcases h.2.2 with ⟨rfl, h0⟩ | ⟨g, cap, cur, rfl, hg, hb, h1, h2, h3, h4⟩
  · obtain rfl : xs = [] := List.length_eq_zero_iff.1 h0
    refine (AnyQ.slices_Reverse_empty Tryd.revP none 0 w).mono ?_
    rintro e w' ⟨rfl, rfl⟩
    exact ⟨rfl, h, ⟨rfl, rfl, rfl, Nat.le_refl _, fun _ _ _ => rfl⟩⟩
  · have hx := h.1
    obtain ⟨l, hll⟩ := elts hx
    have hsz : l.toArray.size = xs.length := by rw [← hll]; simp
    have hfl : (flatK (Subtype.val : Elt 2 → List Value) 2 l.toArray) = xs.flatten.toArray := by
      apply Array.ext'
      rw [flatK_list Subtype.val 2 (by decide) (fun x => x.2.1) l, hll]
    have hfr : (flatK (Subtype.val : Elt 2 → List Value) 2 l.toArray.reverse) = xs.reverse.flatten.toArray := by
      apply Array.ext'
      rw [show l.toArray.reverse = l.reverse.toArray by simp, flatK_list Subtype.val 2 (by decide) (fun x => x.2.1) l.reverse, List.map_reverse, hll]
    have hlen : xs.flatten.length = xs.length * 2 := flatten_len (fun x hx' => (hx x hx').1)
    have hH : HoldsK (Subtype.val : Elt 2 → List Value) 2 w g 0 l.toArray := by
      unfold HoldsK
      rw [hfl]
      exact holds_id hb (by rw [hlen]; exact h4)
    have := AnyQ.slices_Reverse Tryd.revP 2 Tryd.isAgg103 Tryd.sizeOf103 (Subtype.val : Elt 2 → List Value) (fun x => x.2.1) (fun x => x.2.2) g 0 cap l.toArray w hH (by omega)
    rw [hsz] at this
    refine this.mono ?_
    rintro e w' ⟨rfl, n, rfl⟩
    unfold putRowK
    rw [hfr]
    exact ⟨rfl, OwnRows.turned (fun x hx' => hx x (by simpa using hx')) (by simp) hg hb h1 h2 h3, grownBy_id _⟩
/-- a copy, turned -/
theorem CloneRev_P (v : Value) (xs : List (List Value)) (w : World) (h : RowsAt 2 w v xs) (hl : xs.length ≤ 1000000000) :
    Calls Tryd.prog 66 #[v] w fun e w1 => ∃ v', e = .returned v' ∧ OwnRows w.heap.size 103 2 w1 v' xs ∧ Fr noB w w1 ∧
      Calls Tryd.prog 72 #[v'] w1 fun e w2 => e = .returned (.tuple #[]) ∧ RowsAt 2 w2 v' xs.reverse ∧ Fr noB w w2 := by
  refine (Clone_P v xs w h hl).mono ?_
  rintro e w1 ⟨v', rfl, ho, hf⟩
  refine ⟨v', rfl, ho, hf, (Reverse_P _ v' xs w1 ho hl).mono ?_⟩
  rintro e w2 ⟨rfl, ho2, hg⟩
  exact ⟨rfl, ho2.at, hf.grownNew hg ho.block⟩

theorem info_Cx : (Tryd.prog.info? 61).map (fun i => (i.zero, i.size, i.bytes)) = some (some (.agg #[.string ⟨#[]⟩, .string ⟨#[]⟩, .slice none 0 0]), 3, 56) := by kernel_rfl
set_option maxHeartbeats 2000000 in
set_option maxRecDepth 100000 in
theorem Clone_C (v : Value) (xs : List (List Value)) (w : World) (h : RowsAt 3 w v xs) (hl : xs.length ≤ 1000000000) :
    Calls Tryd.prog 37 #[v] w fun e w' => ∃ v', e = .returned v' ∧ OwnRows w.heap.size 61 3 w' v' xs ∧ Fr noB w w' := by
  obtain ⟨a, c, hv⟩ := h.form
  subst hv
  have q22 : ∀ (w : World) (a : Option Addr) (n c n' c' : Nat), (binOp .eql 53 (.slice a n c) (.slice none n' c')).run Tryd.prog w = .ok (.bool a.isNone) w := fun w a n c n' c' => Lib.run_eql_slice_nil w _ _ a n c n' c' Tryd.underlying53
  cases a with
  | none =>
    obtain ⟨rfl, rfl⟩ : xs = [] ∧ c = 0 := by
      rcases h.2 with ⟨a', c', hv, hs, hc⟩ | ⟨bk, o', c', hf, _⟩
      · injection hv with e1 e2 e3
        exact ⟨hs, e3.trans (hc e1.symm)⟩
      · injection hf with e1; cases e1
    go_enter Tryd.func37, Tryd.ntmps37
    go_wp2
    go_ret
    exact ⟨_, rfl, OwnRows.nil _ _ _ _, Fr.refl _ _⟩
  | some ad =>
    have HX := h.1
    have HC := Lib.hid (show ∀ j u, xs.flatten[j]? = some u → w.cell? (ad.add j) = some u from fun j u hj => by
      rcases h.2 with ⟨_, _, _, e, _⟩ | ⟨bk, o', c', hf, g1, g2, g3, g4⟩
      · subst e; simp at hj
      · cases hf
        have hfl : xs.flatten.length = xs.length * 3 := flatten_len (fun x hx => (HX x hx).1)
        have hjl := (List.getElem?_eq_some_iff.1 hj).1
        have hd : j / 3 < xs.length := by omega
        have hm : j % 3 < 3 := by omega
        have hx : (xs[j / 3]).length = 3 := (HX _ (List.getElem_mem hd)).1
        have e1 := flatten_at (k := 3) (xs := xs) (fun x hx => (HX x hx).1) (j := j / 3) (List.getElem?_eq_getElem hd) (i := j % 3) (List.getElem?_eq_getElem (by rw [hx]; exact hm))
        rw [Nat.div_add_mod'] at e1
        rw [e1] at hj
        cases hj
        have := g4 (j / 3) _ (List.getElem?_eq_getElem hd) (j % 3) _ (List.getElem?_eq_getElem (by rw [hx]; exact hm))
        have ea : (Addr.add ⟨bk, o', none⟩ j) = ⟨bk, o' + j, none⟩ := by unfold Addr.add; split <;> simp_all
        rw [ea, ← this]
        congr 2
        omega)
    have HF := Lib.hid (show xs.flatten.length = xs.length * 3 from flatten_len (fun x hx => (HX x hx).1))
    have HXX := Lib.hid HX
    obtain ⟨i0, hi, hz0, hz1, hz2⟩ := info_parts info_Cx
    clear HX h
    go_enter Tryd.func37, Tryd.ntmps37
    go_wp2_with (at_builtin; refine wpList_append_own _ rfl _ _ 53 rfl w.heap.size 61 i0 (.agg #[.string ⟨#[]⟩, .string ⟨#[]⟩, .slice none 0 0]) 3 56 Tryd.underlying53 hi hz0 hz1 hz2 rfl (by decide) _ _ _ rfl (World.ownsRow_made w #[] 0 (Nat.le_refl _) (Nat.zero_le _) rfl) ad xs.length c xs.flatten rfl HF.out ?qc2 ?qc3 ?qc4 ?qc5 ?qc6 ?_)
    case qc2 =>
      intro j u hj
      exact Lib.cell?_alloc_some _ (HC.out j u hj)
    case qc3 =>
      intro u hu
      obtain ⟨x, hx, hux⟩ := List.mem_flatten.1 hu
      exact (HXX.out x hx).2 u hux
    case qc4 => unfold maxLen; omega
    case qc5 => omega
    case qc6 => simp
    intro v' w1 hown hgrow hnil
    go_wp2
    go_ret
    refine ⟨v', rfl, ⟨HXX.out, by simpa using hown⟩, Fr.of_below (((Below.refl _ w).alloc (Nat.le_refl _) _).grown hgrow (by simp) (by intro k hk; simp [Value.ownBlock] at hk; omega))⟩
theorem Reverse_C (base : Nat) (v : Value) (xs : List (List Value)) (w : World) (h : OwnRows base 61 3 w v xs) (hl : xs.length ≤ 1000000000) :
    Calls Tryd.prog 38 #[v] w fun e w' => e = .returned (.tuple #[]) ∧ OwnRows base 61 3 w' v xs.reverse ∧ w.grownBy w' v.ownBlock := by
  rcases h.2.2 with ⟨rfl, h0⟩ | ⟨g, cap, cur, rfl, hg, hb, h1, h2, h3, h4⟩
  · obtain rfl : xs = [] := List.length_eq_zero_iff.1 h0
    refine (AnyQ.slices_Reverse_empty Tryd.revC none 0 w).mono ?_
    rintro e w' ⟨rfl, rfl⟩
    exact ⟨rfl, h, ⟨rfl, rfl, rfl, Nat.le_refl _, fun _ _ _ => rfl⟩⟩
  · have hx := h.1
    obtain ⟨l, hll⟩ := elts hx
    have hsz : l.toArray.size = xs.length := by rw [← hll]; simp
    have hfl : (flatK (Subtype.val : Elt 3 → List Value) 3 l.toArray) = xs.flatten.toArray := by
      apply Array.ext'
      rw [flatK_list Subtype.val 3 (by decide) (fun x => x.2.1) l, hll]
    have hfr : (flatK (Subtype.val : Elt 3 → List Value) 3 l.toArray.reverse) = xs.reverse.flatten.toArray := by
      apply Array.ext'
      rw [show l.toArray.reverse = l.reverse.toArray by simp, flatK_list Subtype.val 3 (by decide) (fun x => x.2.1) l.reverse, List.map_reverse, hll]
    have hlen : xs.flatten.length = xs.length * 3 := flatten_len (fun x hx' => (hx x hx').1)
    have hH : HoldsK (Subtype.val : Elt 3 → List Value) 3 w g 0 l.toArray := by
      unfold HoldsK
      rw [hfl]
      exact holds_id hb (by rw [hlen]; exact h4)
    have := AnyQ.slices_Reverse Tryd.revC 3 Tryd.isAgg61 Tryd.sizeOf61 (Subtype.val : Elt 3 → List Value) (fun x => x.2.1) (fun x => x.2.2) g 0 cap l.toArray w hH (by omega)
    rw [hsz] at this
    refine this.mono ?_
    rintro e w' ⟨rfl, n, rfl⟩
    unfold putRowK
    rw [hfr]
    exact ⟨rfl, OwnRows.turned (fun x hx' => hx x (by simpa using hx')) (by simp) hg hb h1 h2 h3, grownBy_id _⟩
/-- a copy, turned -/
theorem CloneRev_C (v : Value) (xs : List (List Value)) (w : World) (h : RowsAt 3 w v xs) (hl : xs.length ≤ 1000000000) :
    Calls Tryd.prog 37 #[v] w fun e w1 => ∃ v', e = .returned v' ∧ OwnRows w.heap.size 61 3 w1 v' xs ∧ Fr noB w w1 ∧
      Calls Tryd.prog 38 #[v'] w1 fun e w2 => e = .returned (.tuple #[]) ∧ RowsAt 3 w2 v' xs.reverse ∧ Fr noB w w2 := by
  refine (Clone_C v xs w h hl).mono ?_
  rintro e w1 ⟨v', rfl, ho, hf⟩
  refine ⟨v', rfl, ho, hf, (Reverse_C _ v' xs w1 ho hl).mono ?_⟩
  rintro e w2 ⟨rfl, ho2, hg⟩
  exact ⟨rfl, ho2.at, hf.grownNew hg ho.block⟩

end Go.Proofs.YtegbacpenolehaaDoor

namespace Go.Proofs.YtegbacpenolehaaDoor
open Go.RowKit

theorem flatten_cell : ∀ {k : Nat} {xs : List (List Value)} (_ : ∀ x ∈ xs, x.length = k) {j : Nat} {x : List Value} (_ : xs[j]? = some x) {i : Nat} (_ : i < k) (u : Value), (xs.set j (x.set i u)).flatten = xs.flatten.set (j * k + i) u
  | k, [], _, j, x, hj, i, hi, u => by simp at hj
  | k, y :: ys, hl, 0, x, hj, i, hi, u => by
    simp at hj; subst hj
    have hy := hl y (by simp)
    simp only [List.set_cons_zero, List.flatten_cons, Nat.zero_mul, Nat.zero_add]
    rw [List.set_append_left _ _ (by omega)]
  | k, y :: ys, hl, j + 1, x, hj, i, hi, u => by
    have hy := hl y (by simp)
    have ih := flatten_cell (k := k) (xs := ys) (fun z hz => hl z (List.mem_cons_of_mem _ hz)) (j := j) (x := x) (by simpa using hj) hi u
    simp only [List.set_cons_succ, List.flatten_cons]
    rw [ih, List.set_append_right _ _ (by rw [hy, Nat.succ_mul]; omega), hy, show (j + 1) * k + i - k = j * k + i from by rw [Nat.succ_mul]; omega]
theorem OwnRows.set {base k : Nat} {e : TypeId} {w : World} {g n c : Nat} {xs : List (List Value)} (h : OwnRows base e k w (.slice (some ⟨g, 0, none⟩) n c) xs) {j : Nat} {x : List Value} (hj : xs[j]? = some x) {i : Nat} (hi : i < k) {u : Value} (hu : u.oneCell' = true) :
    OwnRows base e k (w.setCell ⟨g, j * k + i, none⟩ u) (.slice (some ⟨g, 0, none⟩) n c) (xs.set j (x.set i u)) := by
  obtain ⟨h0, h1, h2⟩ := h
  have hx := h0 x (List.mem_of_getElem? hj)
  have hall : ∀ y ∈ xs.set j (x.set i u), y.length = k ∧ ∀ v ∈ y, v.oneCell' = true := by
    intro y hy
    rcases List.mem_or_eq_of_mem_set hy with hy | rfl
    · exact h0 y hy
    · refine ⟨by rw [List.length_set]; exact hx.1, fun v hv => ?_⟩
      rcases List.mem_or_eq_of_mem_set hv with hv | rfl
      · exact hx.2 v hv
      · exact hu
  rcases h2 with ⟨hv, _⟩ | ⟨g', cap, cur, hv, hg, hh, h3, h4, h5, h6⟩
  · cases hv
  · have e1 : g' = g ∧ n = xs.length ∧ c = cap := by
      injection hv with a1 a2 a3
      injection a1 with a1
      injection a1 with a1
      exact ⟨a1.symm, a2, a3⟩
    obtain ⟨rfl, rfl, rfl⟩ := e1
    refine ⟨hall, ?_, Or.inr ⟨g', c, cur.setIfInBounds (j * k + i) u, by rw [List.length_set], hg, ?_, by rw [List.length_set]; exact h3, h4, by simpa using h5, ?_⟩⟩
    · rw [flatten_len (fun y hy => (hall y hy).1)]
    · exact setCell_heap hh _ _
    · rw [List.length_set, flatten_cell (fun y hy => (h0 y hy).1) hj hi u, ← h6]
      rw [Array.toList_setIfInBounds, List.take_set]
theorem OwnRows.addr {base k : Nat} {e : TypeId} {w : World} {v : Value} {xs : List (List Value)} (h : OwnRows base e k w v xs) (hn : xs ≠ []) : ∃ g c, v = .slice (some ⟨g, 0, none⟩) xs.length c ∧ base ≤ g ∧ g < w.heap.size ∧ xs.length ≤ c ∧ c ≤ maxLen ∧ ∀ i, w.frozen? ⟨g, i, none⟩ = false := by
  rcases h.2.2 with ⟨_, h0⟩ | ⟨g, cap, cur, hv, hg, hh, h3, h4, _⟩
  · exact absurd (List.eq_nil_of_length_eq_zero h0) hn
  · exact ⟨g, cap, hv, hg, lt_of_some hh, h3, h4, fun i => by simp [World.frozen?, hh]⟩
end Go.Proofs.YtegbacpenolehaaDoor
