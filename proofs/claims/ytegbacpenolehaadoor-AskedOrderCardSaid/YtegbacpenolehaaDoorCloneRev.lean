/- slices.Clone and slices.Reverse at params and at challenges. -/
import Derived.Test.YtegbacpenolehaaDoorRowRev
import Derived.Test.YtegbacpenolehaaDoorShelf
namespace Go.Proofs.YtegbacpenolehaaDoor
open Go.RowKit Go.Sort

theorem info_Px : (Tryd.prog.info? 103).map (fun i => (i.zero, i.size, i.bytes)) = some (some (.agg #[.string ⟨#[]⟩, .string ⟨#[]⟩]), 2, 32) := by kernel_rfl
set_option maxHeartbeats 2000000 in
set_option maxRecDepth 100000 in
theorem Clone_P (v : Value) (xs : List (List Value)) (w : World) (h : RowsAt 2 w v xs) (hl : xs.length ≤ 1000000000) :
    Calls Tryd.prog 66 #[v] w fun e w' => ∃ v', e = .returned v' ∧ OwnRows w.heap.size 103 2 w' v' xs ∧ Fr noB w w' := by
  obtain ⟨a, c, hv⟩ := h.form
  subst hv
  have q22 : ∀ (w : World) (a : Option Addr) (n c n' c' : Nat), (binOp .eql 59 (.slice a n c) (.slice none n' c')).run Tryd.prog w = .ok (.bool a.isNone) w := fun w a n c n' c' => Lib.run_eql_slice_nil w _ _ a n c n' c' Tryd.underlying59
  cases a with
  | none =>
    obtain ⟨rfl, rfl⟩ : xs = [] ∧ c = 0 := by
      rcases h.2 with ⟨a', c', hv, hs, hc⟩ | ⟨bk, o', c', hf, _⟩
      · injection hv with e1 e2 e3
        exact ⟨hs, e3.trans (hc e1.symm)⟩
      · injection hf with e1; cases e1
    go_enter Tryd.func66, Tryd.ntmps66
    go_wp2
    go_ret
    exact ⟨_, rfl, OwnRows.nil _ _ _ _, Fr.refl _ _⟩
  | some ad =>
    have HX := h.1
    have HC := Lib.hid (show ∀ j u, xs.flatten[j]? = some u → w.cell? (ad.add j) = some u from fun j u hj => by
      rcases h.2 with ⟨_, _, _, e, _⟩ | ⟨bk, o', c', hf, g1, g2, g3, g4⟩
      · subst e; simp at hj
      · cases hf
        have hfl : xs.flatten.length = xs.length * 2 := flatten_len (fun x hx => (HX x hx).1)
        have hjl := (List.getElem?_eq_some_iff.1 hj).1
        have hd : j / 2 < xs.length := by omega
        have hm : j % 2 < 2 := by omega
        have hx : (xs[j / 2]).length = 2 := (HX _ (List.getElem_mem hd)).1
        have e1 := flatten_at (k := 2) (xs := xs) (fun x hx => (HX x hx).1) (j := j / 2) (List.getElem?_eq_getElem hd) (i := j % 2) (List.getElem?_eq_getElem (by rw [hx]; exact hm))
        rw [Nat.div_add_mod'] at e1
        rw [e1] at hj
        cases hj
        have := g4 (j / 2) _ (List.getElem?_eq_getElem hd) (j % 2) _ (List.getElem?_eq_getElem (by rw [hx]; exact hm))
        have ea : (Addr.add ⟨bk, o', none⟩ j) = ⟨bk, o' + j, none⟩ := by unfold Addr.add; split <;> simp_all
        rw [ea, ← this]
        congr 2
        omega)
    have HF := Lib.hid (show xs.flatten.length = xs.length * 2 from flatten_len (fun x hx => (HX x hx).1))
    have HXX := Lib.hid HX
    obtain ⟨i0, hi, hz0, hz1, hz2⟩ := info_parts info_Px
    clear HX h
    go_enter Tryd.func66, Tryd.ntmps66
    go_wp2_with (at_builtin; refine wpList_append_own _ rfl _ _ 59 rfl w.heap.size 103 i0 (.agg #[.string ⟨#[]⟩, .string ⟨#[]⟩]) 2 32 Tryd.underlying59 hi hz0 hz1 hz2 rfl (by decide) _ _ _ rfl (World.ownsRow_made w #[] 0 (Nat.le_refl _) (Nat.zero_le _) rfl) ad xs.length c xs.flatten rfl HF.out ?qc2 ?qc3 ?qc4 ?qc5 ?qc6 ?_)
    case qc2 =>
      intro j u hj
      exact Lib.cell?_alloc_some _ (HC.out j u hj)
    case qc3 =>
      intro u hu
      obtain ⟨x, hx, hux⟩ := List.mem_flatten.1 hu
      exact (HXX.out x hx).2 u hux
    case qc4 => unfold maxLen; omega
    case qc5 => omega
    case qc6 => simp
    intro v' w1 hown hgrow hnil
    go_wp2
    go_ret
    refine ⟨v', rfl, ⟨HXX.out, by simpa using hown⟩, Fr.of_below (((Below.refl _ w).alloc (Nat.le_refl _) _).grown hgrow (by simp) (by intro k hk; simp [Value.ownBlock] at hk; omega))⟩
theorem Reverse_P (base : Nat) (v : Value) (xs : List (List Value)) (w : World) (h : OwnRows base 103 2 w v xs) (hl : xs.length ≤ 1000000000) :
    Calls Tryd.prog 72 #[v] w fun e w' => e = .returned (.tuple #[]) ∧ OwnRows base 103 2 w' v xs.reverse ∧ w.grownBy w' v.ownBlock := by
  rcases h.2.2 with ⟨rfl, h0⟩ | ⟨g, cap, cur, rfl, hg, hb, h1, h2, h3, h4⟩
  · obtain rfl : xs = [] := List.length_eq_zero_iff.1 h0
    refine (AnyQ.slices_Reverse_empty Tryd.revP none 0 w).mono ?_
    rintro e w' ⟨rfl, rfl⟩
    exact ⟨rfl, h, ⟨rfl, rfl, rfl, Nat.le_refl _, fun _ _ _ => rfl⟩⟩
  · have hx := h.1
    obtain ⟨l, hll⟩ := elts hx
    have hsz : l.toArray.size = xs.length := by rw [← hll]; simp
    have hfl : (flatK (Subtype.val : Elt 2 → List Value) 2 l.toArray) = xs.flatten.toArray := by
      apply Array.ext'
      rw [flatK_list Subtype.val 2 (by decide) (fun x => x.2.1) l, hll]
    have hfr : (flatK (Subtype.val : Elt 2 → List Value) 2 l.toArray.reverse) = xs.reverse.flatten.toArray := by
      apply Array.ext'
      rw [show l.toArray.reverse = l.reverse.toArray by simp, flatK_list Subtype.val 2 (by decide) (fun x => x.2.1) l.reverse, List.map_reverse, hll]
    have hlen : xs.flatten.length = xs.length * 2 := flatten_len (fun x hx' => (hx x hx').1)
    have hH : HoldsK (Subtype.val : Elt 2 → List Value) 2 w g 0 l.toArray := by
      unfold HoldsK
      rw [hfl]
      exact holds_id hb (by rw [hlen]; exact h4)
    have := AnyQ.slices_Reverse Tryd.revP 2 Tryd.isAgg103 Tryd.sizeOf103 (Subtype.val : Elt 2 → List Value) (fun x => x.2.1) (fun x => x.2.2) g 0 cap l.toArray w hH (by omega)
    rw [hsz] at this
    refine this.mono ?_
    rintro e w' ⟨rfl, n, rfl⟩
    unfold putRowK
    rw [hfr]
    exact ⟨rfl, OwnRows.turned (fun x hx' => hx x (by simpa using hx')) (by simp) hg hb h1 h2 h3, grownBy_id _⟩
/-- a copy, turned -/
theorem CloneRev_P (v : Value) (xs : List (List Value)) (w : World) (h : RowsAt 2 w v xs) (hl : xs.length ≤ 1000000000) :
    Calls Tryd.prog 66 #[v] w fun e w1 => ∃ v', e = .returned v' ∧ OwnRows w.heap.size 103 2 w1 v' xs ∧ Fr noB w w1 ∧
      Calls Tryd.prog 72 #[v'] w1 fun e w2 => e = .returned (.tuple #[]) ∧ RowsAt 2 w2 v' xs.reverse ∧ Fr noB w w2 := by
  refine (Clone_P v xs w h hl).mono ?_
  rintro e w1 ⟨v', rfl, ho, hf⟩
  refine ⟨v', rfl, ho, hf, (Reverse_P _ v' xs w1 ho hl).mono ?_⟩
  rintro e w2 ⟨rfl, ho2, hg⟩
  exact ⟨rfl, ho2.at, hf.grownNew hg ho.block⟩

theorem info_Cx : (Tryd.prog.info? 61).map (fun i => (i.zero, i.size, i.bytes)) = some (some (.agg #[.string ⟨#[]⟩, .string ⟨#[]⟩, .slice none 0 0]), 3, 56) := by kernel_rfl
set_option maxHeartbeats 2000000 in
set_option maxRecDepth 100000 in
theorem Clone_C (v : Value) (xs : List (List Value)) (w : World) (h : RowsAt 3 w v xs) (hl : xs.length ≤ 1000000000) :
    Calls Tryd.prog 37 #[v] w fun e w' => ∃ v', e = .returned v' ∧ OwnRows w.heap.size 61 3 w' v' xs ∧ Fr noB w w' := by
  obtain ⟨a, c, hv⟩ := h.form
  subst hv
  have q22 : ∀ (w : World) (a : Option Addr) (n c n' c' : Nat), (binOp .eql 53 (.slice a n c) (.slice none n' c')).run Tryd.prog w = .ok (.bool a.isNone) w := fun w a n c n' c' => Lib.run_eql_slice_nil w _ _ a n c n' c' Tryd.underlying53
  cases a with
  | none =>
    obtain ⟨rfl, rfl⟩ : xs = [] ∧ c = 0 := by
      rcases h.2 with ⟨a', c', hv, hs, hc⟩ | ⟨bk, o', c', hf, _⟩
      · injection hv with e1 e2 e3
        exact ⟨hs, e3.trans (hc e1.symm)⟩
      · injection hf with e1; cases e1
    go_enter Tryd.func37, Tryd.ntmps37
    go_wp2
    go_ret
    exact ⟨_, rfl, OwnRows.nil _ _ _ _, Fr.refl _ _⟩
  | some ad =>
    have HX := h.1
    have HC := Lib.hid (show ∀ j u, xs.flatten[j]? = some u → w.cell? (ad.add j) = some u from fun j u hj => by
      rcases h.2 with ⟨_, _, _, e, _⟩ | ⟨bk, o', c', hf, g1, g2, g3, g4⟩
      · subst e; simp at hj
      · cases hf
        have hfl : xs.flatten.length = xs.length * 3 := flatten_len (fun x hx => (HX x hx).1)
        have hjl := (List.getElem?_eq_some_iff.1 hj).1
        have hd : j / 3 < xs.length := by omega
        have hm : j % 3 < 3 := by omega
        have hx : (xs[j / 3]).length = 3 := (HX _ (List.getElem_mem hd)).1
        have e1 := flatten_at (k := 3) (xs := xs) (fun x hx => (HX x hx).1) (j := j / 3) (List.getElem?_eq_getElem hd) (i := j % 3) (List.getElem?_eq_getElem (by rw [hx]; exact hm))
        rw [Nat.div_add_mod'] at e1
        rw [e1] at hj
        cases hj
        have := g4 (j / 3) _ (List.getElem?_eq_getElem hd) (j % 3) _ (List.getElem?_eq_getElem (by rw [hx]; exact hm))
        have ea : (Addr.add ⟨bk, o', none⟩ j) = ⟨bk, o' + j, none⟩ := by unfold Addr.add; split <;> simp_all
        rw [ea, ← this]
        congr 2
        omega)
    have HF := Lib.hid (show xs.flatten.length = xs.length * 3 from flatten_len (fun x hx => (HX x hx).1))
    have HXX := Lib.hid HX
    obtain ⟨i0, hi, hz0, hz1, hz2⟩ := info_parts info_Cx
    clear HX h
    go_enter Tryd.func37, Tryd.ntmps37
    go_wp2_with (at_builtin; refine wpList_append_own _ rfl _ _ 53 rfl w.heap.size 61 i0 (.agg #[.string ⟨#[]⟩, .string ⟨#[]⟩, .slice none 0 0]) 3 56 Tryd.underlying53 hi hz0 hz1 hz2 rfl (by decide) _ _ _ rfl (World.ownsRow_made w #[] 0 (Nat.le_refl _) (Nat.zero_le _) rfl) ad xs.length c xs.flatten rfl HF.out ?qc2 ?qc3 ?qc4 ?qc5 ?qc6 ?_)
    case qc2 =>
      intro j u hj
      exact Lib.cell?_alloc_some _ (HC.out j u hj)
    case qc3 =>
      intro u hu
      obtain ⟨x, hx, hux⟩ := List.mem_flatten.1 hu
      exact (HXX.out x hx).2 u hux
    case qc4 => unfold maxLen; omega
    case qc5 => omega
    case qc6 => simp
    intro v' w1 hown hgrow hnil
    go_wp2
    go_ret
    refine ⟨v', rfl, ⟨HXX.out, by simpa using hown⟩, Fr.of_below (((Below.refl _ w).alloc (Nat.le_refl _) _).grown hgrow (by simp) (by intro k hk; simp [Value.ownBlock] at hk; omega))⟩
theorem Reverse_C (base : Nat) (v : Value) (xs : List (List Value)) (w : World) (h : OwnRows base 61 3 w v xs) (hl : xs.length ≤ 1000000000) :
    Calls Tryd.prog 38 #[v] w fun e w' => e = .returned (.tuple #[]) ∧ OwnRows base 61 3 w' v xs.reverse ∧ w.grownBy w' v.ownBlock := by
  rcases h.2.2 with ⟨rfl, h0⟩ | ⟨g, cap, cur, rfl, hg, hb, h1, h2, h3, h4⟩
  · obtain rfl : xs = [] := List.length_eq_zero_iff.1 h0
    refine (AnyQ.slices_Reverse_empty Tryd.revC none 0 w).mono ?_
    rintro e w' ⟨rfl, rfl⟩
    exact ⟨rfl, h, ⟨rfl, rfl, rfl, Nat.le_refl _, fun _ _ _ => rfl⟩⟩
  · have hx := h.1
    obtain ⟨l, hll⟩ := elts hx
    have hsz : l.toArray.size = xs.length := by rw [← hll]; simp
    have hfl : (flatK (Subtype.val : Elt 3 → List Value) 3 l.toArray) = xs.flatten.toArray := by
      apply Array.ext'
      rw [flatK_list Subtype.val 3 (by decide) (fun x => x.2.1) l, hll]
    have hfr : (flatK (Subtype.val : Elt 3 → List Value) 3 l.toArray.reverse) = xs.reverse.flatten.toArray := by
      apply Array.ext'
      rw [show l.toArray.reverse = l.reverse.toArray by simp, flatK_list Subtype.val 3 (by decide) (fun x => x.2.1) l.reverse, List.map_reverse, hll]
    have hlen : xs.flatten.length = xs.length * 3 := flatten_len (fun x hx' => (hx x hx').1)
    have hH : HoldsK (Subtype.val : Elt 3 → List Value) 3 w g 0 l.toArray := by
      unfold HoldsK
      rw [hfl]
      exact holds_id hb (by rw [hlen]; exact h4)
    have := AnyQ.slices_Reverse Tryd.revC 3 Tryd.isAgg61 Tryd.sizeOf61 (Subtype.val : Elt 3 → List Value) (fun x => x.2.1) (fun x => x.2.2) g 0 cap l.toArray w hH (by omega)
    rw [hsz] at this
    refine this.mono ?_
    rintro e w' ⟨rfl, n, rfl⟩
    unfold putRowK
    rw [hfr]
    exact ⟨rfl, OwnRows.turned (fun x hx' => hx x (by simpa using hx')) (by simp) hg hb h1 h2 h3, grownBy_id _⟩
/-- a copy, turned -/
theorem CloneRev_C (v : Value) (xs : List (List Value)) (w : World) (h : RowsAt 3 w v xs) (hl : xs.length ≤ 1000000000) :
    Calls Tryd.prog 37 #[v] w fun e w1 => ∃ v', e = .returned v' ∧ OwnRows w.heap.size 61 3 w1 v' xs ∧ Fr noB w w1 ∧
      Calls Tryd.prog 38 #[v'] w1 fun e w2 => e = .returned (.tuple #[]) ∧ RowsAt 3 w2 v' xs.reverse ∧ Fr noB w w2 := by
  refine (Clone_C v xs w h hl).mono ?_
  rintro e w1 ⟨v', rfl, ho, hf⟩
  refine ⟨v', rfl, ho, hf, (Reverse_C _ v' xs w1 ho hl).mono ?_⟩
  rintro e w2 ⟨rfl, ho2, hg⟩
  exact ⟨rfl, ho2.at, hf.grownNew hg ho.block⟩

end Go.Proofs.YtegbacpenolehaaDoor
