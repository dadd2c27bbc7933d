/- slices.Clone at grants. -/
import Derived.Test.YtkoobhgedoanhaaDoorRowGr
import Derived.Test.YtkoobhgedoanhaaDoorRowS
import Derived.Test.YtkoobhgedoanhaaDoorShelf
namespace Go.Proofs.YtkoobhgedoanhaaDoor
open Go.RowKit

theorem info_Gx : (Tryd.prog.info? 34).map (fun i => (i.zero, i.size, i.bytes)) = some (some (.agg #[.bool false, .string ⟨#[]⟩, .int .i64 0, .bool false, .string ⟨#[]⟩, .string ⟨#[]⟩, .int .i64 0, .string ⟨#[]⟩, .string ⟨#[]⟩, .string ⟨#[]⟩, .bool false, .string ⟨#[]⟩, .bool false, .slice none 0 0, .int .i64 0, .slice none 0 0]), 16, 216) := by kernel_rfl
set_option maxHeartbeats 2000000 in
set_option maxRecDepth 100000 in
theorem Clone_Gr (v : Value) (xs : List (List Value)) (w : World) (h : RowsAt 16 w v xs) (hl : xs.length ≤ 1000000000) :
    Calls Tryd.prog 21 #[v] w fun e w' => ∃ v', e = .returned v' ∧ OwnRows w.heap.size 34 16 w' v' xs ∧ Fr noB w w' := by
  obtain ⟨a, c, hv⟩ := h.form
  subst hv
  have q22 : ∀ (w : World) (a : Option Addr) (n c n' c' : Nat), (binOp .eql 22 (.slice a n c) (.slice none n' c')).run Tryd.prog w = .ok (.bool a.isNone) w := fun w a n c n' c' => Lib.run_eql_slice_nil w _ _ a n c n' c' Tryd.underlying22
  cases a with
  | none =>
    obtain ⟨rfl, rfl⟩ : xs = [] ∧ c = 0 := by
      rcases h.2 with ⟨a', c', hv, hs, hc⟩ | ⟨bk, o', c', hf, _⟩
      · injection hv with e1 e2 e3
        exact ⟨hs, e3.trans (hc e1.symm)⟩
      · injection hf with e1; cases e1
    go_enter Tryd.func21, Tryd.ntmps21
    go_wp2
    go_ret
    exact ⟨_, rfl, OwnRows.nil _ _ _ _, Fr.refl _ _⟩
  | some ad =>
    have HX := h.1
    have HC := Lib.hid (show ∀ j u, xs.flatten[j]? = some u → w.cell? (ad.add j) = some u from fun j u hj => by
      rcases h.2 with ⟨_, _, _, e, _⟩ | ⟨bk, o', c', hf, g1, g2, g3, g4⟩
      · subst e; simp at hj
      · cases hf
        have hfl : xs.flatten.length = xs.length * 16 := flatten_len (fun x hx => (HX x hx).1)
        have hjl := (List.getElem?_eq_some_iff.1 hj).1
        have hd : j / 16 < xs.length := by omega
        have hm : j % 16 < 16 := by omega
        have hx : (xs[j / 16]).length = 16 := (HX _ (List.getElem_mem hd)).1
        have e1 := flatten_at (k := 16) (xs := xs) (fun x hx => (HX x hx).1) (j := j / 16) (List.getElem?_eq_getElem hd) (i := j % 16) (List.getElem?_eq_getElem (by rw [hx]; exact hm))
        rw [Nat.div_add_mod'] at e1
        rw [e1] at hj
        cases hj
        have := g4 (j / 16) _ (List.getElem?_eq_getElem hd) (j % 16) _ (List.getElem?_eq_getElem (by rw [hx]; exact hm))
        have ea : (Addr.add ⟨bk, o', none⟩ j) = ⟨bk, o' + j, none⟩ := by unfold Addr.add; split <;> simp_all
        rw [ea, ← this]
        congr 2
        omega)
    have HF := Lib.hid (show xs.flatten.length = xs.length * 16 from flatten_len (fun x hx => (HX x hx).1))
    have HXX := Lib.hid HX
    obtain ⟨i0, hi, hz0, hz1, hz2⟩ := info_parts info_Gx
    clear HX h
    go_enter Tryd.func21, Tryd.ntmps21
    go_wp2_with (at_builtin; refine wpList_append_own _ rfl _ _ 22 rfl w.heap.size 34 i0 (.agg #[.bool false, .string ⟨#[]⟩, .int .i64 0, .bool false, .string ⟨#[]⟩, .string ⟨#[]⟩, .int .i64 0, .string ⟨#[]⟩, .string ⟨#[]⟩, .string ⟨#[]⟩, .bool false, .string ⟨#[]⟩, .bool false, .slice none 0 0, .int .i64 0, .slice none 0 0]) 16 216 Tryd.underlying22 hi hz0 hz1 hz2 rfl (by decide) _ _ _ rfl (World.ownsRow_made w #[] 0 (Nat.le_refl _) (Nat.zero_le _) rfl) ad xs.length c xs.flatten rfl HF.out ?qc2 ?qc3 ?qc4 ?qc5 ?qc6 ?_)
    case qc2 =>
      intro j u hj
      exact Lib.cell?_alloc_some _ (HC.out j u hj)
    case qc3 =>
      intro u hu
      obtain ⟨x, hx, hux⟩ := List.mem_flatten.1 hu
      exact (HXX.out x hx).2 u hux
    case qc4 => unfold maxLen; omega
    case qc5 => omega
    case qc6 => simp
    intro v' w1 hown hgrow hnil
    go_wp2
    go_ret
    refine ⟨v', rfl, ⟨HXX.out, by simpa using hown⟩, Fr.of_below (((Below.refl _ w).alloc (Nat.le_refl _) _).grown hgrow (by simp) (by intro k hk; simp [Value.ownBlock] at hk; omega))⟩
end Go.Proofs.YtkoobhgedoanhaaDoor
