/- The package bank: Find. -/
import Derived.Test.YtkoobhgedoanhaaDoorBank4
namespace Go.Proofs.YtkoobhgedoanhaaDoor
open Go.RowKit

set_option maxHeartbeats 2000000 in
set_option maxRecDepth 100000 in
theorem Find_any (base : Nat) (w : World) (b : Nat) (gv wv : Value) (gs : List (GrantOf Texts)) (ws : List (WaitOf Texts)) (o : Ori) (proxy : Bool) (path : ByteArray) (h : BankIs base w b gv wv gs ws) :
    Calls Tryd.prog 13 #[.pointer (some ⟨b, 0, none⟩), .agg o.cells.toArray, .bool proxy, .string path] w (FindPost base w (findG gs o proxy path)) := by
  unfold Ori.cells
  have hlt := h.lt
  have hlow := h.low
  go_enter Tryd.func13, Tryd.ntmps13
  go_wp2_with fail
  have hf0 : Fr noB w _ := ((Fr.refl noB w).alloc (.cells #[.bool o.secure, .string o.host, .int .i64 o.port] 24)).alloc (.cells zGrant 34)
  have b1 := new_block (w.alloc (.cells #[.bool o.secure, .string o.host, .int .i64 o.port] 24)) (.cells zGrant 34)
  rw [show (w.alloc (.cells #[.bool o.secure, .string o.host, .int .i64 o.port] 24)).heap.size = w.heap.size + 1 from by simp] at b1
  generalize (w.alloc (.cells _ 24)).alloc _ = W at hf0 b1
  have h1 := h.frN hf0
  refine (find_any base W b gv wv gs ws o proxy path h1).mono ?_
  rintro e u1 ⟨rfl, hf1⟩
  have b1' := hf1.keep b1 (fun h => h)
  have HF := hf0.trans hf1
  have h2 := h1.frN hf1
  rcases findI_in gs o proxy path with ⟨k, hk, he⟩ | he
  · have hg := Lib.hid (show findG gs o proxy path = some gs[k] by unfold findG; rw [he, if_pos (by omega)]; simp)
    rw [he]
    obtain ⟨bk, c, hf2, hml, r, hone, hr, hcell⟩ := h2.grants.at hk
    subst hf2
    unfold maxLen at hml
    have c0 := h2.c0
    obtain ⟨x, hx⟩ : ∃ x, x = r.cells := ⟨_, rfl⟩
    have hxk : x.length = 16 := by rw [hx]; rfl
    rw [← hx] at hcell
    have HX := Lib.hid hx
    have B1 := Lib.hid b1'
    have hub : base ≤ u1.heap.size := by have := h2.lt; omega
    have hcall := Lib.hid (copied_any base r gs[k] u1 hub hr)
    rw [← hx] at hcall
    have hxi := Lib.hid (show (Tryd.prog.info? 34).map (·.size) = some x.length by rw [hxk]; kernel_rfl)
    clear hx b1 b1' hr hone h1 h
    go_wp2_with (first | ((with_reducible refine wpList_at ⟨some 25, _, _, _, _, _⟩ ?_); go_must (refine wpList_load_mid rfl 34 (.tmp 24) rfl bk (k * 16) rfl x _ hcell Tryd.underlying34 rfl hxi.out ?_)) | fail)
    refine hcall.out.mono ?_
    intro e w3 hcop
    obtain ⟨r3, rfl, hr3, hone3, hf3⟩ := hcop
    have b3 := Lib.hid (hf3.keep B1.out (fun h => h))
    have hri : (Tryd.prog.info? 34).map (·.size) = some r3.cells.toArray.size := by kernel_rfl
    have HF3 := HF.trans hf3
    clear hcell hcall
    obtain ⟨y, hy⟩ : ∃ y, y = r3.cells := ⟨_, rfl⟩
    have HY := Lib.hid hy
    rw [← hy] at hri hone3 ⊢
    have hy1 := Lib.hid (all_oneCell_toArray hone3)
    have hyk := Lib.hid (show zGrant.size = y.toArray.size by rw [hy]; rfl)
    clear hy
    go_wp2_with (first | ((with_reducible refine wpList_at ⟨none, .store 34 _ _, _, _, _, _⟩ ?_); go_must (refine wpList_store_row rfl 34 (.tmp 8) (.tmp 26) rfl (w.heap.size + 1) y.toArray rfl rfl _ zGrant b3.out hri hyk.out hy1.out ?_)) | fail)
    have hof : Off base w3 (one (w.heap.size + 1)) := by
      rintro j rfl hj
      exact ⟨by omega, fun c f e => by rw [b3.out] at e; cases e⟩
    have hfs : Fr (one (w.heap.size + 1)) w3 (w3.setRow (w.heap.size + 1) y.toArray) := (Fr.refl (one (w.heap.size + 1)) w3).setRow (fun _ => rfl) _
    refine bodyPost_ret (results_cell_tmp (by rfl) _ _ (w.heap.size + 1) 34 y.toArray (0, 0) _ rfl (setRow_heap w3 (w.heap.size + 1) _ _ _ _ b3.out) Tryd.underlying34 rfl hri) rfl ?_
    have hone4 : ∀ u ∈ r3.cells, u.oneCell' = true := by rw [← HY.out]; exact hone3
    rw [HY.out] at *
    refine ⟨HF3.setRow (fun h => absurd h (by omega)) _, ?_⟩
    rw [hg.out]
    exact ⟨r3, rfl, hr3.mono (fun _ _ h => h.fr hfs hof), hone4⟩
  · have hg := Lib.hid (show findG gs o proxy path = none by unfold findG; rw [he]; rfl)
    rw [he]
    have B1 := Lib.hid b1'
    clear b1 b1' h1 h h2
    go_wp2_with (first | ((with_reducible refine wpList_at ⟨none, .store 34 _ _, _, _, _, _⟩ ?_); go_must (refine wpList_store_row rfl 34 (.tmp 8) (.tmp 18) rfl (w.heap.size + 1) zGrant rfl rfl _ zGrant B1.out (by kernel_rfl) rfl zGrant_one ?_)) | fail)
    refine bodyPost_ret (results_cell_tmp (by rfl) _ _ (w.heap.size + 1) 34 zGrant (0, 0) _ rfl (setRow_heap u1 (w.heap.size + 1) _ _ _ _ B1.out) Tryd.underlying34 rfl (by kernel_rfl)) rfl ?_
    refine ⟨HF.setRow (fun h => absurd h (by omega)) _, ?_⟩
    rw [hg.out]
    rfl
end Go.Proofs.YtkoobhgedoanhaaDoor
