/- The package bank: Grants, Find. -/
import Derived.Test.YteffnckhapmpgaaBank3
namespace Go.Proofs.Yteffnckhapmpgaa
open Go.RowKit

theorem info_grant : (Try.prog.info? 48).map (fun i => (i.zero, i.size, i.bytes)) = some (some (.agg zGrant), 16, 216) := by kernel_rfl
theorem zGrant_one : zGrant.all (·.oneCell') = true := by decide +kernel
/-- rows of grants, made behind w -/
def GrantsNew (base : Nat) (w : World) (gs : List (GrantOf Texts)) (v : Value) (w' : World) : Prop := GrantsIn base w' v gs ∧ ∀ k, v.ownBlock = some k → w.heap.size ≤ k
def GrantsPost (base : Nat) (w : World) (gs : List (GrantOf Texts)) (e : Ending) (w' : World) : Prop :=
  ∃ v, e = .returned v ∧ GrantsNew base w gs v w' ∧ Fr noB w w'
def GrRel (base : Nat) (w : World) (gs : List (GrantOf Texts)) (v i : Value) (wr : World) : Prop :=
  ∃ (k : Nat) (rs : List (GrantOf Value)), k ≤ gs.length ∧ i = .int .i64 k ∧ OwnRows w.heap.size 48 16 wr v (rs.map GrantOf.cells) ∧ Both (GrantOf.Reads (StrsIn base wr)) rs (gs.take k) ∧ Fr noB w wr
set_option maxHeartbeats 2000000 in
set_option maxRecDepth 100000 in
theorem Grants_any (base : Nat) (w : World) (b : Nat) (gv wv : Value) (gs : List (GrantOf Texts)) (ws : List (WaitOf Texts)) (h : BankIs base w b gv wv gs ws) (hgl : gs.length < 68719476736) :
    Calls Try.prog 26 #[.pointer (some ⟨b, 0, none⟩)] w (GrantsPost base w gs) := by
  have h0 := h.c0
  obtain ⟨av, cv, hv⟩ := h.grants.form
  subst hv
  have hlt := h.lt
  have hbase : base ≤ w.heap.size := by have := h.low; omega
  go_enter Try.func26, Try.ntmps26
  go_wp2
  clear h0
  go_loopw [3, 11] (GrRel base w gs) (fun _ i _ => gs.length - (intOf i).toNat)
  case atStart => exact ⟨0, [], Nat.zero_le _, rfl, OwnRows.nil _ _ _ _, .nil, Fr.refl _ _⟩
  case round =>
    obtain ⟨k, rs, hk, rfl, hown, hboth, hfr⟩ := hrel
    by_cases hks : k < gs.length
    · obtain ⟨bk, c, hf1, hml, r, hone, hr, hcell⟩ := (h.frN hfr).grants.at hks
      cases hf1
      unfold maxLen at hml
      obtain ⟨x, hx⟩ : ∃ x, x = r.cells := ⟨_, rfl⟩
      have hxk : x.length = 16 := by rw [hx]; rfl
      have hst := fun W => run_storeCells_new (P := Try.prog) W 48 #[.bool false, .string ⟨#[]⟩, .int .i64 0, .bool false, .string ⟨#[]⟩, .string ⟨#[]⟩, .int .i64 0, .string ⟨#[]⟩, .string ⟨#[]⟩, .string ⟨#[]⟩, .bool false, .string ⟨#[]⟩, .bool false, .slice none 0 0, .int .i64 0, .slice none 0 0] x (by rw [hxk]; rfl) (by rw [hx]; exact hone)
      rw [← hx] at hcell
      have HX := Lib.hid hx
      have hxi : (Try.prog.info? 48).map (·.size) = some x.toArray.size := by rw [List.size_toArray, hxk]; kernel_rfl
      have HXI := Lib.hid hxi
      clear hx hxi
      obtain ⟨av, cv, hav⟩ := hown.form
      subst hav
      rw [List.length_map, hboth.len, List.length_take, Nat.min_eq_left hk] at hown ⊢
      go_wp2_with (first | ((with_reducible refine wpList_at ⟨some 14, _, _, _, _, _⟩ ?_); refine wpList_load_mid rfl 48 (.tmp 13) rfl bk (k * 16) rfl x _ hcell Try.underlying48 rfl (by have h := HXI.out; rw [List.size_toArray] at h; exact h) ?_) | ((with_reducible refine wpList_at ⟨some 16, _, _, _, _, _⟩ ?_); refine wpList_load_row rfl 48 (.tmp 5) rfl wr.heap.size rfl _ x.toArray (0, 0) _ (new_block wr _) Try.underlying48 rfl HXI.out ?_) | fail)
      have hfa : Fr noB wr (wr.alloc (.cells x.toArray 48)) := (Fr.refl noB wr).alloc _
      have hr2 := hr.mono (fun _ _ h => h.frN hfa)
      have hown2 := hown.alloc (.cells x.toArray 48)
      have hboth2 := hboth.mono (fun _ _ h => h.mono (fun _ _ h => h.frN hfa))
      have HFR := hfr.trans hfa
      have hwb : w.heap.size ≤ wr.heap.size := hfr.size
      have hcall := Lib.hid (copied_any base r gs[k] _ (by simp; omega) hr2)
      rw [← HX.out] at hcall
      clear hr hr2 hfa hone hst hcell hown hboth hfr
      generalize wr.alloc (.cells x.toArray 48) = W2 at *
      refine hcall.out.mono ?_
      rintro e w3 hcop
      obtain ⟨r3, rfl, hr3, hone3, hf3⟩ := hcop
      have hown3 := hown2.fr hf3 (fun _ _ h => h)
      have hboth3 := hboth2.mono (fun _ _ h => h.mono (fun _ _ h => h.frN hf3))
      have HF3 := HFR.trans hf3
      clear hcall hown2 hboth2 HFR hf3
      obtain ⟨y, hy⟩ : ∃ y, y = r3.cells := ⟨_, rfl⟩
      have hyk : y.length = 16 := by rw [hy]; rfl
      rw [← hy] at hone3 ⊢
      have HY := Lib.hid hy
      clear hy
      have HOWN := Lib.hid hown3
      clear hown3
      have hfold := fold_zip y #[.bool false, .string ⟨#[]⟩, .int .i64 0, .bool false, .string ⟨#[]⟩, .string ⟨#[]⟩, .int .i64 0, .string ⟨#[]⟩, .string ⟨#[]⟩, .string ⟨#[]⟩, .bool false, .string ⟨#[]⟩, .bool false, .slice none 0 0, .int .i64 0, .slice none 0 0] (by rw [hyk]; rfl)
      have hbw : w.heap.size ≤ w3.heap.size := HF3.size
      have hrl := hboth3.len
      rw [List.length_take, Nat.min_eq_left hk] at hrl
      have HRL := Lib.hid hrl
      have hkb : (rs.map GrantOf.cells).length < 68719476736 := by rw [List.length_map, hrl]; omega
      clear hrl
      go_wp2_with (at_builtin; go_must (refine wpList_row rfl _ _ 36 48 rfl 16 216 (.agg zGrant) Try.underlying36 info_grant rfl (by decide) (by decide) w.heap.size (.slice av k cv) (rs.map GrantOf.cells) rfl (HOWN.out.alloc _) w3.heap.size 1 y rfl hyk hone3 (fun i u hi => by rw [World.cell?_alloc_mark]; simpa using hi) hkb (by simp; omega) ?_); intro v' w4 hown4 hg4)
      have hfo := Fr.ofGrown _ hg4
      have hoff := HOWN.out.off (base := base) hbase (by decide)
      rw [HY.out] at hown4
      refine ⟨⟨k + 1, rs ++ [r3], by omega, by go_num, by rw [List.map_append]; exact hown4, ?_, HF3.step hfo (fun j hj hS => by have h2 := HOWN.out.block j hS; omega)⟩, by simp [intOf]; omega⟩
      rw [take_snocG (List.getElem?_eq_getElem hks)]
      exact (hboth3.mono (fun _ _ h => h.mono (fun _ _ h => h.fr hfo hoff))).app (.cons (hr3.mono (fun _ _ h => h.fr hfo hoff)) .nil)
    · rw [List.take_of_length_le (by omega)] at hboth
      obtain ⟨av, cv, hav⟩ := hown.form
      subst hav
      go_wp2
      go_ret
      exact ⟨_, rfl, ⟨⟨rs, hown.up hbase, hboth⟩, hown.block⟩, hfr⟩

theorem findL_in {α : Type} (f : α → Int) : ∀ (l : List α) (i : Nat) (acc : Int × Int), (∃ k, k < l.length ∧ (findL f l i acc).2 = ((i + k : Nat) : Int) ) ∨ (findL f l i acc).2 = acc.2
  | [], _, _ => Or.inr rfl
  | g :: l, i, acc => by
    rw [findL]
    rcases findL_in f l (i + 1) (if 0 ≤ f g ∧ acc.1 ≤ f g then (f g, (i : Int)) else acc) with ⟨k, hk, h⟩ | h
    · exact Or.inl ⟨k + 1, by simp; omega, by rw [h]; congr 1; omega⟩
    · rw [h]
      by_cases hc : 0 ≤ f g ∧ acc.1 ≤ f g
      · rw [if_pos hc]; exact Or.inl ⟨0, by simp, by simp⟩
      · rw [if_neg hc]; exact Or.inr rfl
theorem findI_in (gs : List (GrantOf Texts)) (o : Ori) (proxy : Bool) (path : ByteArray) : (∃ k, k < gs.length ∧ findI gs o proxy path = (k : Int)) ∨ findI gs o proxy path = -1 := by
  rcases findL_in (reachG o proxy path) gs 0 (-1, -1) with ⟨k, hk, h⟩ | h
  · exact Or.inl ⟨k, hk, by unfold findI; rw [h, Nat.zero_add]⟩
  · exact Or.inr h
/-- the grant that counts -/
def findG (gs : List (GrantOf Texts)) (o : Ori) (proxy : Bool) (path : ByteArray) : Option (GrantOf Texts) := if 0 ≤ findI gs o proxy path then gs[(findI gs o proxy path).toNat]? else none
def FindPost (base : Nat) (w : World) (m : Option (GrantOf Texts)) (e : Ending) (w' : World) : Prop :=
  Fr noB w w' ∧ match m with
  | none => e = .returned (.tuple #[.agg zGrant, .bool false])
  | some g => ∃ r : GrantOf Value, e = .returned (.tuple #[.agg r.cells.toArray, .bool true]) ∧ r.Reads (StrsIn base w') g ∧ ∀ u ∈ r.cells, u.oneCell' = true
set_option maxHeartbeats 2000000 in
set_option maxRecDepth 100000 in
theorem Find_any (base : Nat) (w : World) (b : Nat) (gv wv : Value) (gs : List (GrantOf Texts)) (ws : List (WaitOf Texts)) (o : Ori) (proxy : Bool) (path : ByteArray) (h : BankIs base w b gv wv gs ws) :
    Calls Try.prog 24 #[.pointer (some ⟨b, 0, none⟩), .agg o.cells.toArray, .bool proxy, .string path] w (FindPost base w (findG gs o proxy path)) := by
  unfold Ori.cells
  have hlt := h.lt
  have hlow := h.low
  go_enter Try.func24, Try.ntmps24
  go_wp2_with fail
  have hf0 : Fr noB w _ := ((Fr.refl noB w).alloc (.cells #[.bool o.secure, .string o.host, .int .i64 o.port] 38)).alloc (.cells zGrant 48)
  have b1 := new_block (w.alloc (.cells #[.bool o.secure, .string o.host, .int .i64 o.port] 38)) (.cells zGrant 48)
  rw [show (w.alloc (.cells #[.bool o.secure, .string o.host, .int .i64 o.port] 38)).heap.size = w.heap.size + 1 from by simp] at b1
  generalize (w.alloc (.cells _ 38)).alloc _ = W at hf0 b1
  have h1 := h.frN hf0
  refine (find_any base W b gv wv gs ws o proxy path h1).mono ?_
  rintro e u1 ⟨rfl, hf1⟩
  have b1' := hf1.keep b1 (fun h => h)
  have HF := hf0.trans hf1
  have h2 := h1.frN hf1
  rcases findI_in gs o proxy path with ⟨k, hk, he⟩ | he
  · have hg := Lib.hid (show findG gs o proxy path = some gs[k] by unfold findG; rw [he, if_pos (by omega)]; simp)
    rw [he]
    obtain ⟨bk, c, hf2, hml, r, hone, hr, hcell⟩ := h2.grants.at hk
    subst hf2
    unfold maxLen at hml
    have c0 := h2.c0
    obtain ⟨x, hx⟩ : ∃ x, x = r.cells := ⟨_, rfl⟩
    have hxk : x.length = 16 := by rw [hx]; rfl
    rw [← hx] at hcell
    have HX := Lib.hid hx
    have B1 := Lib.hid b1'
    have hub : base ≤ u1.heap.size := by have := h2.lt; omega
    have hcall := Lib.hid (copied_any base r gs[k] u1 hub hr)
    rw [← hx] at hcall
    have hxi := Lib.hid (show (Try.prog.info? 48).map (·.size) = some x.length by rw [hxk]; kernel_rfl)
    clear hx b1 b1' hr hone h1 h
    go_wp2_with (first | ((with_reducible refine wpList_at ⟨some 25, _, _, _, _, _⟩ ?_); go_must (refine wpList_load_mid rfl 48 (.tmp 24) rfl bk (k * 16) rfl x _ hcell Try.underlying48 rfl hxi.out ?_)) | fail)
    refine hcall.out.mono ?_
    intro e w3 hcop
    obtain ⟨r3, rfl, hr3, hone3, hf3⟩ := hcop
    have b3 := Lib.hid (hf3.keep B1.out (fun h => h))
    have hri : (Try.prog.info? 48).map (·.size) = some r3.cells.toArray.size := by kernel_rfl
    have HF3 := HF.trans hf3
    clear hcell hcall
    obtain ⟨y, hy⟩ : ∃ y, y = r3.cells := ⟨_, rfl⟩
    have HY := Lib.hid hy
    rw [← hy] at hri hone3 ⊢
    have hy1 := Lib.hid (all_oneCell_toArray hone3)
    have hyk := Lib.hid (show zGrant.size = y.toArray.size by rw [hy]; rfl)
    clear hy
    go_wp2_with (first | ((with_reducible refine wpList_at ⟨none, .store 48 _ _, _, _, _, _⟩ ?_); go_must (refine wpList_store_row rfl 48 (.tmp 8) (.tmp 26) rfl (w.heap.size + 1) y.toArray rfl rfl _ zGrant b3.out hri hyk.out hy1.out ?_)) | fail)
    have hof : Off base w3 (one (w.heap.size + 1)) := by
      rintro j rfl hj
      exact ⟨by omega, fun c f e => by rw [b3.out] at e; cases e⟩
    have hfs : Fr (one (w.heap.size + 1)) w3 (w3.setRow (w.heap.size + 1) y.toArray) := (Fr.refl (one (w.heap.size + 1)) w3).setRow (fun _ => rfl) _
    refine bodyPost_ret (results_cell_tmp (by rfl) _ _ (w.heap.size + 1) 48 y.toArray (0, 0) _ rfl (setRow_heap w3 (w.heap.size + 1) _ _ _ _ b3.out) Try.underlying48 rfl hri) rfl ?_
    have hone4 : ∀ u ∈ r3.cells, u.oneCell' = true := by rw [← HY.out]; exact hone3
    rw [HY.out] at *
    refine ⟨HF3.setRow (fun h => absurd h (by omega)) _, ?_⟩
    rw [hg.out]
    exact ⟨r3, rfl, hr3.mono (fun _ _ h => h.fr hfs hof), hone4⟩
  · have hg := Lib.hid (show findG gs o proxy path = none by unfold findG; rw [he]; rfl)
    rw [he]
    have B1 := Lib.hid b1'
    clear b1 b1' h1 h h2
    go_wp2_with (first | ((with_reducible refine wpList_at ⟨none, .store 48 _ _, _, _, _, _⟩ ?_); go_must (refine wpList_store_row rfl 48 (.tmp 8) (.tmp 18) rfl (w.heap.size + 1) zGrant rfl rfl _ zGrant B1.out (by kernel_rfl) rfl zGrant_one ?_)) | fail)
    refine bodyPost_ret (results_cell_tmp (by rfl) _ _ (w.heap.size + 1) 48 zGrant (0, 0) _ rfl (setRow_heap u1 (w.heap.size + 1) _ _ _ _ B1.out) Try.underlying48 rfl (by kernel_rfl)) rfl ?_
    refine ⟨HF.setRow (fun h => absurd h (by omega)) _, ?_⟩
    rw [hg.out]
    rfl
end Go.Proofs.Yteffnckhapmpgaa
