/- The package bank: Grants, Find. -/
import Derived.Test.YtkoobhgedoanhaaDoorBank3
namespace Go.Proofs.YtkoobhgedoanhaaDoor
open Go.RowKit

theorem info_grant : (Tryd.prog.info? 34).map (fun i => (i.zero, i.size, i.bytes)) = some (some (.agg zGrant), 16, 216) := by kernel_rfl
theorem zGrant_one : zGrant.all (·.oneCell') = true := by decide +kernel
/-- rows of grants, made behind w -/
def GrantsNew (base : Nat) (w : World) (gs : List (GrantOf Texts)) (v : Value) (w' : World) : Prop := GrantsIn base w' v gs ∧ ∀ k, v.ownBlock = some k → w.heap.size ≤ k
def GrantsPost (base : Nat) (w : World) (gs : List (GrantOf Texts)) (e : Ending) (w' : World) : Prop :=
  ∃ v, e = .returned v ∧ GrantsNew base w gs v w' ∧ Fr noB w w'
def GrRel (base : Nat) (w : World) (gs : List (GrantOf Texts)) (v i : Value) (wr : World) : Prop :=
  ∃ (k : Nat) (rs : List (GrantOf Value)), k ≤ gs.length ∧ i = .int .i64 k ∧ OwnRows w.heap.size 34 16 wr v (rs.map GrantOf.cells) ∧ Both (GrantOf.Reads (StrsIn base wr)) rs (gs.take k) ∧ Fr noB w wr
set_option maxHeartbeats 2000000 in
set_option maxRecDepth 100000 in
theorem Grants_any (base : Nat) (w : World) (b : Nat) (gv wv : Value) (gs : List (GrantOf Texts)) (ws : List (WaitOf Texts)) (h : BankIs base w b gv wv gs ws) (hgl : gs.length < 68719476736) :
    Calls Tryd.prog 14 #[.pointer (some ⟨b, 0, none⟩)] w (GrantsPost base w gs) := by
  have h0 := h.c0
  obtain ⟨av, cv, hv⟩ := h.grants.form
  subst hv
  have hlt := h.lt
  have hbase : base ≤ w.heap.size := by have := h.low; omega
  go_enter Tryd.func14, Tryd.ntmps14
  go_wp2
  clear h0
  go_loopw [3, 11] (GrRel base w gs) (fun _ i _ => gs.length - (intOf i).toNat)
  case atStart => exact ⟨0, [], Nat.zero_le _, rfl, OwnRows.nil _ _ _ _, .nil, Fr.refl _ _⟩
  case round =>
    obtain ⟨k, rs, hk, rfl, hown, hboth, hfr⟩ := hrel
    by_cases hks : k < gs.length
    · obtain ⟨bk, c, hf1, hml, r, hone, hr, hcell⟩ := (h.frN hfr).grants.at hks
      cases hf1
      unfold maxLen at hml
      obtain ⟨x, hx⟩ : ∃ x, x = r.cells := ⟨_, rfl⟩
      have hxk : x.length = 16 := by rw [hx]; rfl
      have hst := fun W => run_storeCells_new (P := Tryd.prog) W 34 #[.bool false, .string ⟨#[]⟩, .int .i64 0, .bool false, .string ⟨#[]⟩, .string ⟨#[]⟩, .int .i64 0, .string ⟨#[]⟩, .string ⟨#[]⟩, .string ⟨#[]⟩, .bool false, .string ⟨#[]⟩, .bool false, .slice none 0 0, .int .i64 0, .slice none 0 0] x (by rw [hxk]; rfl) (by rw [hx]; exact hone)
      rw [← hx] at hcell
      have HX := Lib.hid hx
      have hxi : (Tryd.prog.info? 34).map (·.size) = some x.toArray.size := by rw [List.size_toArray, hxk]; kernel_rfl
      have HXI := Lib.hid hxi
      clear hx hxi
      obtain ⟨av, cv, hav⟩ := hown.form
      subst hav
      rw [List.length_map, hboth.len, List.length_take, Nat.min_eq_left hk] at hown ⊢
      go_wp2_with (first | ((with_reducible refine wpList_at ⟨some 14, _, _, _, _, _⟩ ?_); refine wpList_load_mid rfl 34 (.tmp 13) rfl bk (k * 16) rfl x _ hcell Tryd.underlying34 rfl (by have h := HXI.out; rw [List.size_toArray] at h; exact h) ?_) | ((with_reducible refine wpList_at ⟨some 16, _, _, _, _, _⟩ ?_); refine wpList_load_row rfl 34 (.tmp 5) rfl wr.heap.size rfl _ x.toArray (0, 0) _ (new_block wr _) Tryd.underlying34 rfl HXI.out ?_) | fail)
      have hfa : Fr noB wr (wr.alloc (.cells x.toArray 34)) := (Fr.refl noB wr).alloc _
      have hr2 := hr.mono (fun _ _ h => h.frN hfa)
      have hown2 := hown.alloc (.cells x.toArray 34)
      have hboth2 := hboth.mono (fun _ _ h => h.mono (fun _ _ h => h.frN hfa))
      have HFR := hfr.trans hfa
      have hwb : w.heap.size ≤ wr.heap.size := hfr.size
      have hcall := Lib.hid (copied_any base r gs[k] _ (by simp; omega) hr2)
      rw [← HX.out] at hcall
      clear hr hr2 hfa hone hst hcell hown hboth hfr
      generalize wr.alloc (.cells x.toArray 34) = W2 at *
      refine hcall.out.mono ?_
      rintro e w3 hcop
      obtain ⟨r3, rfl, hr3, hone3, hf3⟩ := hcop
      have hown3 := hown2.fr hf3 (fun _ _ h => h)
      have hboth3 := hboth2.mono (fun _ _ h => h.mono (fun _ _ h => h.frN hf3))
      have HF3 := HFR.trans hf3
      clear hcall hown2 hboth2 HFR hf3
      obtain ⟨y, hy⟩ : ∃ y, y = r3.cells := ⟨_, rfl⟩
      have hyk : y.length = 16 := by rw [hy]; rfl
      rw [← hy] at hone3 ⊢
      have HY := Lib.hid hy
      clear hy
      have HOWN := Lib.hid hown3
      clear hown3
      have hfold := fold_zip y #[.bool false, .string ⟨#[]⟩, .int .i64 0, .bool false, .string ⟨#[]⟩, .string ⟨#[]⟩, .int .i64 0, .string ⟨#[]⟩, .string ⟨#[]⟩, .string ⟨#[]⟩, .bool false, .string ⟨#[]⟩, .bool false, .slice none 0 0, .int .i64 0, .slice none 0 0] (by rw [hyk]; rfl)
      have hbw : w.heap.size ≤ w3.heap.size := HF3.size
      have hrl := hboth3.len
      rw [List.length_take, Nat.min_eq_left hk] at hrl
      have HRL := Lib.hid hrl
      have hkb : (rs.map GrantOf.cells).length < 68719476736 := by rw [List.length_map, hrl]; omega
      clear hrl
      go_wp2_with (at_builtin; go_must (refine wpList_row rfl _ _ 22 34 rfl 16 216 (.agg zGrant) Tryd.underlying22 info_grant rfl (by decide) (by decide) w.heap.size (.slice av k cv) (rs.map GrantOf.cells) rfl (HOWN.out.alloc _) w3.heap.size 1 y rfl hyk hone3 (fun i u hi => by rw [World.cell?_alloc_mark]; simpa using hi) hkb (by simp; omega) ?_); intro v' w4 hown4 hg4)
      have hfo := Fr.ofGrown _ hg4
      have hoff := HOWN.out.off (base := base) hbase (by decide)
      rw [HY.out] at hown4
      refine ⟨⟨k + 1, rs ++ [r3], by omega, by go_num, by rw [List.map_append]; exact hown4, ?_, HF3.step hfo (fun j hj hS => by have h2 := HOWN.out.block j hS; omega)⟩, by simp [intOf]; omega⟩
      rw [take_snocG (List.getElem?_eq_getElem hks)]
      exact (hboth3.mono (fun _ _ h => h.mono (fun _ _ h => h.fr hfo hoff))).app (.cons (hr3.mono (fun _ _ h => h.fr hfo hoff)) .nil)
    · rw [List.take_of_length_le (by omega)] at hboth
      obtain ⟨av, cv, hav⟩ := hown.form
      subst hav
      go_wp2
      go_ret
      exact ⟨_, rfl, ⟨⟨rs, hown.up hbase, hboth⟩, hown.block⟩, hfr⟩

theorem findL_in {α : Type} (f : α → Int) : ∀ (l : List α) (i : Nat) (acc : Int × Int), (∃ k, k < l.length ∧ (findL f l i acc).2 = ((i + k : Nat) : Int) ) ∨ (findL f l i acc).2 = acc.2
  | [], _, _ => Or.inr rfl
  | g :: l, i, acc => by
    rw [findL]
    rcases findL_in f l (i + 1) (if 0 ≤ f g ∧ acc.1 ≤ f g then (f g, (i : Int)) else acc) with ⟨k, hk, h⟩ | h
    · exact Or.inl ⟨k + 1, by simp; omega, by rw [h]; congr 1; omega⟩
    · rw [h]
      by_cases hc : 0 ≤ f g ∧ acc.1 ≤ f g
      · rw [if_pos hc]; exact Or.inl ⟨0, by simp, by simp⟩
      · rw [if_neg hc]; exact Or.inr rfl
theorem findI_in (gs : List (GrantOf Texts)) (o : Ori) (proxy : Bool) (path : ByteArray) : (∃ k, k < gs.length ∧ findI gs o proxy path = (k : Int)) ∨ findI gs o proxy path = -1 := by
  rcases findL_in (reachG o proxy path) gs 0 (-1, -1) with ⟨k, hk, h⟩ | h
  · exact Or.inl ⟨k, hk, by unfold findI; rw [h, Nat.zero_add]⟩
  · exact Or.inr h
/-- the grant that counts -/
def findG (gs : List (GrantOf Texts)) (o : Ori) (proxy : Bool) (path : ByteArray) : Option (GrantOf Texts) := if 0 ≤ findI gs o proxy path then gs[(findI gs o proxy path).toNat]? else none
def FindPost (base : Nat) (w : World) (m : Option (GrantOf Texts)) (e : Ending) (w' : World) : Prop :=
  Fr noB w w' ∧ match m with
  | none => e = .returned (.tuple #[.agg zGrant, .bool false])
  | some g => ∃ r : GrantOf Value, e = .returned (.tuple #[.agg r.cells.toArray, .bool true]) ∧ r.Reads (StrsIn base w') g ∧ ∀ u ∈ r.cells, u.oneCell' = true
end Go.Proofs.YtkoobhgedoanhaaDoor
