/- The package bank: Waits, Copy. -/
import Derived.Test.YteffnckhapmpgaaSweep
namespace Go.Proofs.Yteffnckhapmpgaa
open Go.RowKit

theorem info_wait : (Try.prog.info? 66).map (fun i => (i.zero, i.size, i.bytes)) = some (some (.agg zWa), 13, 168) := by kernel_rfl
def WaitAt (base : Nat) (w : World) (b : Nat) (o : Nat) (g : WaitOf Texts) : Prop :=
  ∃ r : WaitOf Value, (∀ u ∈ r.cells, u.oneCell' = true) ∧ r.Reads (StrsIn base w) g ∧ ∀ (i : Nat) u, r.cells[i]? = some u → w.cell? ⟨b, o + i, none⟩ = some u
theorem WaitsIn.at {base : Nat} {w : World} {v : Value} {gs : List (WaitOf Texts)} (h : WaitsIn base w v gs) {k : Nat} (hk : k < gs.length) :
    ∃ b c, v = .slice (some ⟨b, 0, none⟩) gs.length c ∧ gs.length ≤ maxLen ∧ WaitAt base w b (k * 13) gs[k] := by
  obtain ⟨rs, h1, h2⟩ := h
  have hl := h2.len
  obtain ⟨x, hx⟩ : ∃ x, rs[k]? = some x := ⟨_, List.getElem?_eq_getElem (by omega)⟩
  obtain ⟨g, hg, hr⟩ := h2.get hx
  rw [List.getElem?_eq_getElem hk] at hg
  obtain rfl := Option.some.inj hg
  have hat := h1.at
  rcases h1.2.2 with ⟨_, hn⟩ | ⟨bk, cap, cur, hv, _⟩
  · rw [List.length_map] at hn; omega
  rcases hat.2 with ⟨_, _, e1, e, _⟩ | ⟨bk', o, c, hv', q1, q2, q3, q4⟩
  · simp at e; rw [e] at hl; simp at hl; omega
  · rw [hv] at hv'
    cases hv'
    rw [List.length_map] at q1
    refine ⟨bk, cap, by rw [hv, List.length_map, hl], by omega, x, (h1.1 x.cells (List.mem_map.2 ⟨x, List.mem_of_getElem? hx, rfl⟩)).2, hr, ?_⟩
    intro i u hu
    have := q4 k x.cells (by rw [List.getElem?_map, hx]; rfl) i u hu
    rw [Nat.zero_add] at this
    exact this

def WaitsNew (base : Nat) (w : World) (gs : List (WaitOf Texts)) (v : Value) (w' : World) : Prop := WaitsIn base w' v gs ∧ ∀ k, v.ownBlock = some k → w.heap.size ≤ k
def WaitsPost (base : Nat) (w : World) (gs : List (WaitOf Texts)) (e : Ending) (w' : World) : Prop :=
  ∃ v, e = .returned v ∧ WaitsNew base w gs v w' ∧ Fr noB w w'
def WtRel (base : Nat) (w : World) (gs : List (WaitOf Texts)) (v i : Value) (wr : World) : Prop :=
  ∃ (k : Nat) (rs : List (WaitOf Value)), k ≤ gs.length ∧ i = .int .i64 k ∧ OwnRows w.heap.size 66 13 wr v (rs.map WaitOf.cells) ∧ Both (WaitOf.Reads (StrsIn base wr)) rs (gs.take k) ∧ Fr noB w wr
def WaitOf.withDom (r : WaitOf Value) (d : Value) : WaitOf Value := { r with a := { r.a with dom := d } }
set_option maxHeartbeats 2000000 in
set_option maxRecDepth 100000 in
theorem Waits_any (base : Nat) (w : World) (b : Nat) (gv wv : Value) (gs : List (GrantOf Texts)) (ws : List (WaitOf Texts)) (h : BankIs base w b gv wv gs ws) (hgl : ws.length < 68719476736) :
    Calls Try.prog 39 #[.pointer (some ⟨b, 0, none⟩)] w (WaitsPost base w ws) := by
  have h0 := h.c1
  obtain ⟨av, cv, hv⟩ := h.waits.form
  subst hv
  have hlt := h.lt
  have hbase : base ≤ w.heap.size := by have := h.low; omega
  go_enter Try.func39, Try.ntmps39
  go_wp2
  clear h0
  go_loopw [3, 11] (WtRel base w ws) (fun _ i _ => ws.length - (intOf i).toNat)
  case atStart => exact ⟨0, [], Nat.zero_le _, rfl, OwnRows.nil _ _ _ _, .nil, Fr.refl _ _⟩
  case round =>
    obtain ⟨k, rs, hk, rfl, hown, hboth, hfr⟩ := hrel
    by_cases hks : k < ws.length
    · obtain ⟨bk, c, hf1, hml, r, hone, hr, hcell⟩ := (h.frN hfr).waits.at hks
      cases hf1
      unfold maxLen at hml
      obtain ⟨ad, cd, hdv⟩ := hr.2.2.2.2.2.2.2.2.2.2.rd.form
      obtain ⟨x, hx⟩ : ∃ x, x = r.cells := ⟨_, rfl⟩
      have hxk : x.length = 13 := by rw [hx]; rfl
      have hst := fun W => run_storeCells_new (P := Try.prog) W 66 zWa x (by rw [hxk]; rfl) (by rw [hx]; exact hone)
      rw [← hx] at hcell
      have HX := Lib.hid hx
      have HXI := Lib.hid (sizeWa hxk)
      have hx12 : x[12]? = some (.slice ad ws[k].a.dom.length cd) := by rw [hx, ← hdv]; rfl
      clear hx
      obtain ⟨av, cv, hav⟩ := hown.form
      subst hav
      rw [List.length_map, hboth.len, List.length_take, Nat.min_eq_left hk] at hown ⊢
      have hfa : Fr noB wr (wr.alloc (.cells x.toArray 66)) := (Fr.refl noB wr).alloc _
      have hb0 : (wr.alloc (.cells x.toArray 66)).heap[wr.heap.size]? = some (.cells x.toArray 66 (0, 0)) := new_block _ _
      have c12 : (wr.alloc (.cells x.toArray 66)).cell? ⟨wr.heap.size, 12, none⟩ = some (.slice ad ws[k].a.dom.length cd) := by simp only [World.cell?, hb0]; simpa using hx12
      have hr2 := hr.mono (fun _ _ h => h.frN hfa)
      have hdom2 := hr2.2.2.2.2.2.2.2.2.2.2
      rw [hdv] at hdom2
      have CL := Lib.hid (CloneS_any base _ _ _ hdom2)
      go_wp2_with (first | ((with_reducible refine wpList_at ⟨some 14, _, _, _, _, _⟩ ?_); go_must (refine wpList_load_mid rfl 66 (.tmp 13) rfl bk (k * 13) rfl x _ hcell Try.underlying66 rfl HXI.out ?_)) | fail)
      have HFA := Lib.hid (hfr.trans hfa)
      have hown2 := hown.alloc (.cells x.toArray 66)
      have hboth2 := hboth.mono (fun _ _ h => h.mono (fun _ _ h => h.frN hfa))
      have hwb : w.heap.size ≤ wr.heap.size := hfr.size
      have holt := hown.lt
      clear hst hcell hr hown hboth hfr hdom2 hfa
      generalize wr.alloc (.cells x.toArray 66) = W2 at *
      refine CL.out.mono ?_
      rintro e u1 ⟨a2, c2, rfl, hs1, hf1⟩
      have hb1 := hf1.keep hb0 (fun h => h)
      have hr3 := hr2.mono (fun _ _ h => h.frN hf1)
      have hown3 := hown2.fr hf1 (fun _ _ h => h)
      have hboth3 := hboth2.mono (fun _ _ h => h.mono (fun _ _ h => h.frN hf1))
      have hF1 := HFA.out.trans hf1
      have c12' : u1.cell? ⟨wr.heap.size, 12, none⟩ = some (.slice ad ws[k].a.dom.length cd) := by simp only [World.cell?, hb1]; simpa using hx12
      have f12 : u1.frozen? ⟨wr.heap.size, 12, none⟩ = false := by simp [World.frozen?, hb1]
      have hb2 := setCell_heap hb1 12 (.slice a2 ws[k].a.dom.length c2)
      have hye : x.toArray.setIfInBounds 12 (.slice a2 ws[k].a.dom.length c2) = (r.withDom (.slice a2 ws[k].a.dom.length c2)).cells.toArray := by rw [HX.out]; rfl
      rw [hye] at hb2
      have hof : Off base u1 (one wr.heap.size) := by
        rintro j rfl hj
        exact ⟨by omega, fun c f e => by rw [hb1] at e; cases e⟩
      have hfs : Fr (one wr.heap.size) u1 (u1.setCell ⟨wr.heap.size, 12, none⟩ (.slice a2 ws[k].a.dom.length c2)) := (Fr.refl (one wr.heap.size) u1).setCell (p := ⟨wr.heap.size, 12, none⟩) (fun _ => rfl) _
      have hnb : ∀ j, (Value.slice av k cv).ownBlock = some j → ¬ one wr.heap.size j := by
        rintro j hj rfl
        have := holt _ hj
        omega
      have HF2 := hF1.setNew (p := ⟨wr.heap.size, 12, none⟩) hwb (.slice a2 ws[k].a.dom.length c2)
      have hr4 : (r.withDom (.slice a2 ws[k].a.dom.length c2)).Reads (StrsIn base (u1.setCell ⟨wr.heap.size, 12, none⟩ (.slice a2 ws[k].a.dom.length c2))) ws[k] :=
        ⟨hr3.1, hr3.2.1, hr3.2.2.1, hr3.2.2.2.1, hr3.2.2.2.2.1, hr3.2.2.2.2.2.1, hr3.2.2.2.2.2.2.1, hr3.2.2.2.2.2.2.2.1, hr3.2.2.2.2.2.2.2.2.1, hr3.2.2.2.2.2.2.2.2.2.1, hs1.fr hfs hof⟩
      have hown4 := hown3.fr hfs hnb
      have hboth4 := hboth3.mono (fun _ _ h => h.mono (fun _ _ h => h.fr hfs hof))
      have hone4 : ∀ u ∈ (r.withDom (.slice a2 ws[k].a.dom.length c2)).cells, u.oneCell' = true := by
        intro u hu
        simp only [WaitOf.cells, WaitOf.withDom, List.mem_cons, List.not_mem_nil, or_false] at hu
        rcases hu with rfl | rfl | rfl | rfl | rfl | rfl | rfl | rfl | rfl | rfl | rfl | rfl | rfl <;> rfl
      obtain ⟨y, hy⟩ : ∃ y, y = (r.withDom (.slice a2 ws[k].a.dom.length c2)).cells := ⟨_, rfl⟩
      have hyk : y.length = 13 := by rw [hy]; rfl
      rw [← hy] at hone4 hb2
      have HY := Lib.hid hy
      have HB2 := Lib.hid hb2
      have HYI := Lib.hid (sizeWa hyk)
      have HOWN := Lib.hid hown4
      have hfold := fold_zip y zWa (by rw [hyk]; rfl)
      have hbw : w.heap.size ≤ (u1.setCell ⟨wr.heap.size, 12, none⟩ (.slice a2 ws[k].a.dom.length c2)).heap.size := HF2.size
      have HSZ := Lib.hid (show (u1.setCell ⟨wr.heap.size, 12, none⟩ (.slice a2 ws[k].a.dom.length c2)).heap.size = u1.heap.size by simp [World.setCell])
      have hbw1 : w.heap.size ≤ u1.heap.size := hF1.size
      have hrl := hboth4.len
      rw [List.length_take, Nat.min_eq_left hk] at hrl
      have hkb : (rs.map WaitOf.cells).length < 68719476736 := by rw [List.length_map, hrl]; omega
      have HR4 := Lib.hid hr4
      have HBOTH := Lib.hid hboth4
      have HF2' := Lib.hid HF2
      clear hrl hr3 hr2 hown2 hown3 hboth2 hboth3 hb0 hb1 hof hfs hnb hs1 hye hy hx12 c12 CL hown4 hboth4 hr4 HF2 hF1 hf1 hb2 HFA hdv
      go_wp2_with (first | ((with_reducible refine wpList_at ⟨some 22, _, _, _, _, _⟩ ?_); go_must (refine wpList_load_row rfl 66 (.tmp 5) rfl wr.heap.size rfl _ y.toArray (0, 0) _ HB2.out Try.underlying66 rfl (by rw [List.size_toArray]; exact HYI.out) ?_)) | (at_builtin; go_must (refine wpList_row rfl _ _ 61 66 rfl 13 168 (.agg zWa) Try.underlying61 info_wait rfl (by decide) (by decide) w.heap.size (.slice av k cv) (rs.map WaitOf.cells) rfl (HOWN.out.alloc _) u1.heap.size 1 y rfl hyk hone4 (fun i u hi => by rw [← HSZ.out, World.cell?_alloc_mark]; simpa using hi) hkb (by simp; omega) ?_); intro v' w4 hown4 hg4))
      have hfo := Fr.ofGrown _ hg4
      have hoff := HOWN.out.off (base := base) hbase (by decide)
      rw [HY.out] at hown4
      refine ⟨⟨k + 1, rs ++ [r.withDom (.slice a2 ws[k].a.dom.length c2)], by omega, by go_num, by rw [List.map_append]; exact hown4, ?_, HF2'.out.step hfo (fun j hj hS => by have h2 := HOWN.out.block j hS; omega)⟩, by simp [intOf]; omega⟩
      rw [take_snocG (List.getElem?_eq_getElem hks)]
      exact (HBOTH.out.mono (fun _ _ h => h.mono (fun _ _ h => h.fr hfo hoff))).app (.cons (HR4.out.mono (fun _ _ h => h.fr hfo hoff)) .nil)
    · rw [List.take_of_length_le (by omega)] at hboth
      obtain ⟨av, cv, hav⟩ := hown.form
      subst hav
      go_wp2
      go_ret
      exact ⟨_, rfl, ⟨⟨rs, hown.up hbase, hboth⟩, hown.block⟩, hfr⟩

/-- a bank that lies behind w -/
def CopyPost (base : Nat) (w : World) (gs : List (GrantOf Texts)) (ws : List (WaitOf Texts)) (e : Ending) (w' : World) : Prop :=
  ∃ b gv wv, e = .returned (.pointer (some ⟨b, 0, none⟩)) ∧ BankIs base w' b gv wv gs ws ∧ Fr noB w w' ∧ ∀ k, bankF b gv wv k → w.heap.size ≤ k
set_option maxHeartbeats 1000000 in
theorem Copy_any (base : Nat) (w : World) (b : Nat) (gv wv : Value) (gs : List (GrantOf Texts)) (ws : List (WaitOf Texts)) (h : BankIs base w b gv wv gs ws) (hgl : gs.length < 68719476736) (hwl : ws.length < 68719476736) :
    Calls Try.prog 40 #[.pointer (some ⟨b, 0, none⟩)] w (CopyPost base w gs ws) := by
  have hlt := h.lt
  have hlow := h.low
  go_enter Try.func40, Try.ntmps40
  go_wp2_with fail
  refine (Grants_any base w b gv wv gs ws h hgl).mono ?_
  intro e u1 hp
  obtain ⟨v1, rfl, ⟨hg1, hn1⟩, hf1⟩ := hp
  go_wp2_with fail
  refine (Waits_any base u1 b gv wv gs ws (h.frN hf1) hwl).mono ?_
  intro e u2 hp
  obtain ⟨v2, rfl, ⟨hg2, hn2⟩, hf2⟩ := hp
  obtain ⟨a1, c1, hv1⟩ := hg1.form
  obtain ⟨a2, c2, hv2⟩ := hg2.form
  subst hv1 hv2
  have hs1 := hf1.size
  have hs2 := hf2.size
  have hfa : Fr noB u2 (u2.alloc (.cells #[.slice a1 gs.length c1, .slice a2 ws.length c2] 63)) := (Fr.refl noB u2).alloc _
  have HB := Lib.hid (show BankIs base (u2.alloc (.cells #[.slice a1 gs.length c1, .slice a2 ws.length c2] 63)) u2.heap.size (.slice a1 gs.length c1) (.slice a2 ws.length c2) gs ws from
    ⟨by omega, new_block _ _, (hg1.fr hf2 (Off.none _ _) (fun _ _ h => h)).fr hfa (Off.none _ _) (fun _ _ h => h), hg2.fr hfa (Off.none _ _) (fun _ _ h => h)⟩)
  have HF := Lib.hid ((hf1.trans hf2).trans hfa)
  have HN := Lib.hid (show ∀ k, bankF u2.heap.size (.slice a1 gs.length c1) (.slice a2 ws.length c2) k → w.heap.size ≤ k from fun k hk => by
    rcases hk with rfl | hk | hk
    · omega
    · exact hn1 k hk
    · have := hn2 k hk; omega)
  clear hg1 hg2 hn1 hn2 hfa h
  go_wp2
  go_ret
  exact ⟨_, _, _, rfl, HB.out, HF.out, HN.out⟩
end Go.Proofs.Yteffnckhapmpgaa
