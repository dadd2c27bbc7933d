/- slices.Index, Contains at passes. -/
import Derived.Test.YtkoobhgedoanhaaDoorRowPa
import Derived.Test.YtkoobhgedoanhaaDoorCovers
import Derived.BigQuiet
namespace Go.Proofs.YtkoobhgedoanhaaDoor
open Go.RowKit

theorem run_eqPas (p q : Pas) (w : World) : (binOp .eql 63 (.agg p.cells.toArray) (.agg q.cells.toArray)).run Tryd.prog w = .ok (.bool (p.eqB q)) w := by
  obtain ⟨⟨a, b, c⟩, ⟨d, e, f⟩, g, i, j, k, l, m⟩ := p
  obtain ⟨⟨a', b', c'⟩, ⟨d', e', f'⟩, g', i', j', k', l', m'⟩ := q
  unfold Pas.cells
  go_simp
  simp only [show ∀ (P : Prop) [Decidable P] (W : World) (b : Bool), (if P then (Result.ok (Value.bool b) W : Result Value) else .ok (.bool false) W) = .ok (.bool (decide P && b)) W from fun P _ W b => by by_cases h : P <;> simp [h]]
  congr 2
  rw [Bool.eq_iff_iff]
  simp only [Pas.eqB, Ori.eqB, Bool.and_eq_true, decide_eq_true_eq, beq_iff_eq, and_assoc, and_true]
/-- the twelve cells of a pass at a place -/
def PasLie (w : World) (b o : Nat) (p : Pas) : Prop :=
  w.cell? ⟨b, o, none⟩ = some (.bool p.frm.secure) ∧ w.cell? ⟨b, o + 1, none⟩ = some (.string p.frm.host) ∧ w.cell? ⟨b, o + 2, none⟩ = some (.int .i64 p.frm.port) ∧ w.cell? ⟨b, o + 3, none⟩ = some (.bool p.o.secure) ∧ w.cell? ⟨b, o + 4, none⟩ = some (.string p.o.host) ∧ w.cell? ⟨b, o + 5, none⟩ = some (.int .i64 p.o.port) ∧ w.cell? ⟨b, o + 6, none⟩ = some (.string p.path) ∧ w.cell? ⟨b, o + 7, none⟩ = some (.string p.query) ∧ w.cell? ⟨b, o + 8, none⟩ = some (.bool p.wth) ∧ w.cell? ⟨b, o + 9, none⟩ = some (.string p.method) ∧ w.cell? ⟨b, o + 10, none⟩ = some (.string p.head) ∧ w.cell? ⟨b, o + 11, none⟩ = some (.int .i64 p.til)
theorem PasLie.of {w : World} {b o : Nat} {p : Pas} (h : ∀ (i : Nat) u, p.cells[i]? = some u → w.cell? ⟨b, o + i, none⟩ = some u) : PasLie w b o p :=
  ⟨h 0 _ rfl, h 1 _ rfl, h 2 _ rfl, h 3 _ rfl, h 4 _ rfl, h 5 _ rfl, h 6 _ rfl, h 7 _ rfl, h 8 _ rfl, h 9 _ rfl, h 10 _ rfl, h 11 _ rfl⟩
theorem PasLie.blk {w : World} {b : Nat} {p : Pas} (h : w.heap[b]? = some (.cells p.cells.toArray 63 (0, 0))) : PasLie w b 0 p :=
  PasLie.of fun i u hu => by simp only [World.cell?, h]; simpa using hu
theorem PasAt.lie {w : World} {a : Option Addr} {c n : Nat} {ps : List Pas} (h : PasAt w (.slice a n c) ps) (hne : ps ≠ []) :
    ∃ bk of, a = some ⟨bk, of, none⟩ ∧ n = ps.length ∧ n ≤ c ∧ n ≤ maxLen ∧ bk < w.heap.size ∧ ∀ (j : Nat) q, ps[j]? = some q → PasLie w bk (of + j * 12) q := by
  rcases h.2 with ⟨_, _, _, e, _⟩ | ⟨bk, of, c', hf, g1, g2, g3, g4⟩
  · exact absurd (by simpa using e) hne
  · cases hf
    rw [List.length_map] at g1
    exact ⟨bk, of, rfl, by simp, by simpa using g1, by rw [List.length_map]; have h1 : ps.length ≤ c := g1; exact Nat.le_trans h1 g2, g3, fun j q hq => PasLie.of (g4 j q.cells (by rw [List.getElem?_map, hq]; rfl))⟩
def IxRel (w : World) (n : Nat) (f : Nat → Bool) (i : Value) (wr : World) : Prop := ∃ k : Nat, k ≤ n ∧ i = .int .i64 k ∧ f k = true ∧ Fr noB w wr
set_option maxRecDepth 100000 in
set_option maxHeartbeats 2000000 in
theorem Index_Pa (v : Value) (ps : List Pas) (p : Pas) (w : World) (h : PasAt w v ps) :
    Calls Tryd.prog 66 #[v, .agg p.cells.toArray] w fun e w' => e = .returned (.int .i64 (idxP (fun q => p.eqB q) ps 0)) ∧ Fr noB w w' := by
  obtain ⟨av, cv, hv⟩ := RowsAt.form h
  subst hv
  rw [List.length_map] at h ⊢
  have HQ := Lib.hid (run_eqPas p)
  obtain ⟨w1, hw1⟩ : ∃ w1, w1 = w.alloc (.cells p.cells.toArray 63) := ⟨_, rfl⟩
  have hf1 : Fr noB w w1 := by rw [hw1]; exact (Fr.refl _ _).alloc _
  have hk1 : w1.heap[w.heap.size]? = some (.cells p.cells.toArray 63 (0, 0)) := by rw [hw1]; exact new_block _ _
  have HP := Lib.hid (show ∀ U, Fr noB w1 U → PasLie U w.heap.size 0 p from fun U hU => PasLie.blk (hU.keep hk1 (fun h => h)))
  have HL := Lib.hid (show ∀ U, Fr noB w1 U → PasAt U (.slice av ps.length cv) ps from fun U hU => RowsAt.frNone h (hf1.trans hU))
  have HF1 := Lib.hid hf1
  have HW1 := Lib.hid hw1
  clear h hf1 hk1
  unfold Pas.cells at hw1 HQ ⊢
  go_enter Tryd.func66, Tryd.ntmps66
  go_wp2
  rw [← hw1]
  clear hw1
  go_loopw [8] (IxRel w1 ps.length (fun k => !(ps.take k).any (fun q => p.eqB q))) (fun i _ => ps.length - (intOf i).toNat)
  case atStart => exact ⟨0, Nat.zero_le _, rfl, rfl, Fr.refl _ _⟩
  case round =>
    obtain ⟨k, hk, rfl, hn, hfr⟩ := hrel
    have HN := Lib.hid (show (ps.take k).any (fun q => p.eqB q) = false by simpa using hn)
    clear hn
    by_cases hks : k < ps.length
    · have hki : (k : Int) < (ps.length : Int) := by omega
      have hki0 : (0 : Int) ≤ (k : Int) := by omega
      obtain ⟨bk, of, rfl, g1, g2, g3, g4, g5⟩ := PasAt.lie (HL.out wr hfr) (by intro e; rw [e] at hks; cases hks)
      unfold maxLen at g3
      have hat := Lib.hid (List.getElem?_eq_getElem hks)
      generalize ps[k] = q at hat
      obtain ⟨c0, c1, c2, c3, c4, c5, c6, c7, c8, c9, c10, c11⟩ := g5 k q hat.out
      obtain ⟨d0, d1, d2, d3, d4, d5, d6, d7, d8, d9, d10, d11⟩ := HP.out wr hfr
      simp only [Nat.zero_add] at d0 d1 d2 d3 d4 d5 d6 d7 d8 d9 d10 d11
      have heq := HQ.out q
      unfold Pas.cells at heq
      have hfd := hfr.drewN
      clear g1 g5
      cases he : p.eqB q
      · have hnx := Lib.hid (any_take_succ hat.out HN.out he)
        rw [he] at heq
        clear he
        go_wp2
        go_quiet (fail)
        go_wp2
        go_roundw
        case rel => exact ⟨k + 1, by omega, by go_num, by show (!(ps.take (k + 1)).any (fun q => p.eqB q)) = true; rw [hnx.out]; rfl, hfr.drewN _⟩
        case measure => simp [intOf]; omega
      · have hfin := Lib.hid (idxP_hit (i := 0) hat.out he HN.out)
        rw [he] at heq
        clear he
        go_wp2
        go_quiet (fail)
        go_wp2
        go_ret
        rw [hfin.out, Nat.zero_add]
        exact ⟨rfl, HF1.out.trans (hfr.drewN _)⟩
    · have hki : ¬ (k : Int) < (ps.length : Int) := by omega
      have hfin := Lib.hid (show idxP (fun q => p.eqB q) ps 0 = -1 from idxP_none (by have h := HN.out; rw [List.take_of_length_le (by omega)] at h; exact h))
      go_wp2
      go_ret
      rw [hfin.out]
      exact ⟨rfl, HF1.out.trans hfr⟩
set_option maxRecDepth 100000 in
set_option maxHeartbeats 1000000 in
theorem Contains_Pa (v : Value) (ps : List Pas) (p : Pas) (w : World) (h : PasAt w v ps) :
    Calls Tryd.prog 29 #[v, .agg p.cells.toArray] w fun e w' => e = .returned (.bool (ps.any (fun q => p.eqB q))) ∧ Fr noB w w' := by
  have hb := Lib.hid (idxP_any (fun q => p.eqB q) ps 0)
  have hf1 : Fr noB w (w.alloc (.cells p.cells.toArray 63)) := (Fr.refl _ _).alloc _
  have hk1 : (w.alloc (.cells p.cells.toArray 63)).heap[w.heap.size]? = some (.cells p.cells.toArray 63 (0, 0)) := new_block _ _
  have HC := Lib.hid (Index_Pa v ps p _ (RowsAt.frNone h hf1))
  obtain ⟨av, cv, hv⟩ := RowsAt.form h
  subst hv
  rw [List.length_map] at HC ⊢
  have HF1 := Lib.hid hf1
  have G := Lib.hid hk1
  clear h hf1 hk1
  unfold Pas.cells at *
  go_enter Tryd.func29, Tryd.ntmps29
  go_wp2_with (first | ((with_reducible refine wpList_at ⟨some 6, _, _, _, _, _⟩ ?_); go_must (refine wpList_load_row rfl 63 (.tmp 3) rfl w.heap.size rfl _ _ (0, 0) _ G.out Tryd.underlying63 rfl (by kernel_rfl) ?_)) | fail)
  refine HC.out.mono ?_
  rintro e w2 ⟨rfl, hf2⟩
  go_wp2
  go_ret
  exact ⟨ret_bool hb.out, HF1.out.trans hf2⟩
/-- a request's thirteen cells -/
def ReqLie (w : World) (b : Nat) (r : ReqOf Value) : Prop :=
  w.cell? ⟨b, 0, none⟩ = some (.int .i64 r.part) ∧ w.cell? ⟨b, 1, none⟩ = some (.bool r.frm.secure) ∧ w.cell? ⟨b, 2, none⟩ = some (.string r.frm.host) ∧ w.cell? ⟨b, 3, none⟩ = some (.int .i64 r.frm.port) ∧ w.cell? ⟨b, 4, none⟩ = some (.bool r.o.secure) ∧ w.cell? ⟨b, 5, none⟩ = some (.string r.o.host) ∧ w.cell? ⟨b, 6, none⟩ = some (.int .i64 r.o.port) ∧ w.cell? ⟨b, 7, none⟩ = some (.string r.path) ∧ w.cell? ⟨b, 8, none⟩ = some (.string r.query) ∧ w.cell? ⟨b, 9, none⟩ = some (.string r.method) ∧ w.cell? ⟨b, 10, none⟩ = some r.heads ∧ w.cell? ⟨b, 11, none⟩ = some (.bool r.wth) ∧ w.cell? ⟨b, 12, none⟩ = some (.string r.body)
theorem ReqLie.blk {w : World} {b : Nat} {r : ReqOf Value} (h : w.heap[b]? = some (.cells r.cells.toArray 67 (0, 0))) : ReqLie w b r := by
  have hc : ∀ i u, r.cells[i]? = some u → w.cell? ⟨b, i, none⟩ = some u := fun i u hu => by simp only [World.cell?, h]; simpa using hu
  exact ⟨hc 0 _ rfl, hc 1 _ rfl, hc 2 _ rfl, hc 3 _ rfl, hc 4 _ rfl, hc 5 _ rfl, hc 6 _ rfl, hc 7 _ rfl, hc 8 _ rfl, hc 9 _ rfl, hc 10 _ rfl, hc 11 _ rfl, hc 12 _ rfl⟩
end Go.Proofs.YtkoobhgedoanhaaDoor
