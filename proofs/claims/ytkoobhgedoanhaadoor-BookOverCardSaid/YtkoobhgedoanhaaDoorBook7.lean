/- Package pass: Covers; the laws' passes. -/
import Derived.Test.YtkoobhgedoanhaaDoorBook6
import Derived.Deep.RegionHeld3
namespace Go.Proofs.YtkoobhgedoanhaaDoor
open Go.RowKit

set_option maxHeartbeats 4000000 in
set_option maxRecDepth 100000 in
theorem BCovers_any (base : Nat) (w : World) (b : Nat) (v : Value) (ps : List Pas) (r : ReqOf Value) (hs : List Prm) (now : Int) (h : BookIs base w b v ps) (hlen : ps.length < 1000000) (hr : PrmsAt w r.heads hs) (hz : ReqOk r hs) :
    Calls Tryd.prog 30 #[.pointer (some ⟨b, 0, none⟩), .agg r.cells.toArray, .int .i64 now] w fun e w' => e = .returned (.bool (bookCovers ps (r.toL hs) now)) ∧ Fr noB w w' := by
  have HRES := Lib.hid (show bookCovers ps (r.toL hs) now = (!(r.toL hs).needs || (r.toL hs).covers (bookFor ps (r.toL hs) now)) from rfl)
  generalize bookCovers ps (r.toL hs) now = res at HRES ⊢
  obtain ⟨w1, hw1⟩ : ∃ w1, w1 = w.alloc (.cells r.cells.toArray 67) := ⟨_, rfl⟩
  have hf1 : Fr noB w w1 := by rw [hw1]; exact (Fr.refl _ _).alloc _
  have hk1 : w1.heap[w.heap.size]? = some (.cells r.cells.toArray 67 (0, 0)) := by rw [hw1]; exact new_block _ _
  have HN := Lib.hid (show ∀ U, Fr noB w1 U → Calls Tryd.prog 31 #[.agg r.cells.toArray] U fun e w' => e = .returned (.bool (r.toL hs).needs) ∧ Fr noB U w' from fun U hU => Needs_any r hs U (RowsAt.frNone hr (hf1.trans hU)) hz)
  have HFO := Lib.hid (show ∀ U, Fr noB w1 U → Calls Tryd.prog 28 #[.pointer (some ⟨b, 0, none⟩), .agg r.cells.toArray, .int .i64 now] U fun e w' => ∃ v', e = .returned v' ∧ OwnRows U.heap.size 63 12 w' v' ((bookFor ps (r.toL hs) now).map Pas.cells) ∧ Fr noB U w' from fun U hU => For_any base U b v ps r hs now (h.frN (hf1.trans hU)) hlen)
  have HCV := Lib.hid (show ∀ U, Fr noB w1 U → ∀ lv, PasAt U lv (bookFor ps (r.toL hs) now) → Calls Tryd.prog 67 #[.agg r.cells.toArray, lv] U fun e w' => e = .returned (.bool ((r.toL hs).covers (bookFor ps (r.toL hs) now))) ∧ Fr noB U w' from fun U hU lv hlv => Covers_any r hs lv _ U (RowsAt.frNone hr (hf1.trans hU)) hlv hz)
  obtain ⟨ah, ch, hhf⟩ := RowsAt.form hr
  rw [List.length_map] at hhf
  have hrc : r.cells = [.int .i64 r.part, .bool r.frm.secure, .string r.frm.host, .int .i64 r.frm.port, .bool r.o.secure, .string r.o.host, .int .i64 r.o.port, .string r.path, .string r.query, .string r.method, .slice ah hs.length ch, .bool r.wth, .string r.body] := by unfold ReqOf.cells; rw [hhf]
  have HC := Lib.hid (show ∀ U, Fr noB w1 U → (U.cell? ⟨w.heap.size, 0, none⟩ = some (.int .i64 r.part) ∧ U.cell? ⟨w.heap.size, 1, none⟩ = some (.bool r.frm.secure) ∧ U.cell? ⟨w.heap.size, 2, none⟩ = some (.string r.frm.host) ∧ U.cell? ⟨w.heap.size, 3, none⟩ = some (.int .i64 r.frm.port) ∧ U.cell? ⟨w.heap.size, 4, none⟩ = some (.bool r.o.secure) ∧ U.cell? ⟨w.heap.size, 5, none⟩ = some (.string r.o.host) ∧ U.cell? ⟨w.heap.size, 6, none⟩ = some (.int .i64 r.o.port) ∧ U.cell? ⟨w.heap.size, 7, none⟩ = some (.string r.path) ∧ U.cell? ⟨w.heap.size, 8, none⟩ = some (.string r.query) ∧ U.cell? ⟨w.heap.size, 9, none⟩ = some (.string r.method) ∧ U.cell? ⟨w.heap.size, 10, none⟩ = some (.slice ah hs.length ch) ∧ U.cell? ⟨w.heap.size, 11, none⟩ = some (.bool r.wth) ∧ U.cell? ⟨w.heap.size, 12, none⟩ = some (.string r.body)) from fun U hU => by
    have j := hU.keep hk1 (fun h => h)
    rw [hrc] at j
    simp [World.cell?, j])
  rw [hrc] at HN HFO HCV hw1 ⊢
  have HF1 := Lib.hid hf1
  have hhw := hw1
  clear h hr hz hf1 hk1 hrc hhf
  cases hn : (r.toL hs).needs
  · have HR := Lib.hid (show res = true by rw [HRES.out, hn]; rfl)
    rw [hn] at HN
    clear hn HRES HFO HCV hhw
    go_enter Tryd.func30, Tryd.ntmps30
    go_wp2_with fail
    rw [← hw1]
    clear hw1
    refine wp_region_held_drew (S := (fun U => U.cell? ⟨w.heap.size, 0, none⟩ = some (.int .i64 r.part) ∧ U.cell? ⟨w.heap.size, 1, none⟩ = some (.bool r.frm.secure) ∧ U.cell? ⟨w.heap.size, 2, none⟩ = some (.string r.frm.host) ∧ U.cell? ⟨w.heap.size, 3, none⟩ = some (.int .i64 r.frm.port) ∧ U.cell? ⟨w.heap.size, 4, none⟩ = some (.bool r.o.secure) ∧ U.cell? ⟨w.heap.size, 5, none⟩ = some (.string r.o.host) ∧ U.cell? ⟨w.heap.size, 6, none⟩ = some (.int .i64 r.o.port) ∧ U.cell? ⟨w.heap.size, 7, none⟩ = some (.string r.path) ∧ U.cell? ⟨w.heap.size, 8, none⟩ = some (.string r.query) ∧ U.cell? ⟨w.heap.size, 9, none⟩ = some (.string r.method) ∧ U.cell? ⟨w.heap.size, 10, none⟩ = some (.slice ah hs.length ch) ∧ U.cell? ⟨w.heap.size, 11, none⟩ = some (.bool r.wth) ∧ U.cell? ⟨w.heap.size, 12, none⟩ = some (.string r.body))) (by kernel_rfl) (HC.out _ (Fr.refl noB w1).drew) ?_
    intro hS0
    refine wpAnyH_take (i := 0) (oi := ⟨some 7, _, _, _, _, _⟩) (v := ?_) rfl (by kernel_rfl) (by kernel_rfl) (by kernel_rfl) (fun _ _ _ h => h) (Or.inl ⟨by rfl, ?hy⟩) (by assumption) ?_
    case hy => (intro w hSw; (try dsimp only at hSw); go_simp <;> with_reducible rfl)
    try simp only [Act.put, List.setIfInBounds_toArray, List.set_cons_zero, List.set_cons_succ]
    refine wpAnyH_ready (rs := [1]) (by kernel_rfl) (by simp) ?_
    refine AllReadyH.cons rfl (fun K hK => ?_) AllReadyH.nil
    go_simp
    refine (HN.out _ (Fr.refl noB w1).drew).mono ?_
    rintro e v1 ⟨rfl, hv1⟩
    have HF2 := Lib.hid (show Fr noB w1 v1 from ((Fr.refl noB w1).drew).trans hv1)
    refine hK.out _ _ (HC.out _ HF2.out) ?_
    intro hS1
    clear hK hS0 hv1 K
    try simp only [Act.put, List.setIfInBounds_toArray, List.set_cons_zero, List.set_cons_succ]
    refine wpAnyH_take (i := 2) (oi := ⟨some 9, _, _, _, _, _⟩) (v := ?_) rfl (by kernel_rfl) (by kernel_rfl) (by kernel_rfl) (fun _ _ _ h => h) (Or.inl ⟨by rfl, ?hy⟩) (by assumption) ?_
    case hy => (intro w hSw; (try dsimp only at hSw); go_simp <;> with_reducible rfl)
    try simp only [Act.put, List.setIfInBounds_toArray, List.set_cons_zero, List.set_cons_succ]
    refine wpAnyH_take (i := 3) (oi := ⟨some 10, _, _, _, _, _⟩) (v := ?_) rfl (by kernel_rfl) (by kernel_rfl) (by kernel_rfl) (fun _ _ _ h => h) (Or.inl ⟨by rfl, ?hy⟩) (by assumption) ?_
    case hy => (intro w hSw; (try dsimp only at hSw); go_simp <;> with_reducible rfl)
    try simp only [Act.put, List.setIfInBounds_toArray, List.set_cons_zero, List.set_cons_succ]
    refine wpAnyH_take (i := 4) (oi := ⟨some 11, _, _, _, _, _⟩) (v := undef) rfl (by kernel_rfl) (by kernel_rfl) (by kernel_rfl) (fun _ _ _ h => h) (Or.inr ⟨by rfl, rfl⟩) (by assumption) ?_
    try simp only [Act.put, List.setIfInBounds_toArray, List.set_cons_zero, List.set_cons_succ]
    refine wpAnyH_take (i := 5) (oi := ⟨some 12, _, _, _, _, _⟩) (v := undef) rfl (by kernel_rfl) (by kernel_rfl) (by kernel_rfl) (fun _ _ _ h => h) (Or.inr ⟨by rfl, rfl⟩) (by assumption) ?_
    try simp only [Act.put, List.setIfInBounds_toArray, List.set_cons_zero, List.set_cons_succ]
    refine wpAnyH_take (i := 6) (oi := ⟨some 13, _, _, _, _, _⟩) (v := undef) rfl (by kernel_rfl) (by kernel_rfl) (by kernel_rfl) (fun _ _ _ h => h) (Or.inr ⟨by rfl, rfl⟩) (by assumption) ?_
    try simp only [Act.put, List.setIfInBounds_toArray, List.set_cons_zero, List.set_cons_succ]
    refine wpAnyH_take (i := 7) (oi := ⟨some 14, _, _, _, _, _⟩) (v := undef) rfl (by kernel_rfl) (by kernel_rfl) (by kernel_rfl) (fun _ _ _ h => h) (Or.inr ⟨by rfl, rfl⟩) (by assumption) ?_
    try simp only [Act.put, List.setIfInBounds_toArray, List.set_cons_zero, List.set_cons_succ]
    refine wpAnyH_take (i := 8) (oi := ⟨some 15, _, _, _, _, _⟩) (v := undef) rfl (by kernel_rfl) (by kernel_rfl) (by kernel_rfl) (fun _ _ _ h => h) (Or.inr ⟨by rfl, rfl⟩) (by assumption) ?_
    try simp only [Act.put, List.setIfInBounds_toArray, List.set_cons_zero, List.set_cons_succ]
    refine wpAnyH_take (i := 9) (oi := ⟨some 16, _, _, _, _, _⟩) (v := undef) rfl (by kernel_rfl) (by kernel_rfl) (by kernel_rfl) (fun _ _ _ h => h) (Or.inr ⟨by rfl, rfl⟩) (by assumption) ?_
    try simp only [Act.put, List.setIfInBounds_toArray, List.set_cons_zero, List.set_cons_succ]
    refine wpAnyH_take (i := 10) (oi := ⟨some 17, _, _, _, _, _⟩) (v := ?_) rfl (by kernel_rfl) (by kernel_rfl) (by kernel_rfl) (fun _ _ _ h => h) (Or.inl ⟨by rfl, ?hy⟩) (by assumption) ?_
    case hy => (intro w hSw; (try dsimp only at hSw); go_simp <;> with_reducible rfl)
    try simp only [Act.put, List.setIfInBounds_toArray, List.set_cons_zero, List.set_cons_succ]
    refine wpAnyH_take (i := 11) (oi := ⟨some 6, _, _, _, _, _⟩) (v := ?_) rfl (by kernel_rfl) (by kernel_rfl) (by kernel_rfl) (fun _ _ _ h => h) (Or.inl ⟨by rfl, ?hy⟩) (by assumption) ?_
    case hy => (intro w hSw; (try dsimp only at hSw); go_simp <;> with_reducible rfl)
    try simp only [Act.put, List.setIfInBounds_toArray, List.set_cons_zero, List.set_cons_succ]
    refine wpAnyH_done (by kernel_rfl) ?_ _
    go_wp2
    go_ret
    exact ⟨by rw [HR.out]; rfl, HF1.out.trans HF2.out⟩
  · have HR := Lib.hid (show res = (r.toL hs).covers (bookFor ps (r.toL hs) now) by rw [HRES.out, hn]; rfl)
    rw [hn] at HN
    generalize (r.toL hs).covers (bookFor ps (r.toL hs) now) = cv at *
    generalize bookFor ps (r.toL hs) now = fs at *
    clear hn HRES hhw
    go_enter Tryd.func30, Tryd.ntmps30
    go_wp2_with fail
    rw [← hw1]
    clear hw1
    go_region_held3 (fun U => Fr noB w1 U ∧ U.cell? ⟨w.heap.size, 0, none⟩ = some (.int .i64 r.part) ∧ U.cell? ⟨w.heap.size, 1, none⟩ = some (.bool r.frm.secure) ∧ U.cell? ⟨w.heap.size, 2, none⟩ = some (.string r.frm.host) ∧ U.cell? ⟨w.heap.size, 3, none⟩ = some (.int .i64 r.frm.port) ∧ U.cell? ⟨w.heap.size, 4, none⟩ = some (.bool r.o.secure) ∧ U.cell? ⟨w.heap.size, 5, none⟩ = some (.string r.o.host) ∧ U.cell? ⟨w.heap.size, 6, none⟩ = some (.int .i64 r.o.port) ∧ U.cell? ⟨w.heap.size, 7, none⟩ = some (.string r.path) ∧ U.cell? ⟨w.heap.size, 8, none⟩ = some (.string r.query) ∧ U.cell? ⟨w.heap.size, 9, none⟩ = some (.string r.method) ∧ U.cell? ⟨w.heap.size, 10, none⟩ = some (.slice ah hs.length ch) ∧ U.cell? ⟨w.heap.size, 11, none⟩ = some (.bool r.wth) ∧ U.cell? ⟨w.heap.size, 12, none⟩ = some (.string r.body)) ((refine (fun hU => ⟨hU, HC.out _ hU⟩) ?_; repeat (first | exact Fr.refl _ _ | assumption | apply Fr.alloc | apply Fr.drew | refine Fr.trans ?_ (by assumption))))
      ((first
        | (go_at_call 31; refine (HN.out _ (by repeat (first | exact Fr.refl _ _ | assumption | apply Fr.drew | apply Fr.alloc | refine Fr.trans ?_ (by assumption)))).mono ?_; rintro e u1 ⟨rfl, hu1⟩)
        | (go_at_call 28; refine (HFO.out _ (by repeat (first | exact Fr.refl _ _ | assumption | apply Fr.drew | apply Fr.alloc | refine Fr.trans ?_ (by assumption)))).mono ?_; rintro e u2 ⟨fv, rfl, hfo2, hu2⟩)
        | (go_at_call 67; refine (HCV.out _ (by repeat (first | exact Fr.refl _ _ | assumption | apply Fr.drew | apply Fr.alloc | refine Fr.trans ?_ (by assumption))) _ (RowsAt.frNone hfo2.at (by repeat (first | exact Fr.refl _ _ | assumption | apply Fr.drew | apply Fr.alloc | refine Fr.trans ?_ (by assumption))))).mono ?_; rintro e u3 ⟨rfl, hu3⟩)))
    have HF2 := Lib.hid (show Fr noB w1 u3 from by repeat (first | exact Fr.refl _ _ | assumption | apply Fr.drew | apply Fr.alloc | refine Fr.trans ?_ (by assumption)))
    clear hu1 hu2 hu3
    go_wp2
    go_ret
    exact ⟨by rw [HR.out]; rfl, HF1.out.trans HF2.out⟩
end Go.Proofs.YtkoobhgedoanhaaDoor
