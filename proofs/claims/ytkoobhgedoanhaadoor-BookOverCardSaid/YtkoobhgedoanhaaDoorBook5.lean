/- Package pass: Forget, Sweep. -/
import Derived.Test.YtkoobhgedoanhaaDoorBook4
namespace Go.Proofs.YtkoobhgedoanhaaDoor
open Go.RowKit

def GonePost (base : Nat) (w : World) (b : Nat) (v : Value) (ps : List Pas) (f : Pas → Bool) (e : Ending) (w' : World) : Prop :=
  e = .returned (.int .i64 ((ps.length : Int) - ((ps.filter (fun p => !f p)).length : Int))) ∧ BookPost base w b v (ps.filter (fun p => !f p)) w'
/-- behind DeleteFunc and its store -/
theorem book_gone {base : Nat} {w w1 w2 : World} {b : Nat} {v : Value} {ps ys : List Pas} {a : Option Addr} {c : Nat} (h : BookIs base w1 b v ps) (hf1 : Fr noB w w1) (hf2 : Fr (own v) w1 w2) (hoo : own (.slice a ys.length c) = own v) (ho : OwnRows base 63 12 w2 (.slice a ys.length c) (ys.map Pas.cells)) :
    BookIs base (w2.setCell ⟨b, 0, none⟩ (.slice a ys.length c)) b (.slice a ys.length c) ys ∧ Fr (bookF b v) w (w2.setCell ⟨b, 0, none⟩ (.slice a ys.length c)) ∧ (∀ k, bookF b (.slice a ys.length c) k → bookF b v k ∨ w.heap.size ≤ k) ∧ w2.cell? ⟨b, 0, none⟩ = some v ∧ w2.frozen? ⟨b, 0, none⟩ = false := by
  have hbk2 := hf2.keep h.blk h.nb
  refine ⟨BookIs.set h.low hbk2 ho, ?_, ?_, by simp [World.cell?, hbk2], by simp [World.frozen?, hbk2]⟩
  · exact (Fr.step (S := bookF b v) (hf1.mono (fun _ _ h => absurd h (fun h => h))) hf2 (fun _ _ h => Or.inr h)).setCell (p := ⟨b, 0, none⟩) (fun _ => Or.inl rfl) _
  · rintro k (hk | hk)
    · exact Or.inl (Or.inl hk)
    · exact Or.inl (Or.inr (by rw [← hoo]; exact hk))
set_option maxHeartbeats 2000000 in
set_option maxRecDepth 100000 in
theorem BForget_any (base : Nat) (w : World) (b : Nat) (v : Value) (ps : List Pas) (r : ReqOf Value) (hs : List Prm) (h : BookIs base w b v ps) (hlen : ps.length < 1000000) :
    Calls Tryd.prog 40 #[.pointer (some ⟨b, 0, none⟩), .agg r.cells.toArray] w (GonePost base w b v ps (Pas.ofReq (r.toL hs))) := by
  obtain ⟨rc, hrc⟩ : ∃ rc, rc = r.cells.toArray := ⟨_, rfl⟩
  have hf1 : Fr noB w (w.alloc (.cells rc 67)) := (Fr.refl _ _).alloc _
  have hk1 : (w.alloc (.cells rc 67)).heap[w.heap.size]? = some (.cells rc 67 (0, 0)) := new_block _ _
  have h1 := h.frN hf1
  obtain ⟨ak, ck, hvk⟩ := h.form
  subst hvk
  have hnw : ¬ own (.slice ak ps.length ck) w.heap.size := fun hk => by have := h.own_lt hk; omega
  have hd := DeleteFunc_Pa base 74 #[.pointer (some ⟨w.heap.size, 0, none⟩)] (fun y => (pasC y).ofReq (r.toL hs)) (.slice ak ps.length ck) (ps.map Pas.cells) _ Tryd.call74 (fun y hy u hu => by
    obtain ⟨q, _, rfl⟩ := List.mem_map.1 hy
    exact Forget1_any q r hs w.heap.size u (by rw [← hrc]; exact hu.keep hk1 hnw)) h1.rows
  rw [filter_cells ps (Pas.ofReq (r.toL hs)), List.length_map] at hd
  obtain ⟨ys, hys⟩ : ∃ ys, ys = ps.filter (fun p => !p.ofReq (r.toL hs)) := ⟨_, rfl⟩
  have hyl : ys.length ≤ ps.length := by rw [hys]; exact List.length_filter_le _ _
  unfold GonePost
  rw [← hys] at hd ⊢
  have HD := Lib.hid hd
  have H1 := Lib.hid h1
  have HF1 := Lib.hid hf1
  have c0 := h1.c0
  have e0 := h1.free 0
  rw [← hrc]
  clear hd hys h1 h hf1 hk1 hrc hnw
  go_enter Tryd.func40, Tryd.ntmps40
  go_wp2_with fail
  refine HD.out.mono ?_
  rintro e w2 ⟨a2, c2, rfl, ho2, hf2, hoo⟩
  obtain ⟨g1, g2, g3, d0, e2⟩ := book_gone H1.out HF1.out hf2 hoo ho2
  have d3 := g1.c0
  have G := Lib.hid (And.intro g1 (And.intro g2 g3))
  clear g1 g2 g3 ho2 hf2 hoo HD H1 HF1 c0 e0
  go_wp2
  go_ret
  exact ⟨rfl, _, G.out.1, G.out.2.1, G.out.2.2⟩
set_option maxHeartbeats 2000000 in
set_option maxRecDepth 100000 in
theorem BSweep_any (base : Nat) (w : World) (b : Nat) (v : Value) (ps : List Pas) (o : Ori) (h : BookIs base w b v ps) (hlen : ps.length < 1000000) :
    Calls Tryd.prog 41 #[.pointer (some ⟨b, 0, none⟩), .agg o.cells.toArray] w (GonePost base w b v ps (Pas.ofOri o)) := by
  unfold Ori.cells
  have hf1 : Fr noB w (w.alloc (.cells #[.bool o.secure, .string o.host, .int .i64 o.port] 24)) := (Fr.refl _ _).alloc _
  have hk1 : (w.alloc (.cells #[.bool o.secure, .string o.host, .int .i64 o.port] 24)).heap[w.heap.size]? = some (.cells #[.bool o.secure, .string o.host, .int .i64 o.port] 24 (0, 0)) := new_block _ _
  have h1 := h.frN hf1
  obtain ⟨ak, ck, hvk⟩ := h.form
  subst hvk
  have hnw : ¬ own (.slice ak ps.length ck) w.heap.size := fun hk => by have := h.own_lt hk; omega
  have hd := DeleteFunc_Pa base 75 #[.pointer (some ⟨w.heap.size, 0, none⟩)] (fun y => (pasC y).ofOri o) (.slice ak ps.length ck) (ps.map Pas.cells) _ Tryd.call75 (fun y hy u hu => by
    obtain ⟨q, _, rfl⟩ := List.mem_map.1 hy
    exact BSweep1_any q o w.heap.size u (hu.keep hk1 hnw)) h1.rows
  rw [filter_cells ps (Pas.ofOri o), List.length_map] at hd
  obtain ⟨ys, hys⟩ : ∃ ys, ys = ps.filter (fun p => !p.ofOri o) := ⟨_, rfl⟩
  have hyl : ys.length ≤ ps.length := by rw [hys]; exact List.length_filter_le _ _
  unfold GonePost
  rw [← hys] at hd ⊢
  have HD := Lib.hid hd
  have H1 := Lib.hid h1
  have HF1 := Lib.hid hf1
  have c0 := h1.c0
  have e0 := h1.free 0
  clear hd hys h1 h hf1 hk1 hnw
  go_enter Tryd.func41, Tryd.ntmps41
  go_wp2_with fail
  refine HD.out.mono ?_
  rintro e w2 ⟨a2, c2, rfl, ho2, hf2, hoo⟩
  obtain ⟨g1, g2, g3, d0, e2⟩ := book_gone H1.out HF1.out hf2 hoo ho2
  have d3 := g1.c0
  have G := Lib.hid (And.intro g1 (And.intro g2 g3))
  clear g1 g2 g3 ho2 hf2 hoo HD H1 HF1 c0 e0
  go_wp2
  go_ret
  exact ⟨rfl, _, G.out.1, G.out.2.1, G.out.2.2⟩
end Go.Proofs.YtkoobhgedoanhaaDoor
