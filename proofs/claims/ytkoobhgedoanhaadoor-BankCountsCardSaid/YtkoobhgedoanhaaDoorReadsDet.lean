/- What reads the same is the same. No function of the program in sight. -/
import Derived.Test.YtkoobhgedoanhaaDoorBank7
namespace Go.Proofs.YtkoobhgedoanhaaDoor
open Go.RowKit

/-- an argument's texts are not longer than the reach -/
def GrantOf.Sized (g : GrantOf Texts) : Prop := g.o.host.size ≤ 140737488351232 ∧ g.a.realm.size ≤ 140737488351232 ∧ g.a.nonce.size ≤ 140737488351232 ∧ g.user.size ≤ 140737488351232
/-- grants among the arguments -/
def GrantsArg (w : World) (v : Value) (gs : List (GrantOf Texts)) : Prop :=
  ∃ rs : List (GrantOf Value), RowsAt 16 w v (rs.map GrantOf.cells) ∧ Both (GrantOf.Reads (StrsArg w)) rs gs ∧ ∀ g ∈ gs, g.Sized
/-- .. read by what writes behind base alone -/
theorem StrsAt.in {base : Nat} {w w' : World} {v : Value} {ss : List ByteArray} (h : StrsAt w v ss) (hf : Fr noB w w') (hb : w.heap.size ≤ base) (hl : ss.length < 4398046511104) : StrsIn base w' v ss := by
  refine ⟨h.frNone hf, fun k hk hs => ?_, hl⟩
  rcases h with ⟨_, _, _, e, _⟩ | ⟨bk, o, c, rfl, _, _, h3, _⟩
  · exact absurd e hs
  · simp only [Value.ownBlock, Option.some.injEq] at hk
    subst hk
    exact ⟨Nat.lt_of_lt_of_le h3 hf.size, Or.inl (by omega)⟩

theorem StrsAt.det {w : World} {v : Value} {ss ss' : List ByteArray} (h : StrsAt w v ss) (h' : StrsAt w v ss') : ss = ss' := by
  rcases h with ⟨a, c, hv, hs, _⟩ | ⟨bk, o, c, hv, h1, h2, h3, h4⟩ <;> rcases h' with ⟨a', c', hv', hs', _⟩ | ⟨bk', o', c', hv', h1', h2', h3', h4'⟩
  · rw [hs, hs']
  · rw [hv] at hv'; injection hv' with _ e _
    rw [hs]; exact (List.length_eq_zero_iff.1 e.symm).symm
  · rw [hv] at hv'; injection hv' with _ e _
    rw [hs']; exact List.length_eq_zero_iff.1 e
  · rw [hv] at hv'
    injection hv' with ea e _
    injection ea with ea
    injection ea with e1 e2
    subst e1 e2
    refine List.ext_getElem e (fun j hj hj' => ?_)
    have q := h4 j _ (List.getElem?_eq_getElem hj)
    have q' := h4' j _ (List.getElem?_eq_getElem hj')
    rw [q] at q'
    injection q' with q'
    injection q'
theorem AskOf.Reads.det {R : Value → List ByteArray → Prop} {r : AskOf Value} {g g' : AskOf Texts} (h : r.Reads R g) (h' : r.Reads R g') (hd : ∀ v l l', R v l → R v l' → l = l') : g = g' := by
  obtain ⟨a1, a2, a3, a4, a5, a6, a7, a8⟩ := g
  obtain ⟨b1, b2, b3, b4, b5, b6, b7, b8⟩ := g'
  obtain ⟨e1, e2, e3, e4, e5, e6, e7, e8⟩ := h
  obtain ⟨f1, f2, f3, f4, f5, f6, f7, f8⟩ := h'
  have := hd _ _ _ e8 f8
  simp only at e1 e2 e3 e4 e5 e6 e7 f1 f2 f3 f4 f5 f6 f7 this
  subst this
  rw [← e1, ← e2, ← e3, ← e4, ← e5, ← e6, ← e7, f1, f2, f3, f4, f5, f6, f7]
theorem GrantOf.Reads.det {R : Value → List ByteArray → Prop} {r : GrantOf Value} {g g' : GrantOf Texts} (h : r.Reads R g) (h' : r.Reads R g') (hd : ∀ v l l', R v l → R v l' → l = l') : g = g' := by
  obtain ⟨a1, a2, a3, a4, a5, a6, a7⟩ := g
  obtain ⟨b1, b2, b3, b4, b5, b6, b7⟩ := g'
  obtain ⟨e1, e2, e3, e4, e5, e6, e7⟩ := h
  obtain ⟨f1, f2, f3, f4, f5, f6, f7⟩ := h'
  have h1 := hd _ _ _ e7 f7
  have h2 := e5.det f5 hd
  simp only at e1 e2 e3 e4 e6 f1 f2 f3 f4 f6 h1 h2
  subst h1 h2
  rw [← e1, ← e2, ← e3, ← e4, ← e6, f1, f2, f3, f4, f6]
theorem GrantOf.cells_inj {r r' : GrantOf Value} (h : r.cells = r'.cells) : r = r' := by
  obtain ⟨⟨a, b, c⟩, d, e, f, ⟨g1, g2, g3, g4, g5, g6, g7, g8⟩, i, j⟩ := r
  obtain ⟨⟨a', b', c'⟩, d', e', f', ⟨g1', g2', g3', g4', g5', g6', g7', g8'⟩, i', j'⟩ := r'
  simp only [GrantOf.cells, List.cons.injEq, Value.bool.injEq, Value.string.injEq, Value.int.injEq, true_and, and_true] at h
  obtain ⟨rfl, rfl, rfl, rfl, rfl, rfl, rfl, rfl, rfl, rfl, rfl, rfl, rfl, rfl, rfl, rfl⟩ := h
  rfl
theorem GrantOf.Reads.pull {R : Value → List ByteArray → Prop} (hd : ∀ v l l', R v l → R v l' → l = l') (q : GrantOf Texts → Bool) :
    ∃ p : List Value → Bool, ∀ (r : GrantOf Value) g, r.Reads R g → p r.cells = q g := by
  classical
  refine ⟨fun x => decide (∃ (r : GrantOf Value) (g : GrantOf Texts), r.cells = x ∧ r.Reads R g ∧ q g = true), fun r g h => ?_⟩
  cases hq : q g
  · refine decide_eq_false (fun ⟨r', g', e, h', hq'⟩ => ?_)
    have := GrantOf.cells_inj e
    subst this
    rw [h.det h' hd, hq'] at hq
    cases hq
  · exact decide_eq_true ⟨r, g, rfl, h, hq⟩
theorem Both.anyEq {α β γ : Type} {R : α → β → Prop} {l : List α} {m : List β} {c : α → γ} {p : γ → Bool} {q : β → Bool} (h : Both R l m) (hp : ∀ a b, R a b → p (c a) = q b) : (l.map c).any p = m.any q := by
  induction h with
  | nil => rfl
  | cons h _ ih => rw [List.map_cons, List.any_cons, List.any_cons, hp _ _ h, ih]
theorem Both.filterEq {α β γ : Type} {R : α → β → Prop} {l : List α} {m : List β} {c : α → γ} {p : γ → Bool} {q : β → Bool} (h : Both R l m) (hp : ∀ a b, R a b → p (c a) = q b) : ∃ l', (l.map c).filter p = l'.map c ∧ Both R l' (m.filter q) := by
  induction h with
  | nil => exact ⟨[], rfl, .nil⟩
  | cons h _ ih =>
    obtain ⟨l', e, hb⟩ := ih
    rename_i a b l m _
    rw [List.map_cons, List.filter_cons, List.filter_cons, hp _ _ h]
    cases hq : q b
    · exact ⟨l', by simpa using e, by simpa using hb⟩
    · exact ⟨a :: l', by simpa using e, by simpa using .cons h hb⟩
theorem StrsArg.det {w : World} {v : Value} {l l' : List ByteArray} (h : StrsArg w v l) (h' : StrsArg w v l') : l = l' := StrsAt.det h h'
theorem putL_len (gs : List (GrantOf Texts)) (g : GrantOf Texts) : (putL gs g).length ≤ 8 := by
  unfold putL
  simp only [List.length_drop]
  omega
theorem BankPost.frame {base : Nat} {a w w' : World} {b : Nat} {gv wv : Value} {gs gs' : List (GrantOf Texts)} {ws ws' : List (WaitOf Texts)} (h : BankPost base w b gv wv gs ws w') (h0 : BankIs base w b gv wv gs' ws') (hf : Fr noB a w) (hb : a.heap.size ≤ base) : Fr noB a w' := by
  obtain ⟨gv', wv', h1, h2, _⟩ := h
  refine hf.step h2 (fun k hk hb' => ?_)
  rcases hb' with rfl | hb' | hb'
  · have := h0.low; omega
  · have := h0.glow hb'; omega
  · have := h0.wlow hb'; omega
end Go.Proofs.YtkoobhgedoanhaaDoor
