/- What stays as it was while the call writes into blocks of its own: slices of strings; lists side by side; rows' own blocks. -/
import Derived.Test.YtkoobhgedoanhaaGreatDoorStrs
import Derived.Test.YtkoobhgedoanhaaGreatDoorRowS
namespace Go.Proofs.YtkoobhgedoanhaaGreatDoor
open Go.RowKit

/-- a block that nothing writes: of the caller's (below base), or one of strings -/
def Still (base : Nat) (w : World) (k : Nat) : Prop := k < base ∨ ∃ c f, w.heap[k]? = some (.cells c 9 f)
/-- blocks of S are the call's own, and none is one of strings -/
def Off (base : Nat) (w : World) (S : Nat → Prop) : Prop := ∀ k, S k → k < w.heap.size → base ≤ k ∧ ∀ c f, w.heap[k]? ≠ some (.cells c 9 f)
theorem Off.none (base : Nat) (w : World) : Off base w noB := fun _ h => absurd h (fun h => h)
theorem Still.fr {base : Nat} {w w' : World} {k : Nat} {S : Nat → Prop} (h : Still base w k) (hf : Fr S w w') (ho : Off base w S) : Still base w' k := by
  rcases h with h | ⟨c, f, h⟩
  · exact Or.inl h
  · exact Or.inr ⟨c, f, hf.keep h (fun hs => (ho k hs (lt_of_some h)).2 c f h)⟩
/-- v reads as ss, few of them, and stays so -/
structure StrsIn (base : Nat) (w : World) (v : Value) (ss : List ByteArray) : Prop where
  rd : StrsAt w v ss
  own : ∀ k, v.ownBlock = some k → ss ≠ [] → k < w.heap.size ∧ Still base w k
  few : ss.length < 4398046511104
theorem StrsAt.empty {w w' : World} {v : Value} (h : StrsAt w v []) : StrsAt w' v [] := by
  rcases h with h | ⟨bk, o, c, hv, _⟩
  · exact Or.inl h
  · exact Or.inl ⟨_, _, hv, rfl, fun e => by cases e⟩
theorem StrsIn.fr {base : Nat} {w w' : World} {v : Value} {ss : List ByteArray} {S : Nat → Prop} (h : StrsIn base w v ss) (hf : Fr S w w') (ho : Off base w S) : StrsIn base w' v ss := by
  refine ⟨?_, fun k hk hs => ⟨Nat.lt_of_lt_of_le (h.own k hk hs).1 hf.size, (h.own k hk hs).2.fr hf ho⟩, h.few⟩
  by_cases he : ss = []
  · subst he; exact h.rd.empty
  refine h.rd.fr hf (fun k hk hs => ?_)
  obtain ⟨hl, hst⟩ := h.own k hk he
  have hk2 := ho k hs hl
  rcases hst with g | ⟨c, f, g⟩
  · omega
  · exact hk2.2 c f g
theorem StrsIn.frN {base : Nat} {w w' : World} {v : Value} {ss : List ByteArray} (h : StrsIn base w v ss) (hf : Fr noB w w') : StrsIn base w' v ss := h.fr hf (Off.none _ _)
theorem StrsIn.nil (base : Nat) (w : World) : StrsIn base w (.slice none 0 0) [] := ⟨StrsAt.nil w, fun k hk => by simp [Value.ownBlock] at hk, by simp⟩
theorem Strs.in {base b : Nat} {w : World} {v : Value} {ss : List ByteArray} (h : Strs b w v ss) (hl : ss.length < 4398046511104) : StrsIn base w v ss := by
  refine ⟨h.at, fun k hk _ => ?_, hl⟩
  rcases h.2 with ⟨hv, _⟩ | ⟨g, cap, cur, hv, hg, hh, _⟩
  · rw [hv] at hk; simp [Value.ownBlock] at hk
  · rw [hv] at hk; simp [Value.ownBlock] at hk; subst hk
    exact ⟨lt_of_some hh, Or.inr ⟨_, _, hh⟩⟩

/-- both lists, one by one -/
inductive Both {α β : Type} (R : α → β → Prop) : List α → List β → Prop
  | nil : Both R [] []
  | cons {a b l m} : R a b → Both R l m → Both R (a :: l) (b :: m)
namespace Both
variable {α β : Type} {R T : α → β → Prop} {l l' : List α} {m m' : List β}
theorem len (h : Both R l m) : l.length = m.length := by induction h with
  | nil => rfl
  | cons _ _ ih => simp [ih]
theorem mono (h : Both R l m) (hs : ∀ a b, R a b → T a b) : Both T l m := by induction h with
  | nil => exact .nil
  | cons h _ ih => exact .cons (hs _ _ h) ih
theorem get (h : Both R l m) {i : Nat} {a : α} (hi : l[i]? = some a) : ∃ b, m[i]? = some b ∧ R a b := by
  induction h generalizing i with
  | nil => simp at hi
  | cons h _ ih =>
    cases i with
    | zero => simp at hi; subst hi; exact ⟨_, rfl, h⟩
    | succ i => simpa using ih (by simpa using hi)
theorem app (h : Both R l m) (h' : Both R l' m') : Both R (l ++ l') (m ++ m') := by induction h with
  | nil => exact h'
  | cons h _ ih => exact .cons h ih
theorem take (h : Both R l m) (n : Nat) : Both R (l.take n) (m.take n) := by
  induction h generalizing n with
  | nil => simp; exact .nil
  | cons h _ ih => cases n with
    | zero => exact .nil
    | succ n => exact .cons h (ih n)
theorem drop (h : Both R l m) (n : Nat) : Both R (l.drop n) (m.drop n) := by
  induction h generalizing n with
  | nil => simp; exact .nil
  | cons h t ih => cases n with
    | zero => exact .cons h t
    | succ n => exact ih n
theorem filter (h : Both R l m) {p : α → Bool} {q : β → Bool} (hpq : ∀ a b, R a b → p a = q b) : Both R (l.filter p) (m.filter q) := by
  induction h with
  | nil => exact .nil
  | cons h _ ih =>
    rw [List.filter_cons, List.filter_cons, hpq _ _ h]
    split
    · exact .cons h ih
    · exact ih
theorem memL (h : Both R l m) {a : α} (ha : a ∈ l) : ∃ b, b ∈ m ∧ R a b := by
  obtain ⟨i, hi⟩ := List.getElem?_of_mem ha
  obtain ⟨b, hb, hr⟩ := h.get hi
  exact ⟨b, List.mem_of_getElem? hb, hr⟩
end Both

theorem Fr.setRow {S : Nat → Prop} {a w : World} (h : Fr S a w) {g : Nat} (hg : g < a.heap.size → S g) (cs : Array Value) : Fr S a (w.setRow g cs) :=
  ⟨h.os, h.tape, h.output, by simpa [World.setRow] using h.size, fun k hk hn => by
    rw [← h.block k hk hn]
    simp only [World.setRow, Array.getElem?_modify]
    by_cases e : g = k
    · subst e; exact absurd (hg hk) hn
    · simp [e]⟩
theorem setRow_other {w : World} {g k : Nat} (h : k ≠ g) (cs : Array Value) : (w.setRow g cs).heap[k]? = w.heap[k]? := by
  simp only [World.setRow, Array.getElem?_modify]
  simp [Ne.symm h]
/-- the block of a row whose elements are no strings -/
def own (v : Value) : Nat → Prop := fun k => v.ownBlock = some k
theorem OwnRows.off {base b k : Nat} {e : TypeId} {w : World} {v : Value} {xs : List (List Value)} (h : OwnRows b e k w v xs) (hb : base ≤ b) (he : e ≠ 9) : Off base w (own v) := by
  intro g hg _
  obtain ⟨cap, cur, _, h1, h2, _⟩ := h.open hg
  exact ⟨Nat.le_trans hb h1, fun c f e2 => by rw [h2] at e2; cases e2; exact he rfl⟩
/-- behind an append: new blocks, and the row's own -/
theorem Fr.ofGrown {w w' : World} {v : Value} (o : Obj) (h : (w.alloc o).grownBy w' v.ownBlock) : Fr (own v) w w' :=
  ((Fr.refl (own v) w).alloc o).grown h (fun _ hk _ => hk)
end Go.Proofs.YtkoobhgedoanhaaGreatDoor
