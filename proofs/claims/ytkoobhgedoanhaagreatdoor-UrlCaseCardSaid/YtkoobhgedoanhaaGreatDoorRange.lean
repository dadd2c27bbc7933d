/- A range over an iterator that keeps its state in one cell: the law for the caller. No function of the program in sight. -/
import Derived.Test.YtkoobhgedoanhaaGreatDoorBase
import Derived.RangeFuncNested
import Derived.RangeFuncBound
import Derived.RangeFuncCalls
import Derived.RangeFuncLeaves
namespace Go.Proofs.YtkoobhgedoanhaaGreatDoor
open Go.RowKit

/-- the three blocks of the iterator's variables lie as they lay -/
def Keeps3 (k : Nat) (A B : World) : Prop := ∀ j, k ≤ j → j < k + 3 → B.heap[j]? = A.heap[j]?
theorem Keeps3.refl (k : Nat) (A : World) : Keeps3 k A A := fun _ _ _ => rfl
theorem Keeps3.trans {k : Nat} {A B C : World} (h : Keeps3 k A B) (g : Keeps3 k B C) : Keeps3 k A C := fun j h1 h2 => (g j h1 h2).trans (h j h1 h2)
/-- the one block k, and the two of the loop's own book-keeping that lie from B on -/
def kept2 (k B : Nat) : Nat → Prop := fun j => j = k ∨ j = B ∨ j = B + 1
theorem Fr.putObj {S : Nat → Prop} {a w : World} (h : Fr S a w) {l : Nat} (hl : l < a.heap.size → S l) (o : Obj) : Fr S a (w.putObj l o) :=
  ⟨h.os, h.tape, h.output, by rw [World.putObj_size]; exact h.size, fun j hj hn => (World.putObj_heap_other (fun e => hn (by subst e; exact hl hj))).trans (h.block j hj hn)⟩

/-- how the body of a round may be left: it goes on, or it returns; what is no cells and the three blocks lie as they lay -/
def roundS {α : Type} (k : Nat) (I Ix : List α → World → Prop) (xs : List α) (W : World) : Exit → Act → World → Prop
  | .normal, _, W' => KeepsOthers W W' ∧ Keeps3 k W W' ∧ I xs W'
  | .ret, _, W' => KeepsOthers W W' ∧ Ix xs W'
  | _, _, _ => False

/-- the iterator's contract: it gives the elements of ys, whatever the loop's body does that keeps the three blocks from k on; it turns block k alone -/
def GivesS {α : Type} (F : Fence) (n : Nat) (P : Program) (g : Nat) (lb : Array Value) (enc : α → Value) (k : Nat) (ys : List α) (w : World) : Prop :=
  ∀ (l : Nat) (J Jx : List α → World → Prop) (W : World), Fr noB w W → (∀ xs A B, J xs A → Fr (fun j => j = k) A B → J xs B) → (∀ xs A B, Jx xs A → Fr (fun j => j = k) A B → Jx xs B) →
    (∀ xs x A, J xs A → xs ++ [x] <+: ys → YieldAt F (n - 1) P l #[enc x] A fun e B => (e = .returned (.bool true) ∧ J (xs ++ [x]) B ∧ Keeps3 k A B) ∨ (e = .returned (.bool false) ∧ Jx (xs ++ [x]) B)) →
    J [] W →
    CallsIn F n P g (#[.func (.yield l) #[] #[]] ++ lb) W fun e B => (∃ v, e = .returned v) ∧ (J ys B ∨ ∃ xs, xs <+: ys ∧ Jx xs B)

theorem wpIn_range_state {F : Fence} {n : Nat} {P : Program} {α : Type} {g : Operand} {ps : Array Tmp} {assign body : Code} {Q : Exit → Act → World → Prop} {a : Act} {w : World}
    (hro : F.round = none) (h1 : 1 ≤ n) {gf : Nat} {lb : Array Value} (hg : a.eval g = .func (.func gf) #[] lb) (hFg : F.fn gf) (eg : ∀ args w, (callFunc gf args).run P w = .ok (.enter gf args) w)
    {enc : α → Value} {k : Nat} {ys : List α} (hk : k + 3 ≤ w.heap.size) (hseq : GivesS F (n - 1) P gf lb enc k ys w) (hps : ps.size = 1)
    (I Ix : List α → World → Prop) (hI : ∀ xs A B, I xs A → Fr (kept2 k w.heap.size) A B → I xs B) (hIx : ∀ xs A B, Ix xs A → Fr (kept2 k w.heap.size) A B → Ix xs B) (h0 : I [] w) (a₁ : α → Act)
    (hassign : ∀ (l : Nat) (x : α) (W : World) (K : Act → World → Prop), K (a₁ x) W →
      assign.wpIn (F.inRound l) (n - 1 - 1) P (Exit.then K (fun _ _ _ => False)) { tmps := (ps.zip #[enc x]).foldl (fun t (p, v) => t.setIfInBounds p v) a.tmps, defers := [] } W)
    (hbody : ∀ (l : Nat) (xs : List α) (x : α) (W : World), I xs W → xs ++ [x] <+: ys → body.wpIn (F.inRound l) (n - 1 - 1) P (roundS k I Ix (xs ++ [x]) W) (a₁ x) W)
    (hdone : ∀ (D : Nat) (W : World), D = w.heap.size → I ys W → W.heap[D]? = some (.deferred (some [])) → Q .normal { a with defers := { target := .collected D, args := #[] } :: a.defers } W)
    (hstop : ∀ (D : Nat) (xs : List α) (W : World), D = w.heap.size → xs <+: ys → Ix xs W → W.heap[D]? = some (.deferred (some [])) → Code.ret.wpIn F n P Q { a with defers := { target := .collected D, args := #[] } :: a.defers } W) :
    (Code.rangeFunc g ps assign body).wpIn F n P Q a w := by
  refine wpIn_rangeFunc ?_
  intro fn hfn
  rw [hro]
  obtain ⟨rec, hrec⟩ : ∃ rec : LoopState → Option Code → Loop, rec = fun st pe => { state := st, pending := pe, fn, tmps := a.tmps, params := ps, assign, body, defers := w.heap.size } := ⟨_, rfl⟩
  obtain ⟨W1, hW1⟩ : ∃ W1, (w.alloc (.deferred (some []))).alloc (.loop (rec .ready none)) = W1 := ⟨_, rfl⟩
  have hz1 : W1.heap.size = w.heap.size + 2 := by rw [← hW1]; simp
  have hL1 : W1.heap[w.heap.size + 1]? = some (.loop (rec .ready none)) := by
    rw [← hW1]; have := World.alloc_heap_new (w.alloc (.deferred (some []))) (.loop (rec .ready none)); rwa [World.size_alloc] at this
  have hK1 : W1.heap[w.heap.size]? = some (.deferred (some [])) := by
    rw [← hW1]; exact (Below.heap_alloc _ _ _ (by simp)).trans (World.alloc_heap_new w _)
  have hf1 : Fr noB w W1 := by rw [← hW1]; exact ((Fr.refl noB w).alloc _).alloc _
  have hI1 : I [] W1 := hI _ _ _ h0 (hf1.mono fun _ _ h => h.elim)
  have hsub : ∀ {A B : World}, Fr (fun j => j = k) A B → Fr (kept2 k w.heap.size) A B := fun h => h.mono fun _ _ e => Or.inl e
  have hput : ∀ (A : World) (o : Obj), Fr (kept2 k w.heap.size) A (A.putObj (w.heap.size + 1) o) := fun A o => (Fr.refl _ A).putObj (fun _ => Or.inr (Or.inr rfl)) o
  have hsame : ∀ {A B : World} {j : Nat} {o : Obj}, Fr (fun j => j = k) A B → w.heap.size ≤ j → A.heap[j]? = some o → B.heap[j]? = some o := fun h hj ho => h.keep ho (fun e => by omega)
  refine ⟨w.heap.size + 1, [{ target := .collected w.heap.size, args := #[] }], W1, { target := .fn (.func gf) lb, args := #[.func (.yield (w.heap.size + 1)) #[] #[]] }, W1, gf,
    #[.func (.yield (w.heap.size + 1)) #[] #[]] ++ lb, W1, ?_, ?_, ?_, ?_, fun _ => h1, ?_⟩
  · rw [← hW1, hrec]; exact run_enterLoop_outer _ _ _ _ _
  · simp only [resolve, hg]
    simp [go_sem]
  · intro f' hf'; simp [Target.leads] at hf'; subst hf'; exact hFg
  · simp [invoke, go_sem, eg]
  refine (hseq (w.heap.size + 1)
    (fun xs W => I xs W ∧ W.heap[w.heap.size + 1]? = some (.loop (rec .ready none)) ∧ W.heap[w.heap.size]? = some (.deferred (some [])))
    (fun xs W => Ix xs W ∧ W.heap[w.heap.size + 1]? = some (.loop (rec .done (some .ret))) ∧ W.heap[w.heap.size]? = some (.deferred (some [])))
    W1 hf1
    (fun xs A B h f => ⟨hI _ _ _ h.1 (hsub f), hsame f (by omega) h.2.1, hsame f (by omega) h.2.2⟩)
    (fun xs A B h f => ⟨hIx _ _ _ h.1 (hsub f), hsame f (by omega) h.2.1, hsame f (by omega) h.2.2⟩)
    ?_ ⟨hI1, hL1, hK1⟩).mono ?_
  · rintro xs x W ⟨hi, hl, hd⟩ hxp
    have hlt : w.heap.size + 1 < W.heap.size := (Array.getElem?_eq_some_iff.1 hl).1
    have hy := run_yield (P := P) (args := #[enc x]) hl (by rw [hrec, hps]; rfl)
    rw [hrec] at hy
    refine ⟨fn, _, assign, body, hy, roundIn_of_wpIn hfn (hassign _ x W _ ⟨_, run_beginRound hl (by rw [hrec]), ?_⟩)⟩
    obtain ⟨W2, hW2⟩ : ∃ W2, W.putObj (w.heap.size + 1) (.loop { rec .ready none with state := .busy }) = W2 := ⟨_, rfl⟩
    rw [hW2]
    have hl2 : W2.heap[w.heap.size + 1]? = some (.loop { rec .ready none with state := .busy }) := by rw [← hW2]; exact World.putObj_heap_same hlt
    have hd2 : W2.heap[w.heap.size]? = some (.deferred (some [])) := by rw [← hW2]; exact (World.putObj_heap_other (by omega)).trans hd
    have hk2 : Keeps3 k W W2 := by rw [← hW2]; exact fun j h1 h2 => World.putObj_heap_other (by omega)
    have hi2 : I xs W2 := by rw [← hW2]; exact hI _ _ _ hi (hput _ _)
    refine wpIn_mono (hbody _ xs x W2 hi2 hxp) ?_
    have fin : ∀ (jump : Option Code) (W3 : World), KeepsOthers W2 W3 →
        (Instr.endRound (w.heap.size + 1) jump).run P W3 = .ok (.bool jump.isNone) (W3.putObj (w.heap.size + 1) (.loop (rec (if jump.isNone then .ready else .done) jump))) ∧
        (W3.putObj (w.heap.size + 1) (.loop (rec (if jump.isNone then .ready else .done) jump))).heap[w.heap.size + 1]? = some (.loop (rec (if jump.isNone then .ready else .done) jump)) ∧
        (W3.putObj (w.heap.size + 1) (.loop (rec (if jump.isNone then .ready else .done) jump))).heap[w.heap.size]? = some (.deferred (some [])) := fun jump W3 hk3 => by
      have hl3 := hk3.same _ _ hl2 rfl
      have hr := run_endRound (P := P) jump hl3
      rw [hrec] at hr ⊢
      exact ⟨hr, World.putObj_heap_same (Array.getElem?_eq_some_iff.1 hl3).1, (World.putObj_heap_other (by omega)).trans (hk3.same _ _ hd2 rfl)⟩
    rintro e a3 W3 hp
    cases e with
    | normal =>
      obtain ⟨ho3, hk3, hi3⟩ := hp
      obtain ⟨hr, hl4, hd4⟩ := fin none W3 ho3
      exact ⟨_, _, hr, .inl ⟨rfl, ⟨hI _ _ _ hi3 (hput _ _), hl4, hd4⟩, (hk2.trans hk3).trans fun j h1 h2 => World.putObj_heap_other (by omega)⟩⟩
    | ret =>
      obtain ⟨ho3, hi3⟩ := hp
      obtain ⟨hr, hl4, hd4⟩ := fin (some .ret) W3 ho3
      exact ⟨_, _, hr, .inr ⟨rfl, hIx _ _ _ hi3 (hput _ _), hl4, hd4⟩⟩
    | exit id => exact hp.elim
    | goto t => exact hp.elim
    | panic ch => exact hp.elim
    | outgrown => exact hp.elim
  · rintro e W2 ⟨⟨v, rfl⟩, (⟨hi, hl, hd⟩ | ⟨xs, hpre, hi, hl, hd⟩)⟩
    · exact ⟨none, _, by have := run_endLoop (P := P) hl (by rw [hrec]; simp); rw [hrec] at this; exact this, hdone _ _ rfl (hI _ _ _ hi (hput _ _)) ((World.putObj_heap_other (by omega)).trans hd)⟩
    · exact ⟨some .ret, _, by have := run_endLoop (P := P) hl (by rw [hrec]; simp); rw [hrec] at this; exact this, hstop _ xs _ rfl hpre (hIx _ _ _ hi (hput _ _)) ((World.putObj_heap_other (by omega)).trans hd)⟩
end Go.Proofs.YtkoobhgedoanhaaGreatDoor
