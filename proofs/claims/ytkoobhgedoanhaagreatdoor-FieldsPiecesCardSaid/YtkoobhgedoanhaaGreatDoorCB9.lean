/- A range over an iterator that keeps its state in one cell: the law for the caller. No function of the program in sight. strings.Split by one byte. url.host: strings.SplitSeq by one byte, and the range over it. url.Clean. -/
import Derived.Test.YtkoobhgedoanhaaGreatDoorCB1
import Derived.RangeFuncNested
import Derived.RangeFuncBound
import Derived.RangeFuncCalls
import Derived.RangeFuncLeaves
import Derived.Test.YtkoobhgedoanhaaGreatDoorCB2
import Derived.Test.YtkoobhgedoanhaaGreatDoorCB3
import Derived.Shelf.Strings.Split
import Derived.Shelf.Abstract
import Derived.Shelf.RegionOpen
import Derived.OwnWalkIn
import Derived.TacticsInMore
import Derived.LoopNIn
import Derived.LoopIn
namespace Go.Proofs.YtkoobhgedoanhaaGreatDoor
open Go.RowKit

/-- the three blocks of the iterator's variables lie as they lay -/
def Keeps3 (k : Nat) (A B : World) : Prop := ∀ j, k ≤ j → j < k + 3 → B.heap[j]? = A.heap[j]?
theorem Keeps3.refl (k : Nat) (A : World) : Keeps3 k A A := fun _ _ _ => rfl
theorem Keeps3.trans {k : Nat} {A B C : World} (h : Keeps3 k A B) (g : Keeps3 k B C) : Keeps3 k A C := fun j h1 h2 => (g j h1 h2).trans (h j h1 h2)
/-- the one block k, and the two of the loop's own book-keeping that lie from B on -/
def kept2 (k B : Nat) : Nat → Prop := fun j => j = k ∨ j = B ∨ j = B + 1
theorem Fr.putObj {S : Nat → Prop} {a w : World} (h : Fr S a w) {l : Nat} (hl : l < a.heap.size → S l) (o : Obj) : Fr S a (w.putObj l o) :=
  ⟨h.os, h.tape, h.output, by rw [World.putObj_size]; exact h.size, fun j hj hn => (World.putObj_heap_other (fun e => hn (by subst e; exact hl hj))).trans (h.block j hj hn)⟩

/-- how the body of a round may be left: it goes on, or it returns; what is no cells and the three blocks lie as they lay -/
def roundS {α : Type} (k : Nat) (I Ix : List α → World → Prop) (xs : List α) (W : World) : Exit → Act → World → Prop
  | .normal, _, W' => KeepsOthers W W' ∧ Keeps3 k W W' ∧ I xs W'
  | .ret, _, W' => KeepsOthers W W' ∧ Ix xs W'
  | _, _, _ => False

/-- the iterator's contract: it gives the elements of ys, whatever the loop's body does that keeps the three blocks from k on; it turns block k alone -/
def GivesS {α : Type} (F : Fence) (n : Nat) (P : Program) (g : Nat) (lb : Array Value) (enc : α → Value) (k : Nat) (ys : List α) (w : World) : Prop :=
  ∀ (l : Nat) (J Jx : List α → World → Prop) (W : World), Fr noB w W → (∀ xs A B, J xs A → Fr (fun j => j = k) A B → J xs B) → (∀ xs A B, Jx xs A → Fr (fun j => j = k) A B → Jx xs B) →
    (∀ xs x A, J xs A → xs ++ [x] <+: ys → YieldAt F (n - 1) P l #[enc x] A fun e B => (e = .returned (.bool true) ∧ J (xs ++ [x]) B ∧ Keeps3 k A B) ∨ (e = .returned (.bool false) ∧ Jx (xs ++ [x]) B)) →
    J [] W →
    CallsIn F n P g (#[.func (.yield l) #[] #[]] ++ lb) W fun e B => (∃ v, e = .returned v) ∧ (J ys B ∨ ∃ xs, xs <+: ys ∧ Jx xs B)

theorem wpIn_range_state {F : Fence} {n : Nat} {P : Program} {α : Type} {g : Operand} {ps : Array Tmp} {assign body : Code} {Q : Exit → Act → World → Prop} {a : Act} {w : World}
    (hro : F.round = none) (h1 : 1 ≤ n) {gf : Nat} {lb : Array Value} (hg : a.eval g = .func (.func gf) #[] lb) (hFg : F.fn gf) (eg : ∀ args w, (callFunc gf args).run P w = .ok (.enter gf args) w)
    {enc : α → Value} {k : Nat} {ys : List α} (hk : k + 3 ≤ w.heap.size) (hseq : GivesS F (n - 1) P gf lb enc k ys w) (hps : ps.size = 1)
    (I Ix : List α → World → Prop) (hI : ∀ xs A B, I xs A → Fr (kept2 k w.heap.size) A B → I xs B) (hIx : ∀ xs A B, Ix xs A → Fr (kept2 k w.heap.size) A B → Ix xs B) (h0 : I [] w) (a₁ : α → Act)
    (hassign : ∀ (l : Nat) (x : α) (W : World) (K : Act → World → Prop), K (a₁ x) W →
      assign.wpIn (F.inRound l) (n - 1 - 1) P (Exit.then K (fun _ _ _ => False)) { tmps := (ps.zip #[enc x]).foldl (fun t (p, v) => t.setIfInBounds p v) a.tmps, defers := [] } W)
    (hbody : ∀ (l : Nat) (xs : List α) (x : α) (W : World), I xs W → xs ++ [x] <+: ys → body.wpIn (F.inRound l) (n - 1 - 1) P (roundS k I Ix (xs ++ [x]) W) (a₁ x) W)
    (hdone : ∀ (D : Nat) (W : World), D = w.heap.size → I ys W → W.heap[D]? = some (.deferred (some [])) → Q .normal { a with defers := { target := .collected D, args := #[] } :: a.defers } W)
    (hstop : ∀ (D : Nat) (xs : List α) (W : World), D = w.heap.size → xs <+: ys → Ix xs W → W.heap[D]? = some (.deferred (some [])) → Code.ret.wpIn F n P Q { a with defers := { target := .collected D, args := #[] } :: a.defers } W) :
    (Code.rangeFunc g ps assign body).wpIn F n P Q a w := by
  refine wpIn_rangeFunc ?_
  intro fn hfn
  rw [hro]
  obtain ⟨rec, hrec⟩ : ∃ rec : LoopState → Option Code → Loop, rec = fun st pe => { state := st, pending := pe, fn, tmps := a.tmps, params := ps, assign, body, defers := w.heap.size } := ⟨_, rfl⟩
  obtain ⟨W1, hW1⟩ : ∃ W1, (w.alloc (.deferred (some []))).alloc (.loop (rec .ready none)) = W1 := ⟨_, rfl⟩
  have hz1 : W1.heap.size = w.heap.size + 2 := by rw [← hW1]; simp
  have hL1 : W1.heap[w.heap.size + 1]? = some (.loop (rec .ready none)) := by
    rw [← hW1]; have := World.alloc_heap_new (w.alloc (.deferred (some []))) (.loop (rec .ready none)); rwa [World.size_alloc] at this
  have hK1 : W1.heap[w.heap.size]? = some (.deferred (some [])) := by
    rw [← hW1]; exact (Below.heap_alloc _ _ _ (by simp)).trans (World.alloc_heap_new w _)
  have hf1 : Fr noB w W1 := by rw [← hW1]; exact ((Fr.refl noB w).alloc _).alloc _
  have hI1 : I [] W1 := hI _ _ _ h0 (hf1.mono fun _ _ h => h.elim)
  have hsub : ∀ {A B : World}, Fr (fun j => j = k) A B → Fr (kept2 k w.heap.size) A B := fun h => h.mono fun _ _ e => Or.inl e
  have hput : ∀ (A : World) (o : Obj), Fr (kept2 k w.heap.size) A (A.putObj (w.heap.size + 1) o) := fun A o => (Fr.refl _ A).putObj (fun _ => Or.inr (Or.inr rfl)) o
  have hsame : ∀ {A B : World} {j : Nat} {o : Obj}, Fr (fun j => j = k) A B → w.heap.size ≤ j → A.heap[j]? = some o → B.heap[j]? = some o := fun h hj ho => h.keep ho (fun e => by omega)
  refine ⟨w.heap.size + 1, [{ target := .collected w.heap.size, args := #[] }], W1, { target := .fn (.func gf) lb, args := #[.func (.yield (w.heap.size + 1)) #[] #[]] }, W1, gf,
    #[.func (.yield (w.heap.size + 1)) #[] #[]] ++ lb, W1, ?_, ?_, ?_, ?_, fun _ => h1, ?_⟩
  · rw [← hW1, hrec]; exact run_enterLoop_outer _ _ _ _ _
  · simp only [resolve, hg]
    simp [go_sem]
  · intro f' hf'; simp [Target.leads] at hf'; subst hf'; exact hFg
  · simp [invoke, go_sem, eg]
  refine (hseq (w.heap.size + 1)
    (fun xs W => I xs W ∧ W.heap[w.heap.size + 1]? = some (.loop (rec .ready none)) ∧ W.heap[w.heap.size]? = some (.deferred (some [])))
    (fun xs W => Ix xs W ∧ W.heap[w.heap.size + 1]? = some (.loop (rec .done (some .ret))) ∧ W.heap[w.heap.size]? = some (.deferred (some [])))
    W1 hf1
    (fun xs A B h f => ⟨hI _ _ _ h.1 (hsub f), hsame f (by omega) h.2.1, hsame f (by omega) h.2.2⟩)
    (fun xs A B h f => ⟨hIx _ _ _ h.1 (hsub f), hsame f (by omega) h.2.1, hsame f (by omega) h.2.2⟩)
    ?_ ⟨hI1, hL1, hK1⟩).mono ?_
  · rintro xs x W ⟨hi, hl, hd⟩ hxp
    have hlt : w.heap.size + 1 < W.heap.size := (Array.getElem?_eq_some_iff.1 hl).1
    have hy := run_yield (P := P) (args := #[enc x]) hl (by rw [hrec, hps]; rfl)
    rw [hrec] at hy
    refine ⟨fn, _, assign, body, hy, roundIn_of_wpIn hfn (hassign _ x W _ ⟨_, run_beginRound hl (by rw [hrec]), ?_⟩)⟩
    obtain ⟨W2, hW2⟩ : ∃ W2, W.putObj (w.heap.size + 1) (.loop { rec .ready none with state := .busy }) = W2 := ⟨_, rfl⟩
    rw [hW2]
    have hl2 : W2.heap[w.heap.size + 1]? = some (.loop { rec .ready none with state := .busy }) := by rw [← hW2]; exact World.putObj_heap_same hlt
    have hd2 : W2.heap[w.heap.size]? = some (.deferred (some [])) := by rw [← hW2]; exact (World.putObj_heap_other (by omega)).trans hd
    have hk2 : Keeps3 k W W2 := by rw [← hW2]; exact fun j h1 h2 => World.putObj_heap_other (by omega)
    have hi2 : I xs W2 := by rw [← hW2]; exact hI _ _ _ hi (hput _ _)
    refine wpIn_mono (hbody _ xs x W2 hi2 hxp) ?_
    have fin : ∀ (jump : Option Code) (W3 : World), KeepsOthers W2 W3 →
        (Instr.endRound (w.heap.size + 1) jump).run P W3 = .ok (.bool jump.isNone) (W3.putObj (w.heap.size + 1) (.loop (rec (if jump.isNone then .ready else .done) jump))) ∧
        (W3.putObj (w.heap.size + 1) (.loop (rec (if jump.isNone then .ready else .done) jump))).heap[w.heap.size + 1]? = some (.loop (rec (if jump.isNone then .ready else .done) jump)) ∧
        (W3.putObj (w.heap.size + 1) (.loop (rec (if jump.isNone then .ready else .done) jump))).heap[w.heap.size]? = some (.deferred (some [])) := fun jump W3 hk3 => by
      have hl3 := hk3.same _ _ hl2 rfl
      have hr := run_endRound (P := P) jump hl3
      rw [hrec] at hr ⊢
      exact ⟨hr, World.putObj_heap_same (Array.getElem?_eq_some_iff.1 hl3).1, (World.putObj_heap_other (by omega)).trans (hk3.same _ _ hd2 rfl)⟩
    rintro e a3 W3 hp
    cases e with
    | normal =>
      obtain ⟨ho3, hk3, hi3⟩ := hp
      obtain ⟨hr, hl4, hd4⟩ := fin none W3 ho3
      exact ⟨_, _, hr, .inl ⟨rfl, ⟨hI _ _ _ hi3 (hput _ _), hl4, hd4⟩, (hk2.trans hk3).trans fun j h1 h2 => World.putObj_heap_other (by omega)⟩⟩
    | ret =>
      obtain ⟨ho3, hi3⟩ := hp
      obtain ⟨hr, hl4, hd4⟩ := fin (some .ret) W3 ho3
      exact ⟨_, _, hr, .inr ⟨rfl, hIx _ _ _ hi3 (hput _ _), hl4, hd4⟩⟩
    | exit id => exact hp.elim
    | goto t => exact hp.elim
    | panic ch => exact hp.elim
    | outgrown => exact hp.elim
  · rintro e W2 ⟨⟨v, rfl⟩, (⟨hi, hl, hd⟩ | ⟨xs, hpre, hi, hl, hd⟩)⟩
    · exact ⟨none, _, by have := run_endLoop (P := P) hl (by rw [hrec]; simp); rw [hrec] at this; exact this, hdone _ _ rfl (hI _ _ _ hi (hput _ _)) ((World.putObj_heap_other (by omega)).trans hd)⟩
    · exact ⟨some .ret, _, by have := run_endLoop (P := P) hl (by rw [hrec]; simp); rw [hrec] at this; exact this, hstop _ xs _ rfl hpre (hIx _ _ _ hi (hput _ _)) ((World.putObj_heap_other (by omega)).trans hd)⟩
end Go.Proofs.YtkoobhgedoanhaaGreatDoor

namespace Go.Proofs.YtkoobhgedoanhaaGreatDoor
open Go.RowKit

/-- the first c of l stands at i -/
theorem idx_split : ∀ (l : List UInt8) (c : UInt8) (i : Nat), Lib.indexByte l c = (i : Int) → l = l.take i ++ c :: l.drop (i + 1) ∧ c ∉ l.take i
  | [], c, i, h => by simp [Lib.indexByte] at h
  | x :: l, c, i, h => by
    have hge := Lib.indexByte_ge l c
    have h' : (if x == c then (0 : Int) else if Lib.indexByte l c == -1 then -1 else Lib.indexByte l c + 1) = (i : Int) := h
    by_cases hx : x = c
    · rw [if_pos (by simpa using hx)] at h'
      obtain rfl : i = 0 := by omega
      subst hx
      exact ⟨rfl, by simp⟩
    · rw [if_neg (by simpa using hx)] at h'
      by_cases h1 : Lib.indexByte l c = -1
      · rw [if_pos (by simpa using h1)] at h'; omega
      · rw [if_neg (by simpa using h1)] at h'
        obtain ⟨j, rfl⟩ : ∃ j, i = j + 1 := ⟨i - 1, by omega⟩
        obtain ⟨e1, e2⟩ := idx_split l c j (by omega)
        refine ⟨?_, ?_⟩
        · show x :: l = x :: (l.take j ++ c :: l.drop (j + 1))
          rw [← e1]
        · intro hc
          rcases List.mem_cons.1 hc with rfl | hc
          · exact hx rfl
          · exact e2 hc
theorem idx_lt {l : List UInt8} {c : UInt8} {i : Nat} (h : Lib.indexByte l c = (i : Int)) : i < l.length := by
  obtain ⟨e, _⟩ := idx_split l c i h
  have := congrArg List.length e
  simp at this
  omega
/-- the parts of a text between the bytes c -/
def partsB (c : UInt8) (s : ByteArray) : List ByteArray := (splitL c s.data.toList).map fun l => ⟨l.toArray⟩
theorem ofList_extract (s : ByteArray) (a b : Nat) : s.extract a b = ⟨((s.data.toList.drop a).take (b - a)).toArray⟩ := by
  have h := Lib.extract_data s a b
  have h2 : (s.extract a b).data = ((s.data.toList.drop a).take (b - a)).toArray := by rw [← h]
  calc s.extract a b = ⟨(s.extract a b).data⟩ := rfl
    _ = _ := by rw [h2]
theorem partsB_hit (c : UInt8) (s : ByteArray) (i : Nat) (h : Lib.indexByte s.data.toList c = (i : Int)) : partsB c s = s.extract 0 i :: partsB c (s.extract (i + 1) s.size) := by
  obtain ⟨e, hn⟩ := idx_split _ _ _ h
  unfold partsB
  conv => lhs; rw [e, splitL_app c _ _ hn, List.map_cons]
  rw [ofList_extract, ofList_extract, List.take_of_length_le (l := s.data.toList.drop (i + 1)) (by simp)]
  rfl
theorem partsB_miss (c : UInt8) (s : ByteArray) (h : ¬ 0 ≤ Lib.indexByte s.data.toList c) : partsB c s = [s] := by
  have hn : c ∉ s.data.toList := fun hc => (idx_neg _ _).1 h c hc rfl
  unfold partsB
  rw [splitL_one c _ hn]
  rfl
theorem indexB_one (s : ByteArray) (c : UInt8) : Lib.indexB s ⟨#[c]⟩ = Lib.indexByte s.data.toList c := by
  show Lib.index s.data.toList [c] = _
  exact Lib.index_one _ _
theorem parts_count (c : UInt8) : ∀ (k : Nat) (s : ByteArray), Lib.countB s ⟨#[c]⟩ = k → Lib.splitB ⟨#[c]⟩ 0 k s = partsB c s
  | 0, s, hk => by
    rcases Lib.indexB_cases s ⟨#[c]⟩ with hix | ⟨i, hix, _⟩
    · rw [Lib.splitB_zero, partsB_miss c s (by rw [← indexB_one, hix]; decide)]
    · have := Lib.countB_hit s ⟨#[c]⟩ i (Nat.le_refl _) hix; omega
  | k + 1, s, hk => by
    rcases Lib.indexB_cases s ⟨#[c]⟩ with hix | ⟨i, hix, _⟩
    · rw [Lib.countB_miss s ⟨#[c]⟩ hix] at hk; omega
    · have hct := Lib.countB_hit s ⟨#[c]⟩ i (Nat.le_refl _) hix
      rw [Lib.splitB_hit _ 0 k s i hix, partsB_hit c s i (by rw [← indexB_one]; exact hix)]
      have e : Lib.splitB ⟨#[c]⟩ 0 k (s.extract (i + (⟨#[c]⟩ : ByteArray).size) s.size) = partsB c (s.extract (i + 1) s.size) := parts_count c k (s.extract (i + 1) s.size) (by
        have : Lib.countB (s.extract (i + (⟨#[c]⟩ : ByteArray).size) s.size) ⟨#[c]⟩ = k := by omega
        exact this)
      rw [e]; rfl
theorem countB_one (s : ByteArray) (c : UInt8) : Lib.countB s ⟨#[c]⟩ = Lib.countByte s.data.toList c := by
  show Lib.count s.data.toList [c] = _
  exact Lib.count_one _ _
set_option maxHeartbeats 1000000 in
/-- strings.Split by one byte -/
theorem Split1_any (s : ByteArray) (c : UInt8) (w : World) (hs : s.size < 4294967281) :
    Calls Tryz.prog 66 #[.string s, .string ⟨#[c]⟩] w fun e w' => e = .returned (.slice (some ⟨w.heap.size, 0, none⟩) (partsB c s).length (partsB c s).length) ∧ w' = w.alloc (.cells ((partsB c s).map Value.string).toArray 9) := by
  have hc1 : (1 : Nat) ≤ (⟨#[c]⟩ : ByteArray).size := Nat.le_refl _
  have hle := Lib.countB_le ⟨#[c]⟩ hc1 s.size s (Nat.le_refl _)
  have hlen := Lib.splitB_all ⟨#[c]⟩ hc1 0 _ s rfl
  have hsp : Lib.splitB ⟨#[c]⟩ 0 (Lib.countB s ⟨#[c]⟩) s = partsB c s := parts_count c _ s rfl
  have k : Calls Tryz.prog 122 #[.string s, .string ⟨#[c]⟩, .int .i64 (0 : Nat), .int .i64 (-1)] w fun e w' =>
      e = .returned (.slice (some ⟨w.heap.size, 0, none⟩) (Lib.splitB ⟨#[c]⟩ 0 (Lib.countB s ⟨#[c]⟩ + 1 - 1) s).length (Lib.countB s ⟨#[c]⟩ + 1)) ∧ w' = w.alloc (.cells (Lib.cellsOf (Lib.splitB ⟨#[c]⟩ 0 (Lib.countB s ⟨#[c]⟩ + 1 - 1) s) (Lib.countB s ⟨#[c]⟩ + 1)) 9) :=
    Any.strings_genSplit_core Tryz.lays221 (by kernel_rfl) s ⟨#[c]⟩ 0 (-1) (Lib.countB s ⟨#[c]⟩ + 1) w hs hc1 (Nat.zero_le _)
      (fun x cc _ => (Any.strings_Index_one Tryz.lays143 x c _).mono fun e w' ⟨he, hw⟩ => ⟨by rw [he, indexB_one], hw⟩)
      ((Any.strings_Count_one Tryz.lays138 s c w).mono fun e w' ⟨he, hw⟩ => ⟨by rw [he, countB_one], hw⟩)
      (by decide) (by decide) (by rw [if_pos (by decide)]; omega)
  rw [Nat.add_sub_cancel, hlen] at k
  have e2 : Lib.cellsOf (Lib.splitB ⟨#[c]⟩ 0 (Lib.countB s ⟨#[c]⟩) s) (Lib.countB s ⟨#[c]⟩ + 1) = ((Lib.splitB ⟨#[c]⟩ 0 (Lib.countB s ⟨#[c]⟩) s).map Value.string).toArray := by rw [← hlen]; exact Lib.cellsOf_full _
  rw [e2, ← hlen, hsp] at k
  go_enter Tryz.func66, Tryz.ntmps66
  go_wp2_with fail
  refine k.mono ?_
  rintro e w1 ⟨rfl, rfl⟩
  go_wp2
  go_ret
  exact ⟨rfl, rfl⟩
end Go.Proofs.YtkoobhgedoanhaaGreatDoor

namespace Go.Proofs.YtkoobhgedoanhaaGreatDoor
open Go.RowKit Go.Shelf
attribute [local go_sem] Oper.semAt_some

set_option maxHeartbeats 1000000 in
theorem Index1_any (s : ByteArray) (c : UInt8) (w : World) :
    Calls Tryz.prog 37 #[.string s, .string ⟨#[c]⟩] w fun e w' => e = .returned (.int .i64 (Lib.indexByte s.data.toList c)) ∧ w' = w := by
  go_enter Tryz.func37, Tryz.ntmps37
  go_wp2_with fail
  refine (Tryz.stringslite_Index_one s c w).mono ?_
  rintro e w1 ⟨rfl, rfl⟩
  go_wp2
  go_ret
  exact ⟨rfl, rfl⟩

def strLen (w : World) (k : Nat) : Nat := match w.cell? ⟨k, 0, none⟩ with
  | some (.string s) => s.size + 1
  | _ => 0
set_option maxRecDepth 100000 in
set_option maxHeartbeats 2000000 in
theorem splitSeq1_gives (s : ByteArray) (k n : Nat) (w : World) (hn : 1 ≤ n) (hs : s.size < 100000)
    (h0 : w.heap[k]? = some (.cells #[.string s] 9 (0, 0))) (h1 : w.heap[k + 1]? = some (.cells #[.string ⟨#[46]⟩] 9 (0, 0))) (h2 : w.heap[k + 2]? = some (.cells #[.int .i64 0] 3 (0, 0))) :
    GivesS Fence.wide n Tryz.prog 231 #[.pointer (some ⟨k + 1, 0, none⟩), .pointer (some ⟨k, 0, none⟩), .pointer (some ⟨k + 2, 0, none⟩)] (fun x : ByteArray => Value.string x) k (partsB 46 s) w := by
  intro l J Jx W hfW hJ hJx hY hJ0
  have b0 := hfW.keep h0 (fun h => h)
  have b1 := hfW.keep h1 (fun h => h)
  have b2 := hfW.keep h2 (fun h => h)
  have c0 : W.cell? ⟨k, 0, none⟩ = some (.string s) := by simp [World.cell?, b0]
  have c1 : W.cell? ⟨k + 1, 0, none⟩ = some (.string ⟨#[46]⟩) := by simp [World.cell?, b1]
  refine callsIn_of_wp Tryz.func231 rfl trivial ?_ rfl
  simp only [Tryz.ntmps231, List.size_toArray, List.length_cons, List.length_nil, Nat.reduceAdd, Nat.reduceSub, Array.replicate_succ, Array.replicate_zero, List.push_toArray, List.append_toArray, List.nil_append, List.cons_append]
  gi_wp2
  gi_loopw [] (fun wr => ∃ (pre : List ByteArray) (r : ByteArray), pre ++ partsB 46 r = partsB 46 s ∧ r.size ≤ s.size ∧ wr.heap[k]? = some (.cells #[.string r] 9 (0, 0)) ∧ wr.heap[k + 1]? = some (.cells #[.string ⟨#[46]⟩] 9 (0, 0)) ∧ wr.heap[k + 2]? = some (.cells #[.int .i64 0] 3 (0, 0)) ∧ J pre wr) (fun wr => strLen wr k)
  case atStart => exact ⟨[], s, rfl, Nat.le_refl _, b0, b1, b2, hJ0⟩
  case round =>
    obtain ⟨pre, r, hpr, hrs, d0, d1, d2, hj⟩ := hrel
    have e0 : wr.cell? ⟨k, 0, none⟩ = some (.string r) := by simp [World.cell?, d0]
    have e1 : wr.cell? ⟨k + 1, 0, none⟩ = some (.string ⟨#[46]⟩) := by simp [World.cell?, d1]
    have e2 : wr.cell? ⟨k + 2, 0, none⟩ = some (.int .i64 0) := by simp [World.cell?, d2]
    gi_wp2_with fail
    refine ⟨trivial, ?_⟩
    refine (callsIn_wide.2 (Index1_any r 46 wr)).mono ?_
    rintro e u ⟨rfl, rfl⟩
    by_cases hix : 0 ≤ Lib.indexByte r.data.toList 46
    · obtain ⟨i, hi⟩ : ∃ i : Nat, Lib.indexByte r.data.toList 46 = (i : Int) := ⟨(Lib.indexByte r.data.toList 46).toNat, by omega⟩
      have hil : i < r.size := by have := idx_lt hi; simpa using this
      have HPH := Lib.hid (partsB_hit 46 r i hi)
      rw [hi]
      clear hi hix
      have q0 : ¬ (i : Int) < 0 := by omega
      have q1 : (0 : Int) ≤ (i : Int) := by omega
      have q2 : (i : Int) ≤ (r.size : Int) := by omega
      have q3 : (i : Int) + 1 ≤ (r.size : Int) := by omega
      have q4 : (0 : Int) ≤ (i : Int) + 1 := by omega
      obtain ⟨fn, tmps, assign, body, hy, hR⟩ := hY pre (r.extract 0 i) u hj ⟨partsB 46 (r.extract (i + 1) r.size), by rw [List.append_assoc, List.singleton_append, ← HPH.out]; exact hpr⟩
      gi_wp2
      refine hR.mono ?_
      rintro e W3 (⟨rfl, hJ3, hk3⟩ | ⟨rfl, hx3⟩)
      · have f0 := (hk3 k (by omega) (by omega)).trans d0
        have f1 := (hk3 (k + 1) (by omega) (by omega)).trans d1
        have f2 := (hk3 (k + 2) (by omega) (by omega)).trans d2
        clear e0 e1 e2 hk3
        have e0 : W3.cell? ⟨k, 0, none⟩ = some (.string r) := by simp [World.cell?, f0]
        have e1 : W3.cell? ⟨k + 1, 0, none⟩ = some (.string ⟨#[46]⟩) := by simp [World.cell?, f1]
        have e3 : W3.frozen? ⟨k, 0, none⟩ = false := by simp [World.frozen?, f0]
        gi_wp2
        have g0 : (W3.setCell ⟨k, 0, none⟩ (.string (r.extract (i + 1) r.size))).heap[k]? = some (.cells #[.string (r.extract (i + 1) r.size)] 9 (0, 0)) := by simp [World.setCell, Array.getElem?_modify, f0]
        have hz : (r.extract (i + 1) r.size).size = r.size - (i + 1) := by rw [ByteArray.size_extract]; omega
        refine ⟨⟨pre ++ [r.extract 0 i], r.extract (i + 1) r.size, by rw [List.append_assoc, List.singleton_append, ← HPH.out]; exact hpr, by omega, g0, (Below.heap_setCell _ _ _ _ (by simp)).trans f1, (Below.heap_setCell _ _ _ _ (by simp)).trans f2, hJ _ _ _ hJ3 ((Fr.refl (fun j => j = k) W3).setCell (p := ⟨k, 0, none⟩) (fun _ => rfl) _)⟩, ?_⟩
        unfold strLen
        simp only [World.cell?, g0, d0]
        simp
        omega
      · gi_wp2
        refine bodyPost_ret (results_none rfl _ _ _) rfl ?_
        exact ⟨⟨_, rfl⟩, .inr ⟨pre ++ [r.extract 0 i], ⟨partsB 46 (r.extract (i + 1) r.size), by rw [List.append_assoc, List.singleton_append, ← HPH.out]; exact hpr⟩, hx3⟩⟩
    · have HPM := Lib.hid (show pre ++ [r] = partsB 46 s by rw [← partsB_miss 46 r hix]; exact hpr)
      obtain ⟨fn, tmps, assign, body, hy, hR⟩ := hY pre r u hj ⟨[], by rw [List.append_nil]; exact HPM.out⟩
      have q0 : Lib.indexByte r.data.toList 46 < 0 := by omega
      clear hix
      gi_wp2
      refine hR.mono ?_
      rintro e W3 (⟨rfl, hJ3, hk3⟩ | ⟨rfl, hx3⟩)
      · gi_wp2
        go_end0
        exact ⟨⟨_, rfl⟩, .inl (by rw [← HPM.out]; exact hJ3)⟩
      · gi_wp2
        go_end0
        exact ⟨⟨_, rfl⟩, .inr ⟨pre ++ [r], ⟨[], by rw [List.append_nil]; exact HPM.out⟩, hx3⟩⟩
end Go.Proofs.YtkoobhgedoanhaaGreatDoor

namespace Go.Proofs.YtkoobhgedoanhaaGreatDoor
open Go.RowKit

/-- a row of the call's own, its last element left out -/
theorem Strs.pop {base : Nat} {w : World} {a : Addr} {n c : Nat} {ss : List ByteArray} {x : ByteArray} (h : Strs base w (.slice (some a) n c) (ss ++ [x])) : Strs base w (.slice (some a) ss.length c) ss := by
  obtain ⟨h1, h2⟩ := h
  rcases h2 with ⟨hv, _⟩ | ⟨g, cap, cur, hv, hg, hh, h3, h4, h5, h6⟩
  · cases hv
  · cases hv
    refine ⟨by simp, Or.inr ⟨g, c, cur, rfl, hg, hh, ?_, h4, h5, ?_⟩⟩
    · simp at h3; omega
    · have e : (cur.toList.take (ss.length * 1)) = (cur.toList.take ((ss ++ [x]).length * 1)).take ss.length := by
        rw [List.take_take]; congr 1; simp
      rw [e, h6]; simp
theorem Strs.none_nil {base : Nat} {w : World} {n c : Nat} {ss : List ByteArray} (h : Strs base w (.slice none n c) ss) : ss = [] := by
  rcases h.2 with ⟨_, hn⟩ | ⟨g, cap, cur, hq, _⟩
  · exact List.eq_nil_of_length_eq_zero hn
  · cases hq
theorem Strs.cap {base : Nat} {w : World} {a : Option Addr} {n c : Nat} {ss : List ByteArray} (h : Strs base w (.slice a n c) ss) : ss.length ≤ c := by
  rcases h.2 with ⟨hq, hn⟩ | ⟨g, cap, cur, hq, _, _, h3, _⟩
  · rw [hn]; exact Nat.zero_le _
  · cases hq; exact h3
theorem drop_step {α : Type} {l : List α} {k : Nat} {x : α} (h : l[k]? = some x) : l.drop k = x :: l.drop (k + 1) := by
  obtain ⟨hk, e⟩ := List.getElem?_eq_some_iff.1 h
  rw [List.drop_eq_getElem_cons hk, e]
theorem wordsB_app (l : List (List UInt8)) (p : List UInt8) : wordsB (l ++ [p]) = wordsB l ++ [⟨p.toArray⟩] := by unfold wordsB; simp
theorem wordsB_length (l : List (List UInt8)) : (wordsB l).length = l.length := by unfold wordsB; simp
theorem splitL_count (c : UInt8) : ∀ l : List UInt8, (splitL c l).length ≤ l.length + 1
  | [] => by simp [splitL]
  | x :: l => by
    have ih := splitL_count c l
    have hne := splitL_ne c l
    by_cases h : x = c
    · subst h; rw [splitL_hit]; simp; omega
    · cases e : splitL c l with
      | nil => exact absurd e hne
      | cons p ps => rw [splitL_step h e]; rw [e] at ih; simp at ih ⊢; omega
theorem words_none {base : Nat} {w : World} {n c : Nat} {l : List (List UInt8)} (h : Strs base w (.slice none n c) (wordsB l)) : l.length = 0 := by
  rw [← wordsB_length l, Strs.none_nil h]; rfl
/-- what is held is never longer than the parts that went by -/
theorem step_len (l : List (List UInt8)) (p : List UInt8) (last : Bool) : (cleanStep l p last).length ≤ l.length + 1 := by
  have hp : (popP l).length ≤ l.length := by unfold popP; split <;> simp
  unfold cleanStep
  split
  · split <;> simp <;> omega
  · split
    · split <;> simp
    · simp
theorem join_eq (l : List (List UInt8)) : Lib.join ((wordsB l).map (·.data.toList)) [47] = joinL 47 l := by
  have e : (wordsB l).map (·.data.toList) = l := by unfold wordsB; rw [List.map_map]; simp [Function.comp_def]
  rw [e]
  induction l with
  | nil => rfl
  | cons p ps ih =>
    cases ps with
    | nil => simp [Lib.join, joinL]
    | cons q qs =>
      have ih' := ih (by unfold wordsB; rw [List.map_map]; simp [Function.comp_def])
      rw [joinL, ← ih']
      simp [Lib.join]
theorem JoinS_any (v : Value) (l : List (List UInt8)) (w : World) (hv : StrsAt w v (wordsB l)) (hn : l.length ≤ 140737488355328) (hlen : (joinL 47 l).length ≤ 140737488355328) :
    Calls Tryz.prog 72 #[v, .string ⟨#[47]⟩] w fun e w' => e = .returned (.string ⟨(joinL 47 l).toArray⟩) ∧ Fr noB w w' := by
  have ej := join_eq l
  rcases hv with ⟨a, c, rfl, hs, _⟩ | ⟨bk, o, c, rfl, h1, h2, h3, h4⟩
  · have hl : l = [] := by cases l with | nil => rfl | cons p ps => simp [wordsB] at hs
    subst hl
    exact (Tryz.strings_Join_none _ _ _ _).mono (by rintro e w1 ⟨rfl, rfl⟩; exact ⟨rfl, Fr.refl _ _⟩)
  · refine (Tryz.strings_Join bk o c (wordsB l) ⟨#[47]⟩ w h4 h3 (by rw [wordsB_length]; exact hn) h1 (by show (Lib.join _ [47]).length ≤ _; rw [ej]; exact hlen)).mono ?_
    rintro e w1 ⟨rfl, hb⟩
    refine ⟨?_, Fr.of_below hb⟩
    show Ending.returned (.string ⟨(Lib.join _ [47]).toArray⟩) = _
    rw [ej]

/-- where the loop comes to -/
def ClRel (s : List UInt8) (base : Nat) (w1 : World) (parts : List (List UInt8)) (v i : Value) (wr : World) : Prop :=
  ∃ (k : Nat) (l : List (List UInt8)), k ≤ parts.length ∧ i = .int .i64 k ∧ Strs base wr v (wordsB l) ∧ l.length ≤ k ∧ cleanGo l (parts.drop k) = cleanParts s ∧ Fr noB w1 wr
theorem root_byte (s : ByteArray) : ∃ t : ByteArray, t.data.toList = rootL s.data.toList ∧ t.size ≤ s.size + 1 ∧ (Lib.hasPrefix s.data.toList [47] = true → t = s) ∧ (Lib.hasPrefix s.data.toList [47] = false → t = ⟨#[47]⟩ ++ s) := by
  have hp : Lib.hasPrefix s.data.toList [47] = true ↔ s.data.toList.head? = some 47 := by
    cases h : s.data.toList with
    | nil => simp [Lib.hasPrefix]
    | cons a l => simp [Lib.hasPrefix]; exact eq_comm
  cases h : Lib.hasPrefix s.data.toList [47]
  · have h1 : (⟨#[47]⟩ : ByteArray).size = 1 := rfl
    refine ⟨⟨#[47]⟩ ++ s, ?_, by rw [ByteArray.size_append, h1]; omega, (fun e => by cases e), fun _ => rfl⟩
    unfold rootL
    rw [if_neg (fun e => by rw [hp.2 e] at h; cases h)]
    simp
  · refine ⟨s, ?_, by omega, fun _ => rfl, (fun e => by cases e)⟩
    unfold rootL
    rw [if_pos (hp.1 h)]
theorem rootL_len (s : List UInt8) : (rootL s).length ≤ s.length + 1 := by unfold rootL; split <;> simp
theorem join_le (c : UInt8) : ∀ ps : List (List UInt8), (joinL c ps).length ≤ (ps.map fun p => p.length + 1).sum
  | [] => by simp [joinL]
  | [p] => by simp [joinL]
  | p :: q :: ps => by
    have ih := join_le c (q :: ps)
    rw [joinL]
    simp at ih ⊢
    omega
theorem sum_drop (f : List UInt8 → Nat) : ∀ l : List (List UInt8), ((l.dropLast).map f).sum ≤ (l.map f).sum
  | [] => by simp
  | [p] => by simp
  | p :: q :: ps => by
    have ih := sum_drop f (q :: ps)
    rw [List.dropLast_cons_of_ne_nil (by simp)]
    simp at ih ⊢
    omega
theorem go_sum : ∀ (ps l : List (List UInt8)), ((cleanGo l ps).map fun p => p.length + 1).sum ≤ (l.map fun p => p.length + 1).sum + (ps.map fun p => p.length + 1).sum
  | [], l => by simp [cleanGo]
  | p :: ps, l => by
    have ih := go_sum ps (cleanStep l p ps.isEmpty)
    have hpop : ((popP l).map fun p => p.length + 1).sum ≤ (l.map fun p => p.length + 1).sum := by
      unfold popP; split
      · exact sum_drop _ l
      · exact Nat.le_refl _
    have hst : ((cleanStep l p ps.isEmpty).map fun p => p.length + 1).sum ≤ (l.map fun p => p.length + 1).sum + (p.length + 1) := by
      unfold cleanStep
      split
      · split
        · simp only [List.map_append, List.sum_append, List.map_cons, List.map_nil, List.sum_cons, List.sum_nil, List.length_nil]; omega
        · omega
      · split
        · split
          · simp only [List.map_append, List.sum_append, List.map_cons, List.map_nil, List.sum_cons, List.sum_nil, List.length_nil]; omega
          · omega
        · simp only [List.map_append, List.sum_append, List.map_cons, List.map_nil, List.sum_cons, List.sum_nil]; omega
    show ((cleanGo (cleanStep l p ps.isEmpty) ps).map fun p => p.length + 1).sum ≤ _
    simp at ih hst ⊢
    omega
theorem split_sum (c : UInt8) : ∀ l : List UInt8, ((splitL c l).map fun p => p.length + 1).sum ≤ l.length + 1
  | [] => by simp [splitL]
  | x :: l => by
    have ih := split_sum c l
    have hne := splitL_ne c l
    by_cases h : x = c
    · subst h; rw [splitL_hit]; simp at ih ⊢; omega
    · cases e : splitL c l with
      | nil => exact absurd e hne
      | cons p ps => rw [splitL_step h e]; rw [e] at ih; simp at ih ⊢; omega
theorem clean_len (s : List UInt8) : (cleanL s).length ≤ s.length + 2 := by
  have h1 := join_le 47 (cleanParts s)
  have h2 := go_sum (splitL 47 (rootL s)) []
  have h3 := split_sum 47 (rootL s)
  have h4 := rootL_len s
  unfold cleanL
  unfold cleanParts at h1 ⊢
  simp at h1 h2 h3 h4 ⊢
  omega
set_option maxRecDepth 100000 in
set_option maxHeartbeats 8000000 in
theorem Clean_any (s : ByteArray) (w : World) (hs : s.size < 100000) :
    Calls Tryz.prog 68 #[.string s] w fun e w' => e = .returned (.string ⟨(cleanL s.data.toList).toArray⟩) ∧ Fr noB w w' := by
  obtain ⟨t, ht, htz, hty, htn⟩ := root_byte s
  obtain ⟨parts, hparts⟩ : ∃ parts, parts = splitL 47 t.data.toList := ⟨_, rfl⟩
  have hpl : parts.length ≤ 100001 := by rw [hparts]; have := splitL_count 47 t.data.toList; simp at this; omega
  have hpb : partsB 47 t = wordsB parts := by rw [hparts]; rfl
  have HGO := Lib.hid (show cleanGo [] parts = cleanParts s.data.toList by rw [hparts, ht]; rfl)
  have HCL := Lib.hid (show (cleanL s.data.toList).length ≤ 140737488355328 by have := clean_len s.data.toList; simp at this; omega)
  obtain ⟨W, hW⟩ : ∃ W, W = w.alloc (.cells ((partsB 47 t).map Value.string).toArray 9) := ⟨_, rfl⟩
  have hfW : Fr noB w W := by rw [hW]; exact (Fr.refl noB w).alloc _
  have hzW : W.heap.size = w.heap.size + 1 := by rw [hW]; simp
  have hrow : W.heap[w.heap.size]? = some (.cells ((partsB 47 t).map Value.string).toArray 9 (0, 0)) := by rw [hW]; exact new_block _ _
  have HSP := Lib.hid ((Split1_any t 47 w (by omega)).mono (fun e w' h => by rw [← hW, hpb, wordsB_length] at h; exact ⟨h.1, h.2.symm⟩) : Calls Tryz.prog 66 #[.string t, .string ⟨#[47]⟩] w fun e w' => e = .returned (.slice (some ⟨w.heap.size, 0, none⟩) parts.length parts.length) ∧ W = w')
  rw [hpb] at hrow
  clear hW hpb
  have HCELL := Lib.hid (show ∀ U, Fr noB W U → ∀ (k : Nat) p, parts[k]? = some p → U.cell? ⟨w.heap.size, k, none⟩ = some (.string ⟨p.toArray⟩) from fun U hU k p hp => by
    have := hU.keep hrow (fun h => h)
    simp [World.cell?, this, wordsB, hp])
  clear hrow
  have HJOIN : ∀ (v : Value) (wr : World) (l : List (List UInt8)), Strs (w.heap.size + 1) wr v (wordsB l) → l.length ≤ 100001 → l = cleanParts s.data.toList → Fr noB W wr →
      Calls Tryz.prog 72 #[v, .string ⟨#[47]⟩] wr fun e w' => e = .returned (.string ⟨(cleanL s.data.toList).toArray⟩) ∧ Fr noB w w' := fun v wr l hv hl e hf => by
    have := (JoinS_any v l wr hv.at (by omega) (by rw [e]; exact HCL.out)).mono (R' := fun e w' => e = .returned (.string ⟨(cleanL s.data.toList).toArray⟩) ∧ Fr noB w w') (fun e' w' ⟨h1, h2⟩ => ⟨by rw [h1, e]; rfl, (hfW.trans hf).trans h2⟩)
    exact this
  have HJOIN := Lib.hid HJOIN
  have HPRE := Lib.hid (show Calls Tryz.prog 67 #[.string s, .string ⟨#[47]⟩] w fun e w' => e = .returned (.bool (Lib.hasPrefix s.data.toList (⟨#[47]⟩ : ByteArray).data.toList)) ∧ w = w' from (Tryz.strings_HasPrefix s ⟨#[47]⟩ w).mono fun e w' h => ⟨h.1, h.2.symm⟩)
  cases hpre : Lib.hasPrefix s.data.toList [47]
  · have e := htn hpre
    have HSP2 := HSP.out
    rw [e] at HSP2
    clear hty htn ht e hparts
    go_enter Tryz.func68, Tryz.ntmps68
    go_wp2_with fail
    refine HPRE.out.mono ?_
    rintro e u ⟨rfl, rfl⟩
    rw [show Lib.hasPrefix s.data.toList (⟨#[47]⟩ : ByteArray).data.toList = false from hpre]
    go_wp2_with fail
    refine HSP2.mono ?_
    rintro e u ⟨rfl, rfl⟩
    go_wp2
    go_loopw [3, 17] (ClRel s.data.toList (w.heap.size + 1) W parts) (fun _ i _ => parts.length - (intOf i).toNat)
    case atStart => exact ⟨0, [], Nat.zero_le _, rfl, Strs.nil _ _, Nat.le_refl _, by rw [List.drop_zero]; exact HGO.out, Fr.refl _ _⟩
    case round =>
      obtain ⟨k, l, hk, rfl, hv, hlk, hgo, hfr⟩ := hrel
      have HG := Lib.hid hgo
      clear hgo
      obtain ⟨av, cv, hvf⟩ := hv.form
      rw [wordsB_length] at hvf
      subst hvf
      have hs1 : w.heap.size + 1 ≤ wr.heap.size := by have := hfr.size; omega
      by_cases hks : k < parts.length
      · have hki : (k : Int) < (parts.length : Int) := by omega
        obtain ⟨p, hp⟩ : ∃ p, parts[k]? = some p := ⟨_, List.getElem?_eq_getElem hks⟩
        have hcell := HCELL.out wr hfr k p hp
        have HDR := Lib.hid (show cleanGo l (parts.drop k) = cleanGo (cleanStep l p (parts.drop (k + 1)).isEmpty) (parts.drop (k + 1)) by rw [drop_step hp]; rfl)
        clear hp
        have hpt : (⟨p.toArray⟩ : ByteArray).toList = p := by rw [ByteArray.toList_eq]
        obtain ⟨pb, hpb⟩ : ∃ pb : ByteArray, pb = ⟨p.toArray⟩ := ⟨_, rfl⟩
        rw [← hpb] at hcell hpt
        have HPB := Lib.hid hpb
        clear hpb
        have HEND := Lib.hid (show ∀ (l' : List (List UInt8)), l' = cleanStep l p (parts.drop (k + 1)).isEmpty → l'.length ≤ k + 1 ∧ cleanGo l' (parts.drop (k + 1)) = cleanParts s.data.toList from fun l' e => by
          have := step_len l p (parts.drop (k + 1)).isEmpty
          rw [e]
          exact ⟨by omega, by rw [← HDR.out]; exact HG.out⟩)
        by_cases hla : k + 1 = parts.length
        · have HE := Lib.hid (show (parts.drop (k + 1)).isEmpty = true by rw [hla]; simp)
          have hl1 : ((k : Int) == (parts.length : Int) - 1) = true := beq_iff_eq.2 (by omega)
          clear hla
          by_cases hd2 : p = dotsP
          · subst hd2
            have hpl : pb.toList = [46, 46] := hpt
            clear hpt
            by_cases hlen : 1 < l.length
            · have hli : (1 : Int) < (l.length : Int) := by omega
              obtain ⟨l0, x, hl0⟩ : ∃ l0 x, l = l0 ++ [x] := ⟨l.dropLast, l.getLast (by intro e; rw [e] at hlen; simp at hlen), (List.dropLast_concat_getLast _).symm⟩
              have hll : l.length = l0.length + 1 := by rw [hl0]; simp
              obtain ⟨ad, had⟩ : ∃ ad, av = some ad := by
                cases av with
                | none => exact absurd (words_none hv) (by omega)
                | some ad => exact ⟨ad, rfl⟩
              subst had
              have HPOP := Lib.hid (show popP l = l0 by unfold popP; rw [if_pos hlen, hl0]; simp)
              rw [hl0, wordsB_app] at hv
              rw [hll]
              rw [show (l0 ++ [x]).length = (wordsB l0).length + 1 from by rw [wordsB_length]; simp] at hv
              replace hv := Strs.pop hv
              rw [wordsB_length] at hv
              have q1 : (0 : Int) ≤ (l0.length : Int) := by omega
              have q4 : (l0.length : Int) ≤ (cv : Int) := by have := Strs.cap hv; rw [wordsB_length] at this; omega
              have q5 : l0.length ≤ cv := by omega
              have q2 : (1 : Int) < (l0.length : Int) + 1 := by omega
              have q3 : (l0.length : Int) + 1 - 1 = (l0.length : Int) := by omega
              clear hli hl0
              have HX := Lib.hid (HEND.out (l0 ++ [[]]) (by unfold cleanStep; rw [if_pos rfl, HE.out, HPOP.out]; rfl))
              go_wp2_with (at_builtin; refine wpList_str rfl _ _ rfl (w.heap.size + 1) (.slice (some ad) _ cv) (wordsB l0) rfl (by apply Strs.alloc; exact hv) ⟨wr.heap.size, 0, none⟩ 1 ⟨#[]⟩ rfl (new_cell _ _ _ _) (by rw [wordsB_length]; omega) (by simp; omega) ?_; intro v2 w3 hv3 hg3)
              have HF3 := Lib.hid ((hfr.alloc (.cells #[.string ⟨#[]⟩] 9)).grownNew hg3 (fun j hj => by have := hv.block j hj; omega))
              go_roundw
              case rel => exact ⟨k + 1, l0 ++ [[]], by omega, by go_num, by rw [wordsB_app]; exact hv3, (HX.out).1, (HX.out).2, HF3.out⟩
              case measure => simp [intOf]; omega
            · have hli : ¬ (1 : Int) < (l.length : Int) := by omega
              have HPOP := Lib.hid (show popP l = l by unfold popP; rw [if_neg hlen])
              have HX := Lib.hid (HEND.out (l ++ [[]]) (by unfold cleanStep; rw [if_pos rfl, HE.out, HPOP.out]; rfl))
              go_wp2_with (at_builtin; refine wpList_str rfl _ _ rfl (w.heap.size + 1) (.slice av _ cv) (wordsB l) rfl (by apply Strs.alloc; exact hv) ⟨wr.heap.size, 0, none⟩ 1 ⟨#[]⟩ rfl (new_cell _ _ _ _) (by rw [wordsB_length]; omega) (by simp; omega) ?_; intro v2 w3 hv3 hg3)
              have HF3 := Lib.hid ((hfr.alloc (.cells #[.string ⟨#[]⟩] 9)).grownNew hg3 (fun j hj => by have := hv.block j hj; omega))
              go_roundw
              case rel => exact ⟨k + 1, l ++ [[]], by omega, by go_num, by rw [wordsB_app]; exact hv3, (HX.out).1, (HX.out).2, HF3.out⟩
              case measure => simp [intOf]; omega
          · have hd2' : ¬ pb.toList = [46, 46] := fun e => hd2 (hpt.symm.trans e)
            have hd2b : (pb.toList == [46, 46]) = false := beq_eq_false_iff_ne.2 hd2'
            by_cases hd1 : p = dotP
            · subst hd1
              have hpl : pb.toList = [46] := hpt
              clear hpt
              have HX := Lib.hid (HEND.out (l ++ [[]]) (by unfold cleanStep; rw [if_neg hd2, if_pos rfl, HE.out]; rfl))
              clear hd2
              go_wp2_with (at_builtin; refine wpList_str rfl _ _ rfl (w.heap.size + 1) (.slice av _ cv) (wordsB l) rfl (by apply Strs.alloc; exact hv) ⟨wr.heap.size, 0, none⟩ 1 ⟨#[]⟩ rfl (new_cell _ _ _ _) (by rw [wordsB_length]; omega) (by simp; omega) ?_; intro v2 w3 hv3 hg3)
              have HF3 := Lib.hid ((hfr.alloc (.cells #[.string ⟨#[]⟩] 9)).grownNew hg3 (fun j hj => by have := hv.block j hj; omega))
              go_roundw
              case rel => exact ⟨k + 1, l ++ [[]], by omega, by go_num, by rw [wordsB_app]; exact hv3, (HX.out).1, (HX.out).2, HF3.out⟩
              case measure => simp [intOf]; omega
            · have hd1' : ¬ pb.toList = [46] := fun e => hd1 (hpt.symm.trans e)
              have hd1b : (pb.toList == [46]) = false := beq_eq_false_iff_ne.2 hd1'
              have HX := Lib.hid (HEND.out (l ++ [p]) (by unfold cleanStep; rw [if_neg hd2, if_neg hd1]))
              clear hd2 hd1 hpt
              go_wp2_with (at_builtin; refine wpList_str rfl _ _ rfl (w.heap.size + 1) (.slice av _ cv) (wordsB l) rfl (by apply Strs.alloc; exact hv) ⟨wr.heap.size, 0, none⟩ 1 pb rfl (new_cell _ _ _ _) (by rw [wordsB_length]; omega) (by simp; omega) ?_; intro v2 w3 hv3 hg3)
              have HF3 := Lib.hid ((hfr.alloc (.cells #[.string pb] 9)).grownNew hg3 (fun j hj => by have := hv.block j hj; omega))
              go_roundw
              case rel => exact ⟨k + 1, l ++ [p], by omega, by go_num, by rw [wordsB_app, ← HPB.out]; exact hv3, (HX.out).1, (HX.out).2, HF3.out⟩
              case measure => simp [intOf]; omega
        · have HE := Lib.hid (show (parts.drop (k + 1)).isEmpty = false by
            cases e : parts.drop (k + 1) with
            | nil => have := congrArg List.length e; simp at this; omega
            | cons a b => rfl)
          have hl1 : ((k : Int) == (parts.length : Int) - 1) = false := beq_eq_false_iff_ne.2 (by omega)
          by_cases hd2 : p = dotsP
          · subst hd2
            have hpl : pb.toList = [46, 46] := hpt
            clear hpt
            by_cases hlen : 1 < l.length
            · have hli : (1 : Int) < (l.length : Int) := by omega
              obtain ⟨l0, x, hl0⟩ : ∃ l0 x, l = l0 ++ [x] := ⟨l.dropLast, l.getLast (by intro e; rw [e] at hlen; simp at hlen), (List.dropLast_concat_getLast _).symm⟩
              have hll : l.length = l0.length + 1 := by rw [hl0]; simp
              obtain ⟨ad, had⟩ : ∃ ad, av = some ad := by
                cases av with
                | none => exact absurd (words_none hv) (by omega)
                | some ad => exact ⟨ad, rfl⟩
              subst had
              have HPOP := Lib.hid (show popP l = l0 by unfold popP; rw [if_pos hlen, hl0]; simp)
              rw [hl0, wordsB_app] at hv
              rw [hll]
              rw [show (l0 ++ [x]).length = (wordsB l0).length + 1 from by rw [wordsB_length]; simp] at hv
              replace hv := Strs.pop hv
              rw [wordsB_length] at hv
              have q1 : (0 : Int) ≤ (l0.length : Int) := by omega
              have q4 : (l0.length : Int) ≤ (cv : Int) := by have := Strs.cap hv; rw [wordsB_length] at this; omega
              have q5 : l0.length ≤ cv := by omega
              have q2 : (1 : Int) < (l0.length : Int) + 1 := by omega
              have q3 : (l0.length : Int) + 1 - 1 = (l0.length : Int) := by omega
              clear hli hl0
              have HX := Lib.hid (HEND.out (l0) (by unfold cleanStep; rw [if_pos rfl, HE.out, HPOP.out]; rfl))
              go_wp2
              go_roundw
              case rel => exact ⟨k + 1, l0, by omega, by go_num, hv, (HX.out).1, (HX.out).2, hfr⟩
              case measure => simp [intOf]; omega
            · have hli : ¬ (1 : Int) < (l.length : Int) := by omega
              have HPOP := Lib.hid (show popP l = l by unfold popP; rw [if_neg hlen])
              have HX := Lib.hid (HEND.out (l) (by unfold cleanStep; rw [if_pos rfl, HE.out, HPOP.out]; rfl))
              go_wp2
              go_roundw
              case rel => exact ⟨k + 1, l, by omega, by go_num, hv, (HX.out).1, (HX.out).2, hfr⟩
              case measure => simp [intOf]; omega
          · have hd2' : ¬ pb.toList = [46, 46] := fun e => hd2 (hpt.symm.trans e)
            have hd2b : (pb.toList == [46, 46]) = false := beq_eq_false_iff_ne.2 hd2'
            by_cases hd1 : p = dotP
            · subst hd1
              have hpl : pb.toList = [46] := hpt
              clear hpt
              have HX := Lib.hid (HEND.out (l) (by unfold cleanStep; rw [if_neg hd2, if_pos rfl, HE.out]; rfl))
              clear hd2
              go_wp2
              go_roundw
              case rel => exact ⟨k + 1, l, by omega, by go_num, hv, (HX.out).1, (HX.out).2, hfr⟩
              case measure => simp [intOf]; omega
            · have hd1' : ¬ pb.toList = [46] := fun e => hd1 (hpt.symm.trans e)
              have hd1b : (pb.toList == [46]) = false := beq_eq_false_iff_ne.2 hd1'
              have HX := Lib.hid (HEND.out (l ++ [p]) (by unfold cleanStep; rw [if_neg hd2, if_neg hd1]))
              clear hd2 hd1 hpt
              go_wp2_with (at_builtin; refine wpList_str rfl _ _ rfl (w.heap.size + 1) (.slice av _ cv) (wordsB l) rfl (by apply Strs.alloc; exact hv) ⟨wr.heap.size, 0, none⟩ 1 pb rfl (new_cell _ _ _ _) (by rw [wordsB_length]; omega) (by simp; omega) ?_; intro v2 w3 hv3 hg3)
              have HF3 := Lib.hid ((hfr.alloc (.cells #[.string pb] 9)).grownNew hg3 (fun j hj => by have := hv.block j hj; omega))
              go_roundw
              case rel => exact ⟨k + 1, l ++ [p], by omega, by go_num, by rw [wordsB_app, ← HPB.out]; exact hv3, (HX.out).1, (HX.out).2, HF3.out⟩
              case measure => simp [intOf]; omega
      · have hki : ¬ (k : Int) < (parts.length : Int) := by omega
        have he : l = cleanParts s.data.toList := by
          have := HG.out
          rw [List.drop_of_length_le (by omega)] at this
          exact this
        have hj := Lib.hid (HJOIN.out _ wr l hv (by omega) he hfr)
        clear he
        go_wp2_with fail
        refine hj.out.mono ?_
        rintro e w9 ⟨rfl, hf9⟩
        go_wp2
        go_ret
        exact ⟨rfl, hf9⟩
  · have e := hty hpre
    have HSP2 := HSP.out
    rw [e] at HSP2
    clear hty htn ht e hparts
    go_enter Tryz.func68, Tryz.ntmps68
    go_wp2_with fail
    refine HPRE.out.mono ?_
    rintro e u ⟨rfl, rfl⟩
    rw [show Lib.hasPrefix s.data.toList (⟨#[47]⟩ : ByteArray).data.toList = true from hpre]
    go_wp2_with fail
    refine HSP2.mono ?_
    rintro e u ⟨rfl, rfl⟩
    go_wp2
    go_loopw [3, 17] (ClRel s.data.toList (w.heap.size + 1) W parts) (fun _ i _ => parts.length - (intOf i).toNat)
    case atStart => exact ⟨0, [], Nat.zero_le _, rfl, Strs.nil _ _, Nat.le_refl _, by rw [List.drop_zero]; exact HGO.out, Fr.refl _ _⟩
    case round =>
      obtain ⟨k, l, hk, rfl, hv, hlk, hgo, hfr⟩ := hrel
      have HG := Lib.hid hgo
      clear hgo
      obtain ⟨av, cv, hvf⟩ := hv.form
      rw [wordsB_length] at hvf
      subst hvf
      have hs1 : w.heap.size + 1 ≤ wr.heap.size := by have := hfr.size; omega
      by_cases hks : k < parts.length
      · have hki : (k : Int) < (parts.length : Int) := by omega
        obtain ⟨p, hp⟩ : ∃ p, parts[k]? = some p := ⟨_, List.getElem?_eq_getElem hks⟩
        have hcell := HCELL.out wr hfr k p hp
        have HDR := Lib.hid (show cleanGo l (parts.drop k) = cleanGo (cleanStep l p (parts.drop (k + 1)).isEmpty) (parts.drop (k + 1)) by rw [drop_step hp]; rfl)
        clear hp
        have hpt : (⟨p.toArray⟩ : ByteArray).toList = p := by rw [ByteArray.toList_eq]
        obtain ⟨pb, hpb⟩ : ∃ pb : ByteArray, pb = ⟨p.toArray⟩ := ⟨_, rfl⟩
        rw [← hpb] at hcell hpt
        have HPB := Lib.hid hpb
        clear hpb
        have HEND := Lib.hid (show ∀ (l' : List (List UInt8)), l' = cleanStep l p (parts.drop (k + 1)).isEmpty → l'.length ≤ k + 1 ∧ cleanGo l' (parts.drop (k + 1)) = cleanParts s.data.toList from fun l' e => by
          have := step_len l p (parts.drop (k + 1)).isEmpty
          rw [e]
          exact ⟨by omega, by rw [← HDR.out]; exact HG.out⟩)
        by_cases hla : k + 1 = parts.length
        · have HE := Lib.hid (show (parts.drop (k + 1)).isEmpty = true by rw [hla]; simp)
          have hl1 : ((k : Int) == (parts.length : Int) - 1) = true := beq_iff_eq.2 (by omega)
          clear hla
          by_cases hd2 : p = dotsP
          · subst hd2
            have hpl : pb.toList = [46, 46] := hpt
            clear hpt
            by_cases hlen : 1 < l.length
            · have hli : (1 : Int) < (l.length : Int) := by omega
              obtain ⟨l0, x, hl0⟩ : ∃ l0 x, l = l0 ++ [x] := ⟨l.dropLast, l.getLast (by intro e; rw [e] at hlen; simp at hlen), (List.dropLast_concat_getLast _).symm⟩
              have hll : l.length = l0.length + 1 := by rw [hl0]; simp
              obtain ⟨ad, had⟩ : ∃ ad, av = some ad := by
                cases av with
                | none => exact absurd (words_none hv) (by omega)
                | some ad => exact ⟨ad, rfl⟩
              subst had
              have HPOP := Lib.hid (show popP l = l0 by unfold popP; rw [if_pos hlen, hl0]; simp)
              rw [hl0, wordsB_app] at hv
              rw [hll]
              rw [show (l0 ++ [x]).length = (wordsB l0).length + 1 from by rw [wordsB_length]; simp] at hv
              replace hv := Strs.pop hv
              rw [wordsB_length] at hv
              have q1 : (0 : Int) ≤ (l0.length : Int) := by omega
              have q4 : (l0.length : Int) ≤ (cv : Int) := by have := Strs.cap hv; rw [wordsB_length] at this; omega
              have q5 : l0.length ≤ cv := by omega
              have q2 : (1 : Int) < (l0.length : Int) + 1 := by omega
              have q3 : (l0.length : Int) + 1 - 1 = (l0.length : Int) := by omega
              clear hli hl0
              have HX := Lib.hid (HEND.out (l0 ++ [[]]) (by unfold cleanStep; rw [if_pos rfl, HE.out, HPOP.out]; rfl))
              go_wp2_with (at_builtin; refine wpList_str rfl _ _ rfl (w.heap.size + 1) (.slice (some ad) _ cv) (wordsB l0) rfl (by apply Strs.alloc; exact hv) ⟨wr.heap.size, 0, none⟩ 1 ⟨#[]⟩ rfl (new_cell _ _ _ _) (by rw [wordsB_length]; omega) (by simp; omega) ?_; intro v2 w3 hv3 hg3)
              have HF3 := Lib.hid ((hfr.alloc (.cells #[.string ⟨#[]⟩] 9)).grownNew hg3 (fun j hj => by have := hv.block j hj; omega))
              go_roundw
              case rel => exact ⟨k + 1, l0 ++ [[]], by omega, by go_num, by rw [wordsB_app]; exact hv3, (HX.out).1, (HX.out).2, HF3.out⟩
              case measure => simp [intOf]; omega
            · have hli : ¬ (1 : Int) < (l.length : Int) := by omega
              have HPOP := Lib.hid (show popP l = l by unfold popP; rw [if_neg hlen])
              have HX := Lib.hid (HEND.out (l ++ [[]]) (by unfold cleanStep; rw [if_pos rfl, HE.out, HPOP.out]; rfl))
              go_wp2_with (at_builtin; refine wpList_str rfl _ _ rfl (w.heap.size + 1) (.slice av _ cv) (wordsB l) rfl (by apply Strs.alloc; exact hv) ⟨wr.heap.size, 0, none⟩ 1 ⟨#[]⟩ rfl (new_cell _ _ _ _) (by rw [wordsB_length]; omega) (by simp; omega) ?_; intro v2 w3 hv3 hg3)
              have HF3 := Lib.hid ((hfr.alloc (.cells #[.string ⟨#[]⟩] 9)).grownNew hg3 (fun j hj => by have := hv.block j hj; omega))
              go_roundw
              case rel => exact ⟨k + 1, l ++ [[]], by omega, by go_num, by rw [wordsB_app]; exact hv3, (HX.out).1, (HX.out).2, HF3.out⟩
              case measure => simp [intOf]; omega
          · have hd2' : ¬ pb.toList = [46, 46] := fun e => hd2 (hpt.symm.trans e)
            have hd2b : (pb.toList == [46, 46]) = false := beq_eq_false_iff_ne.2 hd2'
            by_cases hd1 : p = dotP
            · subst hd1
              have hpl : pb.toList = [46] := hpt
              clear hpt
              have HX := Lib.hid (HEND.out (l ++ [[]]) (by unfold cleanStep; rw [if_neg hd2, if_pos rfl, HE.out]; rfl))
              clear hd2
              go_wp2_with (at_builtin; refine wpList_str rfl _ _ rfl (w.heap.size + 1) (.slice av _ cv) (wordsB l) rfl (by apply Strs.alloc; exact hv) ⟨wr.heap.size, 0, none⟩ 1 ⟨#[]⟩ rfl (new_cell _ _ _ _) (by rw [wordsB_length]; omega) (by simp; omega) ?_; intro v2 w3 hv3 hg3)
              have HF3 := Lib.hid ((hfr.alloc (.cells #[.string ⟨#[]⟩] 9)).grownNew hg3 (fun j hj => by have := hv.block j hj; omega))
              go_roundw
              case rel => exact ⟨k + 1, l ++ [[]], by omega, by go_num, by rw [wordsB_app]; exact hv3, (HX.out).1, (HX.out).2, HF3.out⟩
              case measure => simp [intOf]; omega
            · have hd1' : ¬ pb.toList = [46] := fun e => hd1 (hpt.symm.trans e)
              have hd1b : (pb.toList == [46]) = false := beq_eq_false_iff_ne.2 hd1'
              have HX := Lib.hid (HEND.out (l ++ [p]) (by unfold cleanStep; rw [if_neg hd2, if_neg hd1]))
              clear hd2 hd1 hpt
              go_wp2_with (at_builtin; refine wpList_str rfl _ _ rfl (w.heap.size + 1) (.slice av _ cv) (wordsB l) rfl (by apply Strs.alloc; exact hv) ⟨wr.heap.size, 0, none⟩ 1 pb rfl (new_cell _ _ _ _) (by rw [wordsB_length]; omega) (by simp; omega) ?_; intro v2 w3 hv3 hg3)
              have HF3 := Lib.hid ((hfr.alloc (.cells #[.string pb] 9)).grownNew hg3 (fun j hj => by have := hv.block j hj; omega))
              go_roundw
              case rel => exact ⟨k + 1, l ++ [p], by omega, by go_num, by rw [wordsB_app, ← HPB.out]; exact hv3, (HX.out).1, (HX.out).2, HF3.out⟩
              case measure => simp [intOf]; omega
        · have HE := Lib.hid (show (parts.drop (k + 1)).isEmpty = false by
            cases e : parts.drop (k + 1) with
            | nil => have := congrArg List.length e; simp at this; omega
            | cons a b => rfl)
          have hl1 : ((k : Int) == (parts.length : Int) - 1) = false := beq_eq_false_iff_ne.2 (by omega)
          by_cases hd2 : p = dotsP
          · subst hd2
            have hpl : pb.toList = [46, 46] := hpt
            clear hpt
            by_cases hlen : 1 < l.length
            · have hli : (1 : Int) < (l.length : Int) := by omega
              obtain ⟨l0, x, hl0⟩ : ∃ l0 x, l = l0 ++ [x] := ⟨l.dropLast, l.getLast (by intro e; rw [e] at hlen; simp at hlen), (List.dropLast_concat_getLast _).symm⟩
              have hll : l.length = l0.length + 1 := by rw [hl0]; simp
              obtain ⟨ad, had⟩ : ∃ ad, av = some ad := by
                cases av with
                | none => exact absurd (words_none hv) (by omega)
                | some ad => exact ⟨ad, rfl⟩
              subst had
              have HPOP := Lib.hid (show popP l = l0 by unfold popP; rw [if_pos hlen, hl0]; simp)
              rw [hl0, wordsB_app] at hv
              rw [hll]
              rw [show (l0 ++ [x]).length = (wordsB l0).length + 1 from by rw [wordsB_length]; simp] at hv
              replace hv := Strs.pop hv
              rw [wordsB_length] at hv
              have q1 : (0 : Int) ≤ (l0.length : Int) := by omega
              have q4 : (l0.length : Int) ≤ (cv : Int) := by have := Strs.cap hv; rw [wordsB_length] at this; omega
              have q5 : l0.length ≤ cv := by omega
              have q2 : (1 : Int) < (l0.length : Int) + 1 := by omega
              have q3 : (l0.length : Int) + 1 - 1 = (l0.length : Int) := by omega
              clear hli hl0
              have HX := Lib.hid (HEND.out (l0) (by unfold cleanStep; rw [if_pos rfl, HE.out, HPOP.out]; rfl))
              go_wp2
              go_roundw
              case rel => exact ⟨k + 1, l0, by omega, by go_num, hv, (HX.out).1, (HX.out).2, hfr⟩
              case measure => simp [intOf]; omega
            · have hli : ¬ (1 : Int) < (l.length : Int) := by omega
              have HPOP := Lib.hid (show popP l = l by unfold popP; rw [if_neg hlen])
              have HX := Lib.hid (HEND.out (l) (by unfold cleanStep; rw [if_pos rfl, HE.out, HPOP.out]; rfl))
              go_wp2
              go_roundw
              case rel => exact ⟨k + 1, l, by omega, by go_num, hv, (HX.out).1, (HX.out).2, hfr⟩
              case measure => simp [intOf]; omega
          · have hd2' : ¬ pb.toList = [46, 46] := fun e => hd2 (hpt.symm.trans e)
            have hd2b : (pb.toList == [46, 46]) = false := beq_eq_false_iff_ne.2 hd2'
            by_cases hd1 : p = dotP
            · subst hd1
              have hpl : pb.toList = [46] := hpt
              clear hpt
              have HX := Lib.hid (HEND.out (l) (by unfold cleanStep; rw [if_neg hd2, if_pos rfl, HE.out]; rfl))
              clear hd2
              go_wp2
              go_roundw
              case rel => exact ⟨k + 1, l, by omega, by go_num, hv, (HX.out).1, (HX.out).2, hfr⟩
              case measure => simp [intOf]; omega
            · have hd1' : ¬ pb.toList = [46] := fun e => hd1 (hpt.symm.trans e)
              have hd1b : (pb.toList == [46]) = false := beq_eq_false_iff_ne.2 hd1'
              have HX := Lib.hid (HEND.out (l ++ [p]) (by unfold cleanStep; rw [if_neg hd2, if_neg hd1]))
              clear hd2 hd1 hpt
              go_wp2_with (at_builtin; refine wpList_str rfl _ _ rfl (w.heap.size + 1) (.slice av _ cv) (wordsB l) rfl (by apply Strs.alloc; exact hv) ⟨wr.heap.size, 0, none⟩ 1 pb rfl (new_cell _ _ _ _) (by rw [wordsB_length]; omega) (by simp; omega) ?_; intro v2 w3 hv3 hg3)
              have HF3 := Lib.hid ((hfr.alloc (.cells #[.string pb] 9)).grownNew hg3 (fun j hj => by have := hv.block j hj; omega))
              go_roundw
              case rel => exact ⟨k + 1, l ++ [p], by omega, by go_num, by rw [wordsB_app, ← HPB.out]; exact hv3, (HX.out).1, (HX.out).2, HF3.out⟩
              case measure => simp [intOf]; omega
      · have hki : ¬ (k : Int) < (parts.length : Int) := by omega
        have he : l = cleanParts s.data.toList := by
          have := HG.out
          rw [List.drop_of_length_le (by omega)] at this
          exact this
        have hj := Lib.hid (HJOIN.out _ wr l hv (by omega) he hfr)
        clear he
        go_wp2_with fail
        refine hj.out.mono ?_
        rintro e w9 ⟨rfl, hf9⟩
        go_wp2
        go_ret
        exact ⟨rfl, hf9⟩
end Go.Proofs.YtkoobhgedoanhaaGreatDoor
