/- Walks: token.List. Plain laws of lists of words: what is joined is read; two lists, one behind the other. No program in sight. Texts between marks: plain laws. No program in sight. Walks: Cursor.Go; the plain form of token.Value. Challenges as texts: the plain reader. No program in sight. Origins, asks, grants as fields. Splitting at a byte, joining, and paths without point parts: plain laws. No program in sight. What a challenge asks for: the plain form. No program in sight. -/
import Derived.Test.YtkoobhgedoanhaaGreatDoorCB1
import Derived.Lib.Repeat
namespace Go.Proofs.YtkoobhgedoanhaaGreatDoor
open Go.RowKit

/-- an error: nil, an Errno, or one with a place -/
def ErrIs (w : World) (v : Value) : Option (Nat × Option Nat) → Prop
  | none => v = .nilIface
  | some (n, none) => v = .iface 93 (.int .i64 n)
  | some (n, some p) => ∃ g, v = .iface 148 (.pointer (some ⟨g, 0, none⟩)) ∧ w.heap[g]? = some (.cells #[.int .i64 n, .int .i64 p] 150 (0, 0))

/-- the words of a list, read off what is left of it; else how many bytes are left where it falls -/
def listN : Nat → List UInt8 → Except Nat (List (List UInt8))
  | 0, _ => .ok []
  | f + 1, r =>
    let r1 := r.dropWhile blankB
    let w := r1.takeWhile byteB
    let r3 := (r1.dropWhile byteB).dropWhile blankB
    let ws := if w.isEmpty then [] else [w]
    match r3 with
    | [] => .ok ws
    | c :: r4 => if c == 44 then (listN f r4).map (ws ++ ·) else .error (r4.length + 1)
def listAll (l : List UInt8) : Except Nat (List (List UInt8)) := listN (l.length + 1) l

theorem dropWhile_eq_drop (p : UInt8 → Bool) (l : List UInt8) : l.dropWhile p = l.drop (l.takeWhile p).length := by
  induction l with
  | nil => rfl
  | cons a t ih => by_cases h : p a <;> simp [h, ih]
theorem drop_spanEnd (p : UInt8 → Bool) (l : List UInt8) (i : Nat) : l.drop (spanEnd p l i) = (l.drop i).dropWhile p := by
  rw [dropWhile_eq_drop, List.drop_drop, spanEnd]
theorem takeWhile_eq_take (p : UInt8 → Bool) (l : List UInt8) : l.takeWhile p = l.take (l.takeWhile p).length := by
  induction l with
  | nil => rfl
  | cons a t ih => by_cases h : p a <;> simp [h]; exact ih
theorem extract_span (p : UInt8 → Bool) (s : ByteArray) (i : Nat) : (s.extract i (spanEnd p s.data.toList i)) = ⟨((s.data.toList.drop i).takeWhile p).toArray⟩ := by
  apply Go.WideShapes.bytes_inj
  rw [Lib.extract_data, takeWhile_eq_take, List.take_drop]
  rw [spanEnd, List.drop_take]
  generalize (List.takeWhile p (List.drop i s.data.toList)).length = n
  rw [show i + (i + n - i) - i = n from by omega]
def wordsB (l : List (List UInt8)) : List ByteArray := l.map fun w => ⟨w.toArray⟩

/-- a round of the list's loop: where it comes to -/
def lk1 (l : List UInt8) (k : Nat) : Nat := spanEnd blankB l k
def lk2 (l : List UInt8) (k : Nat) : Nat := spanEnd byteB l (lk1 l k)
def lk3 (l : List UInt8) (k : Nat) : Nat := spanEnd blankB l (lk2 l k)
def lword (l : List UInt8) (k : Nat) : List UInt8 := (l.drop (lk1 l k)).takeWhile byteB
def lws (l : List UInt8) (k : Nat) : List (List UInt8) := if (lword l k).isEmpty then [] else [lword l k]

theorem listN_round (f : Nat) (l : List UInt8) (k : Nat) : listN (f + 1) (l.drop k) =
    match l.drop (lk3 l k) with
    | [] => .ok (lws l k)
    | c :: r4 => if c == 44 then (listN f r4).map (lws l k ++ ·) else .error (r4.length + 1) := by
  rw [listN]
  simp only [lk3, lk2, lk1, drop_spanEnd, lws, lword]
theorem listN_end {f : Nat} {l : List UInt8} {k : Nat} (h : l.length ≤ lk3 l k) : listN (f + 1) (l.drop k) = .ok (lws l k) := by
  rw [listN_round, List.drop_eq_nil_of_le h]
theorem listN_comma {f : Nat} {l : List UInt8} {k : Nat} (h : l[lk3 l k]? = some 44) : listN (f + 1) (l.drop k) = (listN f (l.drop (lk3 l k + 1))).map (lws l k ++ ·) := by
  rw [listN_round, drop_at h]; rfl
theorem listN_bad {f : Nat} {l : List UInt8} {k : Nat} {c : UInt8} (h : l[lk3 l k]? = some c) (hc : (c == 44) = false) : listN (f + 1) (l.drop k) = .error (l.length - lk3 l k) := by
  rw [listN_round, drop_at h]; simp only [hc, Bool.false_eq_true, if_false]
  have := (List.getElem?_eq_some_iff.1 h).1
  simp; omega
theorem lk_mono (l : List UInt8) (k : Nat) : k ≤ lk1 l k ∧ lk1 l k ≤ lk2 l k ∧ lk2 l k ≤ lk3 l k := ⟨spanEnd_ge, spanEnd_ge, spanEnd_ge⟩
theorem lk_le {l : List UInt8} {k : Nat} (h : k ≤ l.length) : lk1 l k ≤ l.length ∧ lk2 l k ≤ l.length ∧ lk3 l k ≤ l.length :=
  ⟨spanEnd_le h, spanEnd_le (spanEnd_le h), spanEnd_le (spanEnd_le (spanEnd_le h))⟩
theorem span_idem (p : UInt8 → Bool) (l : List UInt8) (k : Nat) : spanEnd p l (spanEnd p l k) = spanEnd p l k := by
  unfold spanEnd
  have h : (l.drop (k + ((l.drop k).takeWhile p).length)).takeWhile p = [] := by
    rw [← List.drop_drop, ← dropWhile_eq_drop]
    cases hd : (l.drop k).dropWhile p with
    | nil => rfl
    | cons a t =>
      have := List.head_dropWhile_not p (l := l.drop k) (by rw [hd]; simp)
      simp only [hd, List.head_cons] at this
      simp [this]
  rw [h]; rfl
theorem lword_empty {l : List UInt8} {k : Nat} (h : lword l k = []) : lk2 l k = lk1 l k ∧ lk3 l k = lk1 l k := by
  have h1 : lk2 l k = lk1 l k := by unfold lk2 spanEnd; rw [show (l.drop (lk1 l k)).takeWhile byteB = [] from h]; rfl
  exact ⟨h1, by unfold lk3; rw [h1]; exact span_idem _ _ _⟩

theorem listN_fuel : ∀ (f : Nat) {r : List UInt8}, r.length < f → listN f r = listN (r.length + 1) r
  | 0, _, h => absurd h (Nat.not_lt_zero _)
  | f + 1, r, h => by
    have key : ∀ (c : UInt8) (r4 : List UInt8), ((r.dropWhile blankB).dropWhile byteB).dropWhile blankB = c :: r4 → r4.length < r.length := by
      intro c r4 e
      have h1 := ((List.dropWhile_suffix (p := blankB) (l := (r.dropWhile blankB).dropWhile byteB))).length_le
      have h2 := ((List.dropWhile_suffix (p := byteB) (l := r.dropWhile blankB))).length_le
      have h3 := ((List.dropWhile_suffix (p := blankB) (l := r))).length_le
      rw [e] at h1; simp at h1; omega
    rw [listN, listN]
    cases e : ((r.dropWhile blankB).dropWhile byteB).dropWhile blankB with
    | nil => rfl
    | cons c r4 =>
      have hk := key c r4 e
      simp only
      rw [listN_fuel f (show r4.length < f by omega), listN_fuel r.length hk]

/-- the outcome, as Go tells it -/
def ListPost (s : ByteArray) (w : World) (e : Ending) (w' : World) : Prop :=
  ∃ v er, e = .returned (.tuple #[v, er]) ∧ Fr noB w w' ∧
    match listAll s.data.toList with
    | .ok ws => if 40 < ws.length then v = .slice none 0 0 ∧ ErrIs w' er (some (4, none)) else Strs w.heap.size w' v (wordsB ws) ∧ er = .nilIface
    | .error m => v = .slice none 0 0 ∧ ErrIs w' er (some (3, some (s.size - m)))
theorem ListPost.ok {s : ByteArray} {w w' : World} {v : Value} {ws : List (List UInt8)} (h : listAll s.data.toList = .ok ws) (hn : ws.length ≤ 40) (hv : Strs w.heap.size w' v (wordsB ws)) (hf : Fr noB w w') :
    ListPost s w (.returned (.tuple #[v, .nilIface])) w' := ⟨v, _, rfl, hf, by rw [h]; show (if 40 < ws.length then _ else _); rw [if_neg (show ¬ 40 < ws.length by omega)]; exact ⟨hv, rfl⟩⟩
theorem ListPost.long {s : ByteArray} {w w' : World} {ws : List (List UInt8)} (h : listAll s.data.toList = .ok ws) (hn : 40 < ws.length) (hf : Fr noB w w') :
    ListPost s w (.returned (.tuple #[.slice none 0 0, .iface 93 (.int .i64 4)])) w' := ⟨_, _, rfl, hf, by rw [h]; show (if 40 < ws.length then _ else _); rw [if_pos hn]; exact ⟨rfl, rfl⟩⟩
theorem ListPost.bad {s : ByteArray} {w w' : World} {m g : Nat} (h : listAll s.data.toList = .error m) (hg : w'.heap[g]? = some (.cells #[.int .i64 3, .int .i64 (s.size - m : Nat)] 150 (0, 0))) (hf : Fr noB w w') :
    ListPost s w (.returned (.tuple #[.slice none 0 0, .iface 148 (.pointer (some ⟨g, 0, none⟩))])) w' := ⟨_, _, rfl, hf, by rw [h]; exact ⟨rfl, g, rfl, hg⟩⟩

def LRel (s : ByteArray) (w : World) (v : Value) (wr : World) : Prop :=
  ∃ k acc, k ≤ s.size ∧ acc.length ≤ k ∧ CurAt wr w.heap.size s k ∧ Strs (w.heap.size + 1) wr v (wordsB acc) ∧ Fr noB w wr ∧
    listAll s.data.toList = (listN (s.size - k + 1) (s.data.toList.drop k)).map (acc ++ ·)

theorem Fr.newOne {w wr w1 : World} {c : Nat} (h : Fr noB w wr) (g : Fr (one c) wr w1) (hc : w.heap.size ≤ c) : Fr noB w w1 := h.step g (fun k hk e => by have e' : k = c := e; omega)
theorem wordsB_snoc (a : List (List UInt8)) (x : List UInt8) : wordsB (a ++ [x]) = wordsB a ++ [⟨x.toArray⟩] := by simp [wordsB]
theorem wordsB_len (a : List (List UInt8)) : (wordsB a).length = a.length := by simp [wordsB]
theorem lws_one {l : List UInt8} {k : Nat} (h : lword l k ≠ []) : lws l k = [lword l k] := by unfold lws; rw [if_neg (by simpa using h)]
theorem lws_none {l : List UInt8} {k : Nat} (h : lword l k = []) : lws l k = [] := by unfold lws; rw [h]; rfl
theorem err_block {w : World} {o : Obj} {g : Nat} (h : g = w.heap.size) : (w.alloc o).heap[g]? = some o := by rw [h]; exact new_block w o
theorem map_ok {a b : List (List UInt8)} {r : Except Nat (List (List UInt8))} (h : r = .ok b) : r.map (a ++ ·) = .ok (a ++ b) := by rw [h]; rfl
theorem map_error {a : List (List UInt8)} {m : Nat} {r : Except Nat (List (List UInt8))} (h : r = .error m) : r.map (a ++ ·) = .error m := by rw [h]; rfl
theorem map_map {a b : List (List UInt8)} (r : Except Nat (List (List UInt8))) : (r.map (b ++ ·)).map (a ++ ·) = r.map ((a ++ b) ++ ·) := by cases r <;> simp [Except.map]

theorem ownsRow_up {b b' : Nat} {w : World} {v : Value} {ss : List ByteArray} (h : Strs b' w v ss) (hb : b ≤ b') : Strs b w v ss := by
  obtain ⟨h1, h2⟩ := h
  refine ⟨h1, ?_⟩
  rcases h2 with h2 | ⟨g, cap, cur, hv, hg, r⟩
  · exact Or.inl h2
  · exact Or.inr ⟨g, cap, cur, hv, Nat.le_trans hb hg, r⟩

set_option maxRecDepth 100000 in
set_option maxHeartbeats 2000000 in
theorem List_any (s : ByteArray) (w : World) (hs : s.size < 4398046511104) :
    Calls Tryz.prog 44 #[.string s] w (ListPost s w) := by
  have hm : s.size ≤ maxLen := by unfold maxLen; omega
  go_enter Tryz.func44, Tryz.ntmps44
  go_wp2_with (go_at_call 46; refine (On_any _ _).mono ?_; rintro e w1 ⟨rfl, rfl⟩)
  go_loopw [4] (LRel s w) (fun _ wr => s.size - curPos wr w.heap.size)
  case atStart => exact ⟨0, [], Nat.zero_le _, Nat.le_refl _, new_block _ _, Strs.nil _ _, (Fr.refl _ _).alloc _, by rw [List.drop_zero]; cases h : listN (s.size - 0 + 1) s.data.toList <;> simp [listAll, Except.map] <;> simpa using h⟩
  case round =>
    obtain ⟨k, acc, hk, hacc, hc, hown, hfr, hres⟩ := hrel
    have HRES := Lib.hid hres
    clear hres
    have hbase : w.heap.size + 1 ≤ wr.heap.size := hc.lt
    have hmono := lk_mono s.data.toList k
    have hle := lk_le (l := s.data.toList) (k := k) (by simpa using hk)
    have hsz : s.data.toList.length = s.size := by simp
    rw [hsz] at hle
    obtain ⟨m1, m2, m3⟩ := hmono
    obtain ⟨q1, q2, q3⟩ := hle
    have hpos := Lib.hid hc.pos
    obtain ⟨acc2, hacc2⟩ : ∃ x, x = acc ++ lws s.data.toList k := ⟨_, rfl⟩
    have HACC := Lib.hid hacc2
    clear hacc2
    go_wp2_with fail
    refine (Blanks_any _ s k wr hc hm hk).mono ?_
    rintro e w1 ⟨rfl, hc1, hf1⟩
    have HF1 := hfr.newOne hf1 (Nat.le_refl _)
    have hown1 := hown.fr hf1 (fun k hk => by have e : k = w.heap.size := hk; omega)
    have hs1 : w.heap.size + 1 ≤ w1.heap.size := hc1.lt
    go_wp2_with fail
    refine (Word_any _ s _ w1 hc1 hm q1).mono ?_
    rintro e w2 ⟨rfl, hc2, hf2⟩
    have HF2 := HF1.newOne hf2 (Nat.le_refl _)
    have hown2 := hown1.fr hf2 (fun k hk => by have e : k = w.heap.size := hk; omega)
    have hs2 : w.heap.size + 1 ≤ w2.heap.size := hc2.lt
    have hc2' : CurAt w2 w.heap.size s (lk2 s.data.toList k) := hc2
    rw [extract_span]
    have hW : ((s.data.toList.drop (spanEnd blankB s.data.toList k)).takeWhile byteB) = lword s.data.toList k := rfl
    rw [hW]
    clear hW hc2 hc1 hf1 hf2
    generalize hW2 : lword s.data.toList k = W
    have HW := Lib.hid hW2
    clear hW2
    cases W with
    | nil =>
      have hem := Lib.hid (lword_empty HW.out)
      have hc3 : CurAt w2 w.heap.size s (lk3 s.data.toList k) := by have h := hc2'; rw [hem.out.1, ← hem.out.2] at h; exact h
      have hv3 : Strs (w.heap.size + 1) w2 u4 (wordsB acc2) := by rw [HACC.out, lws_none HW.out, List.append_nil]; exact hown2
      clear hc2' hown2 hown1 hown
      have hlen : acc2.length ≤ k + 1 := by have e := HACC.out; rw [lws_none HW.out, List.append_nil] at e; rw [e]; omega
      obtain ⟨av, cv, hv⟩ := hv3.form
      subst hv
      go_wp2_with fail
      by_cases hend : s.size ≤ lk3 s.data.toList k
      · have hfin := Lib.hid (show listAll s.data.toList = .ok acc2 by rw [HRES.out, map_ok (listN_end (by simpa using hend)), HACC.out])
        have hd : decide (s.size ≤ lk3 s.data.toList k) = true := by simpa using hend
        refine (End_any _ s _ w2 hc3).mono ?_
        rintro e w4 ⟨rfl, n4, rfl⟩
        rw [hd]
        by_cases h40 : 40 < (wordsB acc2).length
        · have h40' : ((40 : Int) < ((wordsB acc2).length : Int)) := by omega
          go_wp2
          go_ret2
          exact ListPost.long hfin.out (by rw [wordsB_len] at h40; exact h40) (HF2.drewN _)
        · have h40' : ¬ ((40 : Int) < ((wordsB acc2).length : Int)) := by omega
          go_wp2
          go_ret2
          exact ListPost.ok hfin.out (by rw [wordsB_len] at h40; omega) (ownsRow_up hv3 (Nat.le_succ _)) (HF2.drewN _)
      · have hd : decide (s.size ≤ lk3 s.data.toList k) = false := by simpa using hend
        refine (End_any _ s _ w2 hc3).mono ?_
        rintro e w4 ⟨rfl, n4, rfl⟩
        rw [hd]
        have hc4 : CurAt (w2.drewN n4) w.heap.size s (lk3 s.data.toList k) := hc3
        have hv4 : Strs (w.heap.size + 1) (w2.drewN n4) _ (wordsB acc2) := hv3
        have HF4 := HF2.drewN n4
        go_wp2_with fail
        refine (Mark_any _ s _ 44 _ hc4 hm).mono ?_
        rintro e w5 ⟨rfl, hc5, hf5⟩
        have HF5 := HF4.newOne hf5 (Nat.le_refl _)
        have hv5 := hv4.fr hf5 (fun k hk => by have e : k = w.heap.size := hk; omega)
        have hlt : lk3 s.data.toList k < s.data.toList.length := by simpa using hend
        have hat := Lib.hid (List.getElem?_eq_getElem hlt)
        cases e1 : markB s (lk3 s.data.toList k) 44
        · have hfin := Lib.hid (show listAll s.data.toList = .error (s.data.toList.length - lk3 s.data.toList k) by
            rw [HRES.out, map_error (listN_bad hat.out (by have h := e1; unfold markB at h; rw [hat.out] at h; simpa using h))])
          rw [markTo_no e1] at hc5
          have c1 := hc5.cell1
          have hpl := Lib.hid (show s.size - (s.data.toList.length - lk3 s.data.toList k) = lk3 s.data.toList k by rw [hsz] at hlt ⊢; omega)
          go_wp2
          go_region
          all_goals
            go_wp2
            go_ret2
            exact ListPost.bad hfin.out (by rw [hpl.out]; exact new_block w5 _) ((HF5.alloc _).drew)
        · have hfin := Lib.hid (show listAll s.data.toList = (listN (s.size - (lk3 s.data.toList k + 1) + 1) (s.data.toList.drop (lk3 s.data.toList k + 1))).map (acc2 ++ ·) by
            rw [HRES.out, HACC.out, listN_comma (by have h := e1; unfold markB at h; simpa using h), map_map]
            rw [listN_fuel (f := s.size - k) (by simp; omega), listN_fuel (f := s.size - (lk3 s.data.toList k + 1) + 1) (by simp)])
          rw [markTo_yes e1] at hc5
          go_wp2
          go_roundw
          case rel => exact ⟨_, acc2, by omega, by omega, hc5, hv5, HF5, hfin.out⟩
          case measure => rw [hpos.out, hc5.pos]; omega
    | cons x W' =>
      have hne : lword s.data.toList k ≠ [] := by rw [HW.out]; simp
      have HNE := Lib.hid hne
      clear hne
      have HSN := Lib.hid (show wordsB acc2 = wordsB acc ++ [⟨(x :: W').toArray⟩] by rw [HACC.out, lws_one HNE.out, HW.out, wordsB_snoc])
      have hlen : acc2.length ≤ k + 1 := by have e := HACC.out; rw [lws_one HNE.out] at e; rw [e]; simp; omega
      obtain ⟨av, cv, hv⟩ := hown2.form
      subst hv
      have hlA : acc.length < 4398046511104 := by omega
      have hwl := Lib.hid (wordsB_len acc)
      clear hown1 hown
      go_wp2_with (at_builtin; refine wpList_str rfl _ _ rfl (w.heap.size + 1) (.slice av _ cv) (wordsB acc) rfl (by apply Strs.alloc; exact hown2) ⟨w2.heap.size, 0, none⟩ 1 ⟨(x :: W').toArray⟩ rfl (new_cell _ _ _ _) (by rw [hwl.out]; exact hlA) (by simp; omega) ?_; intro v' w3 hown3 hg3)
      have hc2a : CurAt w3 w.heap.size s (lk2 s.data.toList k) := by
        have h2 : CurAt (w2.alloc (.cells #[.string ⟨(x :: W').toArray⟩] 9)) w.heap.size s (lk2 s.data.toList k) := hc2'.alloc
        unfold CurAt at h2 ⊢
        rw [hg3.block _ (lt_of_some h2) (fun e => by have := hown2.block _ e.symm; omega)]
        exact h2
      have HF3 := (HF2.alloc (.cells #[.string ⟨(x :: W').toArray⟩] 9)).grownNew hg3 (fun k hk => by have := hown2.block k hk; omega)
      rw [← HSN.out] at hown3
      clear hown2 hg3 hc2'
      have hs3 : w.heap.size + 1 ≤ w3.heap.size := hc2a.lt
      go_wp2_with fail
      refine (Blanks_any _ s _ w3 hc2a hm q2).mono ?_
      rintro e w6 ⟨rfl, hc3, hf6⟩
      have hc3 : CurAt w6 w.heap.size s (lk3 s.data.toList k) := hc3
      have HF6 := HF3.newOne hf6 (Nat.le_refl _)
      have hv3 := hown3.fr hf6 (fun k hk => by have e : k = w.heap.size := hk; omega)
      clear hown3 hf6 hc2a
      have hs6 : w.heap.size + 1 ≤ w6.heap.size := hc3.lt
      obtain ⟨av3, cv3, hv⟩ := hv3.form
      subst hv
      go_wp2_with fail
      by_cases hend : s.size ≤ lk3 s.data.toList k
      · have hfin := Lib.hid (show listAll s.data.toList = .ok acc2 by rw [HRES.out, map_ok (listN_end (by simpa using hend)), HACC.out])
        have hd : decide (s.size ≤ lk3 s.data.toList k) = true := by simpa using hend
        refine (End_any _ s _ w6 hc3).mono ?_
        rintro e w4 ⟨rfl, n4, rfl⟩
        rw [hd]
        by_cases h40 : 40 < (wordsB acc2).length
        · have h40' : ((40 : Int) < ((wordsB acc2).length : Int)) := by omega
          go_wp2
          go_ret2
          exact ListPost.long hfin.out (by rw [wordsB_len] at h40; exact h40) (HF6.drewN _)
        · have h40' : ¬ ((40 : Int) < ((wordsB acc2).length : Int)) := by omega
          go_wp2
          go_ret2
          exact ListPost.ok hfin.out (by rw [wordsB_len] at h40; omega) (ownsRow_up hv3 (Nat.le_succ _)) (HF6.drewN _)
      · have hd : decide (s.size ≤ lk3 s.data.toList k) = false := by simpa using hend
        refine (End_any _ s _ w6 hc3).mono ?_
        rintro e w4 ⟨rfl, n4, rfl⟩
        rw [hd]
        have hc4 : CurAt (w6.drewN n4) w.heap.size s (lk3 s.data.toList k) := hc3
        have hv4 : Strs (w.heap.size + 1) (w6.drewN n4) _ (wordsB acc2) := hv3
        have HF4 := HF6.drewN n4
        go_wp2_with fail
        refine (Mark_any _ s _ 44 _ hc4 hm).mono ?_
        rintro e w5 ⟨rfl, hc5, hf5⟩
        have HF5 := HF4.newOne hf5 (Nat.le_refl _)
        have hv5 := hv4.fr hf5 (fun k hk => by have e : k = w.heap.size := hk; omega)
        have hlt : lk3 s.data.toList k < s.data.toList.length := by simpa using hend
        have hat := Lib.hid (List.getElem?_eq_getElem hlt)
        cases e1 : markB s (lk3 s.data.toList k) 44
        · have hfin := Lib.hid (show listAll s.data.toList = .error (s.data.toList.length - lk3 s.data.toList k) by
            rw [HRES.out, map_error (listN_bad hat.out (by have h := e1; unfold markB at h; rw [hat.out] at h; simpa using h))])
          rw [markTo_no e1] at hc5
          have c1 := hc5.cell1
          have hpl := Lib.hid (show s.size - (s.data.toList.length - lk3 s.data.toList k) = lk3 s.data.toList k by rw [hsz] at hlt ⊢; omega)
          go_wp2
          go_region
          all_goals
            go_wp2
            go_ret2
            exact ListPost.bad hfin.out (by rw [hpl.out]; exact new_block w5 _) ((HF5.alloc _).drew)
        · have hfin := Lib.hid (show listAll s.data.toList = (listN (s.size - (lk3 s.data.toList k + 1) + 1) (s.data.toList.drop (lk3 s.data.toList k + 1))).map (acc2 ++ ·) by
            rw [HRES.out, HACC.out, listN_comma (by have h := e1; unfold markB at h; simpa using h), map_map]
            rw [listN_fuel (f := s.size - k) (by simp; omega), listN_fuel (f := s.size - (lk3 s.data.toList k + 1) + 1) (by simp)])
          rw [markTo_yes e1] at hc5
          go_wp2
          go_roundw
          case rel => exact ⟨_, acc2, by omega, by omega, hc5, hv5, HF5, hfin.out⟩
          case measure => rw [hpos.out, hc5.pos]; omega
end Go.Proofs.YtkoobhgedoanhaaGreatDoor

namespace Go.Proofs.YtkoobhgedoanhaaGreatDoor
open Go.RowKit

theorem blank_byte {c : UInt8} (h : blankB c = true) : byteB c = false := by
  unfold blankB at h
  simp only [Bool.or_eq_true, beq_iff_eq] at h
  rcases h with rfl | rfl <;> decide
theorem byte_blank {c : UInt8} (h : byteB c = true) : blankB c = false := by
  cases hb : blankB c
  · rfl
  · rw [blank_byte hb] at h; cases h
theorem isL_parts {w : List UInt8} (h : isL w = true) : w.all byteB = true ∧ ∃ c w', w = c :: w' := by
  unfold isL at h
  simp only [Bool.and_eq_true, Bool.not_eq_true'] at h
  refine ⟨h.1, ?_⟩
  cases w with
  | nil => simp at h
  | cons c w' => exact ⟨c, w', rfl⟩
theorem takeW {w t : List UInt8} (h : w.all byteB = true) (ht : ∀ c, t.head? = some c → byteB c = false) : (w ++ t).takeWhile byteB = w := by
  rw [List.takeWhile_append_of_pos (by simpa [List.all_eq_true] using h)]
  cases t with
  | nil => simp
  | cons c t => rw [List.takeWhile_cons_of_neg (by simp [ht c rfl])]; simp
theorem dropW {w t : List UInt8} (h : w.all byteB = true) (ht : ∀ c, t.head? = some c → byteB c = false) : (w ++ t).dropWhile byteB = t := by
  rw [dropWhile_eq_drop, takeW h ht]; simp

/-- a word ahead -/
theorem listN_word (f : Nat) {w t : List UInt8} (hw : isL w = true) (ht : ∀ c, t.head? = some c → byteB c = false) : listN (f + 1) (w ++ t) =
    match t.dropWhile blankB with
    | [] => .ok [w]
    | c :: r4 => if c == 44 then (listN f r4).map ([w] ++ ·) else .error (r4.length + 1) := by
  obtain ⟨ha, c, w', rfl⟩ := isL_parts hw
  have hc : byteB c = true := by simp only [List.all_cons, Bool.and_eq_true] at ha; exact ha.1
  rw [listN]
  have e1 : ((c :: w') ++ t).dropWhile blankB = (c :: w') ++ t := by
    rw [List.cons_append, List.dropWhile_cons_of_neg (by simp [byte_blank hc])]
  simp only [e1, takeW ha ht, dropW ha ht]
  rfl
/-- blanks ahead are nothing -/
theorem listN_blank (f : Nat) {c : UInt8} {t : List UInt8} (h : blankB c = true) : listN (f + 1) (c :: t) = listN (f + 1) t := by
  rw [listN, listN]
  simp only [List.dropWhile_cons_of_pos h]

/-- what is joined is read -/
theorem listN_join : ∀ (ws : List (List UInt8)) (f : Nat), (∀ w ∈ ws, isL w = true) → ws.length < f → listN f (Lib.join ws [44, 32]) = .ok ws
  | [], 0, _, h => absurd h (Nat.not_lt_zero _)
  | [], f + 1, _, _ => rfl
  | [w], 0, _, h => absurd h (Nat.not_lt_zero _)
  | [w], f + 1, hw, _ => by
    have h := listN_word f (w := w) (t := []) (hw w (by simp)) (by simp)
    rw [List.append_nil] at h
    rw [Lib.join_one, h]; rfl
  | w :: w2 :: r, 0, _, h => absurd h (Nat.not_lt_zero _)
  | w :: w2 :: r, 1, _, h => by simp at h
  | w :: w2 :: r, f + 2, hw, hf => by
    have e : Lib.join (w :: w2 :: r) [44, 32] = w ++ (44 :: 32 :: Lib.join (w2 :: r) [44, 32]) := by
      rw [Lib.join_cons, Lib.join_cons]; simp [Lib.joinTail]
    rw [e, listN_word (f + 1) (hw w (by simp)) (by simp; decide)]
    rw [List.dropWhile_cons_of_neg (by decide)]
    simp only [beq_self_eq_true, if_true]
    rw [listN_blank f (by decide), listN_join (w2 :: r) (f + 1) (fun x hx => hw x (List.mem_cons_of_mem _ hx)) (by simp at hf ⊢; omega)]
    rfl
theorem wjoin_len : ∀ (ws : List (List UInt8)), (∀ w ∈ ws, isL w = true) → ws.length ≤ (Lib.join ws [44, 32]).length
  | [], _ => by simp
  | [w], hw => by
    obtain ⟨_, c, w', rfl⟩ := isL_parts (hw w (by simp))
    rw [Lib.join_one]; simp
  | w :: w2 :: r, hw => by
    have ih := wjoin_len (w2 :: r) (fun x hx => hw x (List.mem_cons_of_mem _ hx))
    have e : Lib.join (w :: w2 :: r) [44, 32] = w ++ (44 :: 32 :: Lib.join (w2 :: r) [44, 32]) := by
      rw [Lib.join_cons, Lib.join_cons]; simp [Lib.joinTail]
    rw [e]; simp at ih ⊢; omega
theorem listAll_join (ws : List (List UInt8)) (h : ∀ w ∈ ws, isL w = true) : listAll (Lib.join ws [44, 32]) = .ok ws :=
  listN_join ws _ h (Nat.lt_succ_of_le (wjoin_len ws h))

/-- each of a list is a word -/
theorem listN_words : ∀ (f : Nat) (r : List UInt8) (ws : List (List UInt8)), listN f r = .ok ws → ∀ w ∈ ws, isL w = true
  | 0, r, ws, h, w, hw => by rw [listN] at h; cases h; cases hw
  | f + 1, r, ws, h, w, hw => by
    rw [listN] at h
    try simp only at h
    have one : ∀ x ∈ (if ((r.dropWhile blankB).takeWhile byteB).isEmpty then [] else [(r.dropWhile blankB).takeWhile byteB]), isL x = true := by
      intro x hx
      by_cases he : ((r.dropWhile blankB).takeWhile byteB).isEmpty = true
      · rw [if_pos he] at hx; cases hx
      · rw [if_neg he] at hx
        simp at hx; subst hx
        unfold isL
        rw [List.all_takeWhile]; simpa using he
    cases e : ((r.dropWhile blankB).dropWhile byteB).dropWhile blankB with
    | nil => rw [e] at h; simp only at h; cases h; exact one w hw
    | cons c r4 =>
      rw [e] at h
      simp only at h
      by_cases hc : (c == 44) = true
      · rw [if_pos hc] at h
        cases hr : listN f r4 with
        | error m => rw [hr] at h; cases h
        | ok ws2 =>
          rw [hr] at h
          simp only [Except.map] at h
          cases h
          rcases List.mem_append.1 hw with g | g
          · exact one w g
          · exact listN_words f r4 ws2 hr w g
      · rw [if_neg hc] at h; cases h

theorem dropWhile_app (p : UInt8 → Bool) (l t : List UInt8) : (l ++ t).dropWhile p = if (l.dropWhile p).isEmpty then t.dropWhile p else l.dropWhile p ++ t := by
  rw [List.dropWhile_append]
theorem takeWhile_app {p : UInt8 → Bool} {l t : List UInt8} (ht : ∀ c, t.head? = some c → p c = false) : (l ++ t).takeWhile p = l.takeWhile p := by
  induction l with
  | nil =>
    cases t with
    | nil => rfl
    | cons c t => rw [List.nil_append, List.takeWhile_cons_of_neg (by simp [ht c rfl])]; rfl
  | cons a l ih => by_cases h : p a <;> simp [h, ih]
theorem dropWhile_stop {p : UInt8 → Bool} {t : List UInt8} (ht : ∀ c, t.head? = some c → p c = false) : t.dropWhile p = t := by
  cases t with
  | nil => rfl
  | cons c t => rw [List.dropWhile_cons_of_neg (by simp [ht c rfl])]
theorem dropWhile_keep {p : UInt8 → Bool} {l t : List UInt8} (ht : ∀ c, t.head? = some c → p c = false) : (l ++ t).dropWhile p = l.dropWhile p ++ t := by
  rw [dropWhile_app]
  split
  · rename_i h
    rw [dropWhile_stop ht, List.isEmpty_iff.1 h]; rfl
  · rfl

/-- the words of a round -/
def oneW (w : List UInt8) : List (List UInt8) := if w.isEmpty then [] else [w]
/-- a list, and a comma behind it (blanks about it), and more -/
theorem listN_then : ∀ (f g : Nat) (a t : List UInt8) (x : List (List UInt8)), a.length < f → a.length + t.length + 3 < g → listN f a = .ok x →
    listN g (a ++ (32 :: 44 :: 9 :: t)) = (listAll t).map (x ++ ·)
  | 0, _, _, _, _, h, _, _ => absurd h (Nat.not_lt_zero _)
  | f + 1, 0, _, _, _, _, h, _ => absurd h (Nat.not_lt_zero _)
  | f + 1, g + 1, a, t, x, hf, hg, h => by
    have hT : ∀ c, (32 :: 44 :: 9 :: t : List UInt8).head? = some c → byteB c = false := by intro c hc; simp at hc; subst hc; decide
    have hT2 : (32 :: 44 :: 9 :: t : List UInt8).dropWhile blankB = 44 :: 9 :: t := by
      rw [List.dropWhile_cons_of_pos (by decide), List.dropWhile_cons_of_neg (by decide)]
    have hT3 : ∀ c, (44 :: 9 :: t : List UInt8).head? = some c → byteB c = false := by intro c hc; simp at hc; subst hc; decide
    have tail : ∀ g', t.length + 1 < g' → listN g' (9 :: t) = listAll t := by
      intro g' hg'
      cases g' with
      | zero => omega
      | succ g' => rw [listN_blank g' (by decide), listN_fuel (g' + 1) (by omega)]; rfl
    rw [listN] at h ⊢
    try simp only at h ⊢
    rw [dropWhile_app blankB a]
    by_cases he : (a.dropWhile blankB).isEmpty = true
    · rw [if_pos he, hT2]
      rw [List.isEmpty_iff.1 he] at h
      have hx : x = [] := by cases h; rfl
      subst hx
      rw [dropWhile_stop hT3, List.takeWhile_cons_of_neg (by decide), List.dropWhile_cons_of_neg (by decide)]
      simp only [beq_self_eq_true, if_true]
      rw [tail g (by omega)]
      simp
    · rw [if_neg he]
      have hlen := (List.dropWhile_suffix (p := blankB) (l := a)).length_le
      generalize a.dropWhile blankB = a1 at h he hlen ⊢
      rw [takeWhile_app hT, dropWhile_keep hT, dropWhile_app blankB (a1.dropWhile byteB)]
      have hlen2 := (List.dropWhile_suffix (p := byteB) (l := a1)).length_le
      have hlen3 := (List.dropWhile_suffix (p := blankB) (l := a1.dropWhile byteB)).length_le
      cases e : (a1.dropWhile byteB).dropWhile blankB with
      | nil =>
        rw [e] at h
        simp only at h
        cases h
        rw [if_pos (show ([] : List UInt8).isEmpty = true from rfl), hT2]
        simp only [beq_self_eq_true, if_true]
        rw [tail g (by omega)]
      | cons c r4 =>
        rw [e] at h hlen3
        simp at hlen3
        simp only at h
        rw [if_neg (by simp)]
        simp only [List.cons_append]
        by_cases hc : (c == 44) = true
        · rw [if_pos hc] at h ⊢
          cases hr : listN f r4 with
          | error m => rw [hr] at h; cases h
          | ok x2 =>
            rw [hr] at h
            simp only [Except.map] at h
            cases h
            rw [listN_then f g r4 t x2 (by omega) (by omega) hr]
            cases listAll t <;> simp [Except.map]
        · rw [if_neg hc] at h; cases h

theorem listAll_then {a t : List UInt8} {x : List (List UInt8)} (h : listAll a = .ok x) : listAll (a ++ (32 :: 44 :: 9 :: t)) = (listAll t).map (x ++ ·) :=
  listN_then _ _ a t x (Nat.lt_succ_self _) (by simp; omega) h
theorem listAll_seps : ∀ (n : Nat) (b : List UInt8), listAll (Lib.repeatL [32, 44, 9] n ++ b) = listAll b
  | 0, b => rfl
  | n + 1, b => by
    have h := listAll_then (a := []) (t := Lib.repeatL [32, 44, 9] n ++ b) (x := []) (by rfl)
    have e : Lib.repeatL [32, 44, 9] (n + 1) ++ b = [] ++ (32 :: 44 :: 9 :: (Lib.repeatL [32, 44, 9] n ++ b)) := by simp [Lib.repeatL]
    rw [e, h, listAll_seps n b]
    cases listAll b <;> simp [Except.map]
/-- two lists, one behind the other -/
theorem listAll_pieces {a b : List UInt8} {x y : List (List UInt8)} (n : Nat) (ha : listAll a = .ok x) (hb : listAll b = .ok y) : listAll (a ++ Lib.repeatL [32, 44, 9] (n + 1) ++ b) = .ok (x ++ y) := by
  have e : a ++ Lib.repeatL [32, 44, 9] (n + 1) ++ b = a ++ (32 :: 44 :: 9 :: (Lib.repeatL [32, 44, 9] n ++ b)) := by simp [Lib.repeatL]
  rw [e, listAll_then ha, listAll_seps, hb]
  rfl
end Go.Proofs.YtkoobhgedoanhaaGreatDoor

namespace Go.Proofs.YtkoobhgedoanhaaGreatDoor
open Go.RowKit

theorem qgo_esc : ∀ (l m : List UInt8), l.all textB = true → qgo (escL l ++ 34 :: m) = some (l, m)
  | [], m, _ => by rw [qgo.eq_def]; simp [escL]
  | c :: l, m, h => by
    simp only [List.all_cons, Bool.and_eq_true] at h
    have ih := qgo_esc l m h.2
    by_cases hc : (c == 34 || c == 92) = true
    · have e : escL (c :: l) ++ 34 :: m = 92 :: c :: (escL l ++ 34 :: m) := by simp only [escL, List.flatMap_cons, hc, if_true]; rfl
      rw [e, qgo.eq_def]
      simp only [show ((92 : UInt8) == 34) = false from rfl, show ((92 : UInt8) == 92) = true from rfl, h.1, ih, Bool.false_eq_true, if_false, if_true]
      rfl
    · have hc' : (c == 34 || c == 92) = false := by simpa using hc
      have e : escL (c :: l) ++ 34 :: m = c :: (escL l ++ 34 :: m) := by simp only [escL, List.flatMap_cons, hc', Bool.false_eq_true, if_false]; rfl
      simp only [Bool.or_eq_false_iff] at hc'
      rw [e, qgo.eq_def]
      simp only [hc'.1, hc'.2, h.1, ih, Bool.false_eq_true, if_false, if_true]
      rfl
theorem quoted_back (l m : List UInt8) (h : textL l = true) : quotedAt (quoteL l ++ m) 0 = some (l, (quoteL l).length) := by
  have e : quoteL l ++ m = 34 :: (escL l ++ 34 :: m) := by simp [quoteL]
  unfold quotedAt
  rw [e, if_pos (show (34 :: (escL l ++ 34 :: m))[0]? = some 34 from rfl), qres, List.drop_succ_cons, List.drop_zero, qgo_esc l m h]
  simp [quoteL]; omega

theorem qgo_len : ∀ (f : Nat) (r a z : List UInt8), r.length ≤ f → qgo r = some (a, z) → a.length + z.length + 1 ≤ r.length
  | 0, r, a, z, hf, h => by
    have : r = [] := List.eq_nil_of_length_eq_zero (by omega)
    subst this; rw [qgo.eq_def] at h; simp at h
  | f + 1, [], a, z, hf, h => by rw [qgo.eq_def] at h; simp at h
  | f + 1, x :: r, a, z, hf, h => by
    rw [qgo.eq_def] at h
    simp only at h
    by_cases h1 : (x == 34) = true
    · rw [if_pos h1] at h; cases h; simp
    · rw [if_neg h1] at h
      by_cases h2 : (x == 92) = true
      · rw [if_pos h2] at h
        cases r with
        | nil => simp at h
        | cons y r' =>
          simp only at h
          by_cases h3 : textB y = true
          · rw [if_pos h3] at h
            cases hq : qgo r' with
            | none => rw [hq] at h; simp at h
            | some p =>
              rw [hq] at h; simp at h
              obtain ⟨rfl, rfl⟩ := h
              have := qgo_len f r' p.1 p.2 (by simp at hf; omega) hq
              simp; omega
          · rw [if_neg h3] at h; simp at h
      · rw [if_neg h2] at h
        by_cases h3 : textB x = true
        · rw [if_pos h3] at h
          cases hq : qgo r with
          | none => rw [hq] at h; simp at h
          | some p =>
            rw [hq] at h; simp at h
            obtain ⟨rfl, rfl⟩ := h
            have := qgo_len f r p.1 p.2 (by simp at hf; omega) hq
            simp; omega
        · rw [if_neg h3] at h; simp at h
theorem quoted_len {l a : List UInt8} {i j : Nat} (h : quotedAt l i = some (a, j)) : i + 1 < j ∧ a.length + i + 2 ≤ j ∧ j ≤ l.length := by
  unfold quotedAt at h
  by_cases hi : l[i]? = some 34
  · rw [if_pos hi] at h
    unfold qres at h
    have hl := (List.getElem?_eq_some_iff.1 hi).1
    cases hq : qgo (l.drop (i + 1)) with
    | none => rw [hq] at h; simp at h
    | some p =>
      rw [hq] at h; simp at h
      have := qgo_len _ _ p.1 p.2 (Nat.le_refl _) hq
      simp at this
      obtain ⟨rfl, rfl⟩ := h
      omega
  · rw [if_neg hi] at h; simp at h
end Go.Proofs.YtkoobhgedoanhaaGreatDoor

namespace Go.Proofs.YtkoobhgedoanhaaGreatDoor
open Go.RowKit

/-- Go: the place, held within the text. -/
def goTo (k : Int) (n : Nat) : Nat := (max 0 (min k n)).toNat
set_option maxHeartbeats 400000 in
theorem Go_any (b : Nat) (s : ByteArray) (i : Nat) (k : Int) (w : World) (h : CurAt w b s i) (hs : s.size ≤ maxLen) :
    Calls Tryz.prog 155 #[.pointer (some ⟨b, 0, none⟩), .int .i64 k] w fun e w' => e = .returned (.tuple #[]) ∧ CurAt w' b s (goTo k s.size) ∧ Fr (one b) w w' := by
  have h0 := h.cell0
  have h1 := h.cell1
  have hf := h.free 1
  unfold maxLen at hs
  go_enter Tryz.func155, Tryz.ntmps155
  go_wp2
  go_end0
  rw [show max 0 (min k (s.size : Int)) = ((goTo k s.size : Nat) : Int) from by unfold goTo; omega]
  exact ⟨rfl, h.setCell, Fr.one_set w b _ 0⟩

/-- token.Value: a word as it is, else between marks -/
def valueOk (l : List UInt8) : Bool := isL l || textL l
def valueL (l : List UInt8) : List UInt8 := if isL l then l else quoteL l
end Go.Proofs.YtkoobhgedoanhaaGreatDoor

namespace Go.Proofs.YtkoobhgedoanhaaGreatDoor
open Go.RowKit

abbrev Bs := List UInt8
/-- a parameter: its name and its value -/
abbrev Par := Bs × Bs
structure Cha where
  scheme : Bs
  token : Bs
  params : List Par

def gapB (c : UInt8) : Bool := blankB c || c == 44
def tokSet : List UInt8 := [97, 98, 99, 100, 101, 102, 103, 104, 105, 106, 107, 108, 109, 110, 111, 112, 113, 114, 115, 116, 117, 118, 119, 120, 121, 122, 65, 66, 67, 68, 69, 70, 71, 72, 73, 74, 75, 76, 77, 78, 79, 80, 81, 82, 83, 84, 85, 86, 87, 88, 89, 90, 48, 49, 50, 51, 52, 53, 54, 55, 56, 57, 45, 46, 95, 126, 43, 47]
def tokB (c : UInt8) : Bool := tokSet.contains c
def eqB (c : UInt8) : Bool := [61].contains c

/-- ahead of a comma, or at the end -/
def stopB : Bs → Bool
  | [] => true
  | c :: _ => c == 44
def blanksR (r : Bs) : Bs := r.dropWhile blankB
def gapsR (r : Bs) : Bs := r.dropWhile gapB
def overB (r : Bs) : Bool := stopB (blanksR r)
def wordR (r : Bs) : Bs := r.takeWhile byteB
def afterW (r : Bs) : Bs := r.dropWhile byteB
def hdB (b : UInt8) : Bs → Bool
  | [] => false
  | c :: _ => c == b
def namedB (r : Bs) : Bool := !(wordR r).isEmpty && hdB 61 (blanksR (afterW r))
def singleN (r : Bs) : Bs := r.takeWhile tokB
def singleM (r : Bs) : Bs := (r.dropWhile tokB).takeWhile eqB
def singleZ (r : Bs) : Bs := (r.dropWhile tokB).dropWhile eqB
def singleR (r : Bs) : Option (Bs × Bs) := if !(singleN r).isEmpty && overB (singleZ r) then some (singleN r ++ singleM r, blanksR (singleZ r)) else none
def quoteR : Bs → Option (Bs × Bs)
  | [] => none
  | c :: t => if c == 34 then qgo t else none
def valueR (r : Bs) : Option (Bs × Bs) := if (wordR r).isEmpty then quoteR r else some (wordR r, afterW r)
/-- where a parameter's value begins -/
def valueAt (r : Bs) : Bs := blanksR ((blanksR (afterW r)).drop 1)
def twiceB (ps : List Par) (n : Bs) : Bool := ps.any fun q => sameL q.1 n
def paramR (ps : List Par) (r : Bs) : Except Nat (Par × Bs) :=
  if !namedB r then .error 3 else
  match valueR (valueAt r) with
  | none => .error 3
  | some q => if twiceB ps (wordR r) then .error 9 else if ps.length = 16 then .error 4 else .ok ((wordR r, q.1), q.2)
def paramsN : Nat → List Par → Bs → Except Nat (List Par × Bs)
  | 0, ps, r => .ok (ps, r)
  | f + 1, ps, r =>
    match paramR ps r with
    | .error e => .error e
    | .ok (p, r1) => if overB r1 then (if namedB (gapsR r1) then paramsN f (ps ++ [p]) (gapsR r1) else .ok (ps ++ [p], gapsR r1)) else .error 3
def blankHead : Bs → Bool
  | [] => false
  | c :: _ => blankB c
def oneR (k : Nat) (r : Bs) : Except Nat (Cha × Bs) :=
  if (wordR r).isEmpty then .error 3
  else if k = 8 then .error 4
  else if overB (afterW r) then .ok (⟨wordR r, [], []⟩, blanksR (afterW r))
  else if !blankHead (afterW r) then .error 3
  else match singleR (blanksR (afterW r)) with
    | some q => .ok (⟨wordR r, q.1, []⟩, q.2)
    | none => match paramsN ((blanksR (afterW r)).length + 1) [] (blanksR (afterW r)) with
      | .error e => .error e
      | .ok q => .ok (⟨wordR r, [], q.1⟩, q.2)
def parseN : Nat → List Cha → Bs → Except Nat (List Cha)
  | 0, acc, _ => .ok acc
  | f + 1, acc, r =>
    if (gapsR r).isEmpty then .ok acc else
    match oneR acc.length (gapsR r) with
    | .error e => .error e
    | .ok (x, r1) => parseN f (acc ++ [x]) r1
def chasL (l : Bs) : Except Nat (List Cha) := if 3000 < l.length then .error 4 else parseN (l.length + 1) [] l

/-! how much is left -/
theorem dropW_le (p : UInt8 → Bool) (r : Bs) : (r.dropWhile p).length ≤ r.length := (List.dropWhile_suffix p).length_le
theorem blanksR_le (r : Bs) : (blanksR r).length ≤ r.length := dropW_le _ r
theorem gapsR_le (r : Bs) : (gapsR r).length ≤ r.length := dropW_le _ r
theorem afterW_le (r : Bs) : (afterW r).length ≤ r.length := dropW_le _ r
theorem split_len (p : UInt8 → Bool) (r : Bs) : (r.takeWhile p).length + (r.dropWhile p).length = r.length := by
  rw [← List.length_append, List.takeWhile_append_dropWhile]
theorem wordR_len (r : Bs) : (wordR r).length + (afterW r).length = r.length := split_len _ r
theorem afterW_lt {r : Bs} (h : (wordR r).isEmpty = false) : (afterW r).length < r.length := by
  have h1 := wordR_len r
  cases e : wordR r with
  | nil => rw [e] at h; cases h
  | cons c t => rw [e] at h1; simp at h1; omega
theorem qgo_le {r a z : Bs} (h : qgo r = some (a, z)) : a.length + z.length + 1 ≤ r.length := qgo_len _ r a z (Nat.le_refl _) h
theorem quoteR_le {r a z : Bs} (h : quoteR r = some (a, z)) : a.length + z.length + 2 ≤ r.length := by
  cases r with
  | nil => cases h
  | cons c t =>
    have h' : (if c == 34 then qgo t else none) = some (a, z) := h
    by_cases hc : (c == 34) = true
    · rw [if_pos hc] at h'; have := qgo_le h'; simp; omega
    · rw [if_neg hc] at h'; cases h'
theorem valueR_le {r a z : Bs} (h : valueR r = some (a, z)) : a.length + z.length ≤ r.length := by
  unfold valueR at h
  split at h
  · have := quoteR_le h; omega
  · cases h; have := wordR_len r; omega
theorem valueAt_le (r : Bs) : (valueAt r).length ≤ (afterW r).length := by
  unfold valueAt
  have h1 := blanksR_le ((blanksR (afterW r)).drop 1)
  have h2 := blanksR_le (afterW r)
  have h3 : ((blanksR (afterW r)).drop 1).length ≤ (blanksR (afterW r)).length := by simp
  omega
theorem namedB_word {r : Bs} (h : namedB r = true) : (wordR r).isEmpty = false := by
  unfold namedB at h; simp only [Bool.and_eq_true, Bool.not_eq_true'] at h; exact h.1
theorem namedB_valueAt {r : Bs} (h : namedB r = true) : (valueAt r).length + 2 ≤ r.length := by
  have hw := afterW_lt (namedB_word h)
  unfold namedB at h
  simp only [Bool.and_eq_true] at h
  have h2 := h.2
  unfold valueAt
  have h3 := blanksR_le (afterW r)
  cases e : blanksR (afterW r) with
  | nil => rw [e] at h2; cases h2
  | cons c t =>
    rw [e] at h3
    have h4 := blanksR_le ((c :: t).drop 1)
    simp at h3 h4 ⊢; omega
theorem paramR_le {ps : List Par} {r : Bs} {p : Par} {z : Bs} (h : paramR ps r = .ok (p, z)) : p.1.length + p.2.length + z.length < r.length := by
  unfold paramR at h
  by_cases hn : namedB r = true
  · rw [if_neg (by simp [hn])] at h
    have h1 := namedB_valueAt hn
    have h0 := valueAt_le r
    have hw := wordR_len r
    cases hv : valueR (valueAt r) with
    | none => rw [hv] at h; cases h
    | some q =>
      rw [hv] at h
      simp only at h
      split at h
      · cases h
      · split at h
        · cases h
        · cases h
          have := valueR_le (a := q.1) (z := q.2) hv
          unfold namedB at hn
          simp only [Bool.and_eq_true] at hn
          have h2 := hn.2
          have h5 : (valueAt r).length + 1 ≤ (afterW r).length := by
            unfold valueAt
            have h3 := blanksR_le (afterW r)
            cases e : blanksR (afterW r) with
            | nil => rw [e] at h2; cases h2
            | cons c t =>
              rw [e] at h3
              have h4 := blanksR_le ((c :: t).drop 1)
              simp at h3 h4 ⊢; omega
          simp only; omega
  · rw [if_pos (by simpa using hn)] at h; cases h

/-- enough rounds are enough -/
theorem paramsN_fuel : ∀ (f : Nat) (ps : List Par) (r : Bs), r.length < f → paramsN f ps r = paramsN (r.length + 1) ps r
  | 0, _, _, h => absurd h (Nat.not_lt_zero _)
  | f + 1, ps, r, h => by
    rw [paramsN, paramsN]
    cases hp : paramR ps r with
    | error e => rfl
    | ok q =>
      obtain ⟨p, r1⟩ := q
      have hl := paramR_le hp
      have hg := gapsR_le r1
      simp only
      split
      · split
        · rw [paramsN_fuel f _ _ (by omega), paramsN_fuel r.length _ _ (by omega)]
        · rfl
      · rfl
theorem blanksR_lt {r : Bs} (h : blankHead r = true) : (blanksR r).length < r.length := by
  cases r with
  | nil => cases h
  | cons c t =>
    have : blanksR (c :: t) = blanksR t := by unfold blanksR; rw [List.dropWhile_cons_of_pos (show blankB c = true from h)]
    rw [this]
    have := blanksR_le t
    simp; omega
theorem paramsN_le : ∀ (f : Nat) (ps : List Par) (r : Bs) (q : List Par × Bs), paramsN f ps r = .ok q → q.2.length ≤ r.length
  | 0, ps, r, q, h => by rw [paramsN] at h; cases h; exact Nat.le_refl _
  | f + 1, ps, r, q, h => by
    rw [paramsN] at h
    cases hp : paramR ps r with
    | error e => rw [hp] at h; cases h
    | ok p =>
      rw [hp] at h
      obtain ⟨p, r1⟩ := p
      have hl := paramR_le hp
      have hg := gapsR_le r1
      simp only at h
      split at h
      · split at h
        · have := paramsN_le f _ _ q h; omega
        · cases h; simp only; omega
      · cases h
theorem singleR_le {r t z : Bs} (h : singleR r = some (t, z)) : t.length + z.length ≤ r.length := by
  unfold singleR at h
  split at h
  · cases h
    have h1 := split_len tokB r
    have h2 := split_len eqB (r.dropWhile tokB)
    have h3 := blanksR_le (singleZ r)
    unfold singleZ at h3 ⊢
    unfold singleN singleM
    rw [List.length_append]; omega
  · cases h
theorem oneR_le {k : Nat} {r : Bs} {x : Cha} {z : Bs} (h : oneR k r = .ok (x, z)) : z.length < r.length := by
  unfold oneR at h
  split at h
  · cases h
  rename_i hw
  have hw' : (wordR r).isEmpty = false := by simpa using hw
  have h1 := afterW_lt hw'
  have h2 := blanksR_le (afterW r)
  split at h
  · cases h
  split at h
  · cases h; omega
  split at h
  · cases h
  split at h
  · rename_i q hq
    cases h
    have := singleR_le (t := q.1) (z := q.2) hq
    omega
  · split at h
    · cases h
    · rename_i q hq
      cases h
      have := paramsN_le _ _ _ _ hq
      omega
theorem parseN_fuel : ∀ (f : Nat) (acc : List Cha) (r : Bs), r.length < f → parseN f acc r = parseN (r.length + 1) acc r
  | 0, _, _, h => absurd h (Nat.not_lt_zero _)
  | f + 1, acc, r, h => by
    rw [parseN, parseN]
    split
    · rfl
    · cases ho : oneR acc.length (gapsR r) with
      | error e => rfl
      | ok q =>
        obtain ⟨x, r1⟩ := q
        have h1 := oneR_le ho
        have h2 := gapsR_le r
        simp only
        rw [parseN_fuel f _ _ (by omega), parseN_fuel r.length _ _ (by omega)]
theorem dropAll {p : UInt8 → Bool} : ∀ {l : Bs}, l.all p = true → l.dropWhile p = []
  | [], _ => rfl
  | c :: l, h => by
    simp only [List.all_cons, Bool.and_eq_true] at h
    rw [List.dropWhile_cons_of_pos h.1]; exact dropAll h.2
/-- gaps ahead are nothing -/
theorem gapsR_app {g r : Bs} (h : g.all gapB = true) : gapsR (g ++ r) = gapsR r := by
  unfold gapsR
  rw [dropWhile_app]
  rw [dropAll h]; rfl
theorem gapsR_gapsR (r : Bs) : gapsR (gapsR r) = gapsR r := by
  refine dropWhile_stop (fun c hc => ?_)
  have := List.head?_dropWhile_not gapB r
  unfold gapsR at hc
  rw [hc] at this
  simpa using this
theorem blanksR_blanksR (r : Bs) : blanksR (blanksR r) = blanksR r := by
  refine dropWhile_stop (fun c hc => ?_)
  have := List.head?_dropWhile_not blankB r
  unfold blanksR at hc
  rw [hc] at this
  simpa using this
theorem overB_blanks (r : Bs) : overB (blanksR r) = overB r := by unfold overB; rw [blanksR_blanksR]
theorem gapsR_blanks : ∀ r : Bs, gapsR (blanksR r) = gapsR r
  | [] => rfl
  | c :: t => by
    cases h : blankB c
    · have : blanksR (c :: t) = c :: t := by unfold blanksR; rw [List.dropWhile_cons_of_neg (by simp [h])]
      rw [this]
    · have e1 : blanksR (c :: t) = blanksR t := by unfold blanksR; rw [List.dropWhile_cons_of_pos h]
      have e2 : gapsR (c :: t) = gapsR t := by unfold gapsR; rw [List.dropWhile_cons_of_pos (by simp [gapB, h])]
      rw [e1, e2, gapsR_blanks t]
theorem parseN_gaps (f : Nat) (acc : List Cha) {r r' : Bs} (h : gapsR r = gapsR r') : parseN (f + 1) acc r = parseN (f + 1) acc r' := by
  rw [parseN, parseN, h]
theorem chasL_ahead {g r : Bs} (h : g.all gapB = true) (hl : g.length + r.length ≤ 3000) : chasL (g ++ r) = chasL r := by
  unfold chasL
  rw [if_neg (by simp; omega), if_neg (by omega), parseN_gaps _ _ (gapsR_app h)]
  exact parseN_fuel _ _ _ (by simp; omega)
end Go.Proofs.YtkoobhgedoanhaaGreatDoor

namespace Go.Proofs.YtkoobhgedoanhaaGreatDoor
open Go.RowKit

abbrev Texts := List ByteArray
/-- a slice of strings among the arguments -/
abbrev StrsArg (w : World) (v : Value) (ss : List ByteArray) : Prop := StrsAt w v ss
/-- an origin, as its fields -/
structure Ori where
  secure : Bool
  host : ByteArray
  port : Int
def Ori.cells (o : Ori) : List Value := [.bool o.secure, .string o.host, .int .i64 o.port]
/-- an ask; D: what its domain is (the cell's value, or the texts) -/
structure AskOf (D : Type) where
  scheme : Int
  realm : ByteArray
  nonce : ByteArray
  opaq : ByteArray
  sess : Bool
  qop : ByteArray
  stale : Bool
  dom : D
def AskOf.cells (a : AskOf Value) : List Value := [.int .i64 a.scheme, .string a.realm, .string a.nonce, .string a.opaq, .bool a.sess, .string a.qop, .bool a.stale, a.dom]
/-- a grant; D: what its domain and its paths are -/
structure GrantOf (D : Type) where
  o : Ori
  proxy : Bool
  user : ByteArray
  pass : ByteArray
  a : AskOf D
  count : Int
  paths : D
def GrantOf.cells (g : GrantOf Value) : List Value :=
  [.bool g.o.secure, .string g.o.host, .int .i64 g.o.port, .bool g.proxy, .string g.user, .string g.pass,
   .int .i64 g.a.scheme, .string g.a.realm, .string g.a.nonce, .string g.a.opaq, .bool g.a.sess, .string g.a.qop, .bool g.a.stale, g.a.dom, .int .i64 g.count, g.paths]
/-- the raw ask reads as the other one -/
def AskOf.Reads (R : Value → List ByteArray → Prop) (r : AskOf Value) (a : AskOf (List ByteArray)) : Prop :=
  r.scheme = a.scheme ∧ r.realm = a.realm ∧ r.nonce = a.nonce ∧ r.opaq = a.opaq ∧ r.sess = a.sess ∧ r.qop = a.qop ∧ r.stale = a.stale ∧ R r.dom a.dom
def GrantOf.Reads (R : Value → List ByteArray → Prop) (r : GrantOf Value) (g : GrantOf (List ByteArray)) : Prop :=
  r.o = g.o ∧ r.proxy = g.proxy ∧ r.user = g.user ∧ r.pass = g.pass ∧ r.a.Reads R g.a ∧ r.count = g.count ∧ R r.paths g.paths
theorem AskOf.Reads.mono {R S : Value → List ByteArray → Prop} {r : AskOf Value} {a : AskOf (List ByteArray)} (h : r.Reads R a) (hs : ∀ v l, R v l → S v l) : r.Reads S a :=
  ⟨h.1, h.2.1, h.2.2.1, h.2.2.2.1, h.2.2.2.2.1, h.2.2.2.2.2.1, h.2.2.2.2.2.2.1, hs _ _ h.2.2.2.2.2.2.2⟩
theorem GrantOf.Reads.mono {R S : Value → List ByteArray → Prop} {r : GrantOf Value} {g : GrantOf (List ByteArray)} (h : r.Reads R g) (hs : ∀ v l, R v l → S v l) : r.Reads S g :=
  ⟨h.1, h.2.1, h.2.2.1, h.2.2.2.1, h.2.2.2.2.1.mono hs, h.2.2.2.2.2.1, hs _ _ h.2.2.2.2.2.2⟩

/-- Go's == of two origins -/
def Ori.eqB (a b : Ori) : Bool := a.secure == b.secure && (a.host.toList == b.host.toList && a.port == b.port)
theorem toList_inj {a b : ByteArray} : a.toList = b.toList ↔ a = b := by
  constructor
  · intro h
    rw [Go.ByteArray.toList_eq, Go.ByteArray.toList_eq] at h
    exact Go.WideShapes.bytes_inj h
  · intro h; rw [h]
theorem Ori.eqB_iff (a b : Ori) : a.eqB b = true ↔ a = b := by
  obtain ⟨s, h, p⟩ := a
  obtain ⟨s', h', p'⟩ := b
  simp only [Ori.eqB, Bool.and_eq_true, beq_iff_eq, Ori.mk.injEq, toList_inj]
theorem run_eql_ori (a b : Ori) (w : World) : (binOp .eql 49 (.agg #[.bool a.secure, .string a.host, .int .i64 a.port]) (.agg #[.bool b.secure, .string b.host, .int .i64 b.port])).run Tryz.prog w = .ok (.bool (a.eqB b)) w := by
  go_simp
  by_cases h1 : a.secure = b.secure <;> by_cases h2 : a.host.toList = b.host.toList <;> by_cases h3 : a.port = b.port <;> simp [Ori.eqB, h1, h2, h3]
theorem run_neq_ori (a b : Ori) (w : World) : (binOp .neq 49 (.agg #[.bool a.secure, .string a.host, .int .i64 a.port]) (.agg #[.bool b.secure, .string b.host, .int .i64 b.port])).run Tryz.prog w = .ok (.bool (!a.eqB b)) w := by
  go_simp
  by_cases h1 : a.secure = b.secure <;> by_cases h2 : a.host.toList = b.host.toList <;> by_cases h3 : a.port = b.port <;> simp [Ori.eqB, h1, h2, h3]
/-- a row's cells by their place -/
def cB (x : List Value) (i : Nat) : Bool := match x[i]? with | some (.bool b) => b | _ => false
def cS (x : List Value) (i : Nat) : ByteArray := match x[i]? with | some (.string s) => s | _ => ByteArray.empty
def cI (x : List Value) (i : Nat) : Int := match x[i]? with | some (.int _ n) => n | _ => 0
def oriC (x : List Value) : Ori := ⟨cB x 0, cS x 1, cI x 2⟩
end Go.Proofs.YtkoobhgedoanhaaGreatDoor

namespace Go.Proofs.YtkoobhgedoanhaaGreatDoor

/-- the parts of l between the bytes c -/
def splitL (c : UInt8) : List UInt8 → List (List UInt8)
  | [] => [[]]
  | x :: l => if x = c then [] :: splitL c l else match splitL c l with
    | [] => [[x]]
    | p :: ps => (x :: p) :: ps
/-- joined by one byte -/
def joinL (c : UInt8) : List (List UInt8) → List UInt8
  | [] => []
  | [p] => p
  | p :: q :: ps => p ++ c :: joinL c (q :: ps)
theorem splitL_ne (c : UInt8) : ∀ l, splitL c l ≠ []
  | [] => by simp [splitL]
  | x :: l => by
    unfold splitL
    split
    · simp
    · split <;> simp
theorem splitL_free (c : UInt8) : ∀ l, ∀ p ∈ splitL c l, c ∉ p
  | [], p, h => by simp [splitL] at h; subst h; simp
  | x :: l, p, h => by
    have ih := splitL_free c l
    unfold splitL at h
    split at h
    · rcases List.mem_cons.1 h with rfl | h
      · simp
      · exact ih p h
    · rename_i hx
      split at h
      · rename_i e; exact absurd e (splitL_ne c l)
      · rename_i q qs e
        rw [e] at ih
        rcases List.mem_cons.1 h with rfl | h
        · intro hc
          rcases List.mem_cons.1 hc with rfl | hc
          · exact hx rfl
          · exact ih q (List.mem_cons_self ..) hc
        · exact ih p (List.mem_cons_of_mem _ h)
theorem splitL_hit (c : UInt8) (l : List UInt8) : splitL c (c :: l) = [] :: splitL c l := by rw [splitL, if_pos rfl]
theorem splitL_step {c x : UInt8} {l p : List UInt8} {ps : List (List UInt8)} (hx : ¬ x = c) (h : splitL c l = p :: ps) : splitL c (x :: l) = (x :: p) :: ps := by rw [splitL, if_neg hx, h]
/-- a part ahead of the first c -/
theorem splitL_app (c : UInt8) : ∀ (p l : List UInt8), c ∉ p → splitL c (p ++ c :: l) = p :: splitL c l
  | [], l, _ => splitL_hit c l
  | x :: p, l, h => by
    have hx : ¬ x = c := fun e => h (by rw [e]; exact List.mem_cons_self ..)
    exact splitL_step hx (splitL_app c p l (fun e => h (List.mem_cons_of_mem _ e)))
theorem splitL_one (c : UInt8) : ∀ p : List UInt8, c ∉ p → splitL c p = [p]
  | [], _ => rfl
  | x :: p, h => by
    have hx : ¬ x = c := fun e => h (by rw [e]; exact List.mem_cons_self ..)
    exact splitL_step hx (splitL_one c p (fun e => h (List.mem_cons_of_mem _ e)))
theorem split_join (c : UInt8) : ∀ ps : List (List UInt8), ps ≠ [] → (∀ p ∈ ps, c ∉ p) → splitL c (joinL c ps) = ps
  | [], h, _ => absurd rfl h
  | [p], _, h => by rw [joinL]; exact splitL_one c p (h p (List.mem_cons_self ..))
  | p :: q :: ps, _, h => by
    rw [joinL, splitL_app c p _ (h p (List.mem_cons_self ..)), split_join c (q :: ps) (by simp) (fun r hr => h r (List.mem_cons_of_mem _ hr))]
theorem join_split (c : UInt8) : ∀ l : List UInt8, joinL c (splitL c l) = l
  | [] => rfl
  | x :: l => by
    have ih := join_split c l
    have hne := splitL_ne c l
    unfold splitL
    split
    · rename_i hx
      subst hx
      cases e : splitL x l with
      | nil => exact absurd e hne
      | cons p ps => rw [joinL, ← e, ih]; rfl
    · cases e : splitL c l with
      | nil => exact absurd e hne
      | cons p ps =>
        rw [e] at ih
        show joinL c ((x :: p) :: ps) = x :: l
        cases ps with
        | nil => rw [joinL] at ih ⊢; rw [ih]
        | cons q qs => rw [joinL] at ih ⊢; rw [List.cons_append, ih]

/-! ### Clean -/
def dotP : List UInt8 := [46]
def dotsP : List UInt8 := [46, 46]
def popP (l : List (List UInt8)) : List (List UInt8) := if 1 < l.length then l.dropLast else l
/-- one part -/
def cleanStep (l : List (List UInt8)) (p : List UInt8) (last : Bool) : List (List UInt8) :=
  if p = dotsP then (if last then popP l ++ [[]] else popP l)
  else if p = dotP then (if last then l ++ [[]] else l)
  else l ++ [p]
def cleanGo : List (List UInt8) → List (List UInt8) → List (List UInt8)
  | l, [] => l
  | l, p :: ps => cleanGo (cleanStep l p ps.isEmpty) ps
def rootL (s : List UInt8) : List UInt8 := if s.head? = some 47 then s else 47 :: s
def cleanParts (s : List UInt8) : List (List UInt8) := cleanGo [] (splitL 47 (rootL s))
def cleanL (s : List UInt8) : List UInt8 := joinL 47 (cleanParts s)

def okP (p : List UInt8) : Prop := p ≠ dotsP ∧ p ≠ dotP ∧ (47 : UInt8) ∉ p
theorem okP_nil : okP [] := ⟨by decide, by decide, by simp⟩
/-- what is held while parts go by: nothing, or the empty first one and parts that are no points -/
def heldP (l : List (List UInt8)) : Prop := ∃ r, l = [] :: r ∧ ∀ p ∈ r, okP p
theorem heldP_pop {l : List (List UInt8)} (h : heldP l) : heldP (popP l) := by
  obtain ⟨r, rfl, hr⟩ := h
  unfold popP
  split
  · cases r with
    | nil => rename_i h1; simp at h1
    | cons a r =>
      refine ⟨(a :: r).dropLast, ?_, fun p hp => hr p (List.dropLast_subset _ hp)⟩
      rw [List.dropLast_cons_of_ne_nil (by simp)]
  · exact ⟨r, rfl, hr⟩
theorem heldP_push {l : List (List UInt8)} (h : heldP l) {p : List UInt8} (hp : okP p) : heldP (l ++ [p]) := by
  obtain ⟨r, rfl, hr⟩ := h
  refine ⟨r ++ [p], rfl, fun q hq => ?_⟩
  rcases List.mem_append.1 hq with hq | hq
  · exact hr q hq
  · rw [List.mem_singleton] at hq; subst hq; exact hp
theorem heldP_step {l : List (List UInt8)} (h : heldP l) (p : List UInt8) (hp : (47 : UInt8) ∉ p) (last : Bool) : heldP (cleanStep l p last) := by
  unfold cleanStep
  split
  · split
    · exact heldP_push (heldP_pop h) okP_nil
    · exact heldP_pop h
  · rename_i h1
    split
    · split
      · exact heldP_push h okP_nil
      · exact h
    · rename_i h2
      exact heldP_push h ⟨h1, h2, hp⟩
theorem popP_ne {l : List (List UInt8)} (h : heldP l) : 1 ≤ (popP l).length := by
  obtain ⟨r, e, _⟩ := heldP_pop h; rw [e]; simp
theorem heldP_last {l : List (List UInt8)} (h : heldP l) (p : List UInt8) : 2 ≤ (cleanStep l p true).length := by
  have h1 := popP_ne h
  have h2 : 1 ≤ l.length := by obtain ⟨r, e, _⟩ := h; rw [e]; simp
  unfold cleanStep
  split
  · simp; omega
  · split
    · simp; omega
    · simp; omega
theorem heldP_go : ∀ (ps l : List (List UInt8)), heldP l → (∀ p ∈ ps, (47 : UInt8) ∉ p) → ps ≠ [] → heldP (cleanGo l ps) ∧ 2 ≤ (cleanGo l ps).length
  | [], _, _, _, h => absurd rfl h
  | [p], l, h, hp, _ => ⟨heldP_step h p (hp p (List.mem_cons_self ..)) _, heldP_last h p⟩
  | p :: q :: ps, l, h, hp, _ => by
    show heldP (cleanGo (cleanStep l p _) (q :: ps)) ∧ _
    exact heldP_go (q :: ps) _ (heldP_step h p (hp p (List.mem_cons_self ..)) _) (fun r hr => hp r (List.mem_cons_of_mem _ hr)) (by simp)
theorem root_split (s : List UInt8) : ∃ t, rootL s = 47 :: t := by
  unfold rootL
  split
  · rename_i h
    cases s with
    | nil => cases h
    | cons a t => simp at h; exact ⟨t, by rw [h]⟩
  · exact ⟨s, rfl⟩
theorem clean_held (s : List UInt8) : ∃ a r, cleanParts s = [] :: a :: r ∧ (∀ p ∈ a :: r, okP p) := by
  obtain ⟨t, ht⟩ := root_split s
  have hg := heldP_go (splitL 47 t) [[]] ⟨[], rfl, fun _ h => by cases h⟩ (splitL_free 47 t) (splitL_ne 47 t)
  have e : cleanParts s = cleanGo [[]] (splitL 47 t) := by
    unfold cleanParts
    rw [ht]
    show cleanGo [] ([] :: splitL 47 t) = _
    show cleanGo (cleanStep [] [] _) (splitL 47 t) = _
    rfl
  rw [← e] at hg
  obtain ⟨⟨r, h1, h2⟩, h3⟩ := hg
  rw [h1] at h3
  cases r with
  | nil => simp at h3
  | cons a r => exact ⟨a, r, h1, h2⟩
/-- what holds no points stays -/
theorem clean_stays : ∀ (ps l : List (List UInt8)), (∀ p ∈ ps, okP p) → cleanGo l ps = l ++ ps
  | [], l, _ => by simp [cleanGo]
  | p :: ps, l, h => by
    have hp := h p (List.mem_cons_self ..)
    show cleanGo (cleanStep l p ps.isEmpty) ps = _
    have e : cleanStep l p ps.isEmpty = l ++ [p] := by unfold cleanStep; rw [if_neg hp.1, if_neg hp.2.1]
    rw [e, clean_stays ps _ (fun q hq => h q (List.mem_cons_of_mem _ hq))]
    simp
theorem clean_split (s : List UInt8) : splitL 47 (cleanL s) = cleanParts s := by
  obtain ⟨a, r, h, ho⟩ := clean_held s
  unfold cleanL
  refine split_join 47 _ (by rw [h]; simp) ?_
  rw [h]
  intro p hp
  rcases List.mem_cons.1 hp with rfl | hp
  · simp
  · exact (ho p hp).2.2
theorem clean_head (s : List UInt8) : (cleanL s).head? = some 47 := by
  obtain ⟨a, r, h, _⟩ := clean_held s
  unfold cleanL
  rw [h]
  rfl
theorem clean_twice (s : List UInt8) : cleanL (cleanL s) = cleanL s := by
  have hs := clean_split s
  obtain ⟨a, r, h, ho⟩ := clean_held s
  have e : cleanParts (cleanL s) = cleanParts s := by
    unfold cleanParts
    rw [show rootL (cleanL s) = cleanL s from if_pos (clean_head s), hs]
    show cleanGo [] (cleanParts s) = cleanParts s
    rw [clean_stays (cleanParts s) [] ?_]
    · rfl
    · rw [h]
      intro p hp
      rcases List.mem_cons.1 hp with rfl | hp
      · exact okP_nil
      · exact ho p hp
  rw [cleanL, e]; rfl
theorem clean_nodots (s : List UInt8) : ∀ p ∈ splitL 47 (cleanL s), p ≠ dotP ∧ p ≠ dotsP := by
  rw [clean_split]
  obtain ⟨a, r, h, ho⟩ := clean_held s
  rw [h]
  intro p hp
  rcases List.mem_cons.1 hp with rfl | hp
  · exact ⟨by decide, by decide⟩
  · exact ⟨(ho p hp).2.1, (ho p hp).1⟩
/-- Clean brings no byte but / -/
theorem split_mem (c : UInt8) : ∀ (l p : List UInt8), p ∈ splitL c l → ∀ x ∈ p, x ∈ l
  | [], p, h, x, hx => by simp [splitL] at h; subst h; cases hx
  | y :: l, p, h, x, hx => by
    have ih := split_mem c l
    unfold splitL at h
    split at h
    · rcases List.mem_cons.1 h with rfl | h
      · cases hx
      · exact List.mem_cons_of_mem _ (ih p h x hx)
    · split at h
      · rename_i e; exact absurd e (splitL_ne c l)
      · rename_i q qs e
        rw [e] at ih
        rcases List.mem_cons.1 h with rfl | h
        · rcases List.mem_cons.1 hx with rfl | hx
          · exact List.mem_cons_self ..
          · exact List.mem_cons_of_mem _ (ih q (List.mem_cons_self ..) x hx)
        · exact List.mem_cons_of_mem _ (ih p (List.mem_cons_of_mem _ h) x hx)
theorem join_mem (c : UInt8) : ∀ (ps : List (List UInt8)) (x : UInt8), x ∈ joinL c ps → x = c ∨ ∃ p ∈ ps, x ∈ p
  | [], x, h => by cases h
  | [p], x, h => Or.inr ⟨p, List.mem_cons_self .., h⟩
  | p :: q :: ps, x, h => by
    rw [joinL] at h
    rcases List.mem_append.1 h with h | h
    · exact Or.inr ⟨p, List.mem_cons_self .., h⟩
    · rcases List.mem_cons.1 h with h | h
      · exact Or.inl h
      · rcases join_mem c (q :: ps) x h with h | ⟨r, hr, hx⟩
        · exact Or.inl h
        · exact Or.inr ⟨r, List.mem_cons_of_mem _ hr, hx⟩
theorem step_mem {P : List UInt8 → Prop} (h0 : P []) {l : List (List UInt8)} (hl : ∀ p ∈ l, P p) {p : List UInt8} (hp : P p) (last : Bool) : ∀ q ∈ cleanStep l p last, P q := by
  have hpop : ∀ q ∈ popP l, P q := by
    unfold popP
    split
    · exact fun q hq => hl q (List.dropLast_subset _ hq)
    · exact hl
  have hap : ∀ (m : List (List UInt8)) (r : List UInt8), (∀ q ∈ m, P q) → P r → ∀ q ∈ m ++ [r], P q := fun m r hm hr q hq => by
    rcases List.mem_append.1 hq with hq | hq
    · exact hm q hq
    · rw [List.mem_singleton] at hq; subst hq; exact hr
  unfold cleanStep
  split
  · split
    · exact hap _ _ hpop h0
    · exact hpop
  · split
    · split
      · exact hap _ _ hl h0
      · exact hl
    · exact hap _ _ hl hp
theorem go_mem {P : List UInt8 → Prop} (h0 : P []) : ∀ (ps l : List (List UInt8)), (∀ p ∈ l, P p) → (∀ p ∈ ps, P p) → ∀ q ∈ cleanGo l ps, P q
  | [], _, hl, _ => hl
  | p :: ps, _, hl, hp => go_mem h0 ps _ (step_mem h0 hl (hp p (List.mem_cons_self ..)) _) (fun q hq => hp q (List.mem_cons_of_mem _ hq))
theorem clean_mem (s : List UInt8) (x : UInt8) (hx : x ∈ cleanL s) : x = 47 ∨ x ∈ s := by
  rcases join_mem 47 _ x hx with h | ⟨p, hp, hxp⟩
  · exact Or.inl h
  · refine go_mem (P := fun p => ∀ y ∈ p, y = 47 ∨ y ∈ s) (by simp) _ [] (fun p hp => by cases hp) (fun q hq y hy => ?_) p hp x hxp
    have := split_mem 47 _ q hq y hy
    unfold rootL at this
    split at this
    · exact Or.inr this
    · rcases List.mem_cons.1 this with h | h
      · exact Or.inl h
      · exact Or.inr h
/-- Clean lengthens by two bytes at most -/
theorem join_len (c : UInt8) : ∀ ps : List (List UInt8), (joinL c ps).length + 1 = (ps.map fun p => p.length + 1).sum + (if ps = [] then 1 else 0)
  | [] => rfl
  | [p] => by simp [joinL]
  | p :: q :: ps => by
    have ih := join_len c (q :: ps)
    rw [joinL]
    simp at ih ⊢
    omega
end Go.Proofs.YtkoobhgedoanhaaGreatDoor

namespace Go.Proofs.YtkoobhgedoanhaaGreatDoor
open Go.RowKit

def bA (l : Bs) : ByteArray := ⟨l.toArray⟩
theorem bA_data (l : Bs) : (bA l).data.toList = l := by unfold bA; simp
theorem bA_of (s : ByteArray) : bA s.data.toList = s := by unfold bA; simp
/-- ask.Get -/
def getP (ps : List Par) (name : Bs) : Option Bs := (ps.find? fun p => sameL p.1 name).map (·.2)
def nRealm : Bs := [114, 101, 97, 108, 109]
def nBasic : Bs := [98, 97, 115, 105, 99]
def nDigest : Bs := [100, 105, 103, 101, 115, 116]
def nAlg : Bs := [97, 108, 103, 111, 114, 105, 116, 104, 109]
def nMD5 : Bs := [77, 68, 53]
def nSHA : Bs := [83, 72, 65, 45, 50, 53, 54]
def nSess : Bs := [45, 115, 101, 115, 115]
def nNonce : Bs := [110, 111, 110, 99, 101]
def nQop : Bs := [113, 111, 112]
def nAuth : Bs := [97, 117, 116, 104]
def nInt : Bs := [97, 117, 116, 104, 45, 105, 110, 116]
def nOpaque : Bs := [111, 112, 97, 113, 117, 101]
def nStale : Bs := [115, 116, 97, 108, 101]
def nTrue : Bs := [116, 114, 117, 101]
def nDomain : Bs := [100, 111, 109, 97, 105, 110]
/-- ask.algorithm -/
def algR (s : Bs) : Option (Int × Bool) :=
  if sameL s nMD5 then some (2, false)
  else if sameL s (nMD5 ++ nSess) then some (2, true)
  else if sameL s nSHA then some (3, false)
  else if sameL s (nSHA ++ nSess) then some (3, true)
  else none
/-- the qop among the words of a list: the last one of the two counts; none: it can't be answered -/
def qopOf (l : List Bs) : Option Bs :=
  if l.any (fun w => sameL w nAuth) then some nAuth else if l.any (fun w => sameL w nInt) then some nInt else none
def qopR (q : Bs) : Option Bs :=
  match listAll q with
  | .error _ => none
  | .ok l => if 40 < l.length then none else qopOf l
def qopP (ps : List Par) : Option Bs :=
  match getP ps nQop with
  | none => some []
  | some q => qopR q
/-- the paths of a domain -/
def domR (d : Bs) : List Bs := ((splitL 32 d).filter fun p => hdB 47 p).map cleanL
/-- ask.Known -/
def knownL (x : Cha) : Option (AskOf Texts) :=
  match getP x.params nRealm with
  | none => none
  | some realm =>
    if sameL x.scheme nBasic then some ⟨1, bA realm, bA [], bA [], false, bA [], false, []⟩ else
    match algR ((getP x.params nAlg).getD nMD5) with
    | none => none
    | some (k, sess) =>
      if !sameL x.scheme nDigest then none else
      match getP x.params nNonce with
      | none => none
      | some nonce =>
        match qopP x.params with
        | none => none
        | some q => some ⟨k, bA realm, bA nonce, bA ((getP x.params nOpaque).getD []), sess, bA q, sameL ((getP x.params nStale).getD []) nTrue, (domR ((getP x.params nDomain).getD [])).map bA⟩
def noAsk : AskOf Texts := ⟨0, bA [], bA [], bA [], false, bA [], false, []⟩
/-- ask.Best -/
def bestTo (a : AskOf Texts) (x : Cha) : AskOf Texts :=
  match knownL x with
  | none => a
  | some b => if a.scheme < b.scheme then b else a
def bestL (l : List Cha) : AskOf Texts := l.foldl bestTo noAsk
theorem bestL_snoc (l : List Cha) (x : Cha) : bestL (l ++ [x]) = bestTo (bestL l) x := by simp [bestL]
end Go.Proofs.YtkoobhgedoanhaaGreatDoor
