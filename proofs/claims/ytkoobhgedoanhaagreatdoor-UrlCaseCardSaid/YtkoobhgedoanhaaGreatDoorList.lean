/- Walks: token.List. -/
import Derived.Test.YtkoobhgedoanhaaGreatDoorStrs
import Derived.Test.YtkoobhgedoanhaaGreatDoorToken4
namespace Go.Proofs.YtkoobhgedoanhaaGreatDoor
open Go.RowKit

/-- an error: nil, an Errno, or one with a place -/
def ErrIs (w : World) (v : Value) : Option (Nat × Option Nat) → Prop
  | none => v = .nilIface
  | some (n, none) => v = .iface 93 (.int .i64 n)
  | some (n, some p) => ∃ g, v = .iface 148 (.pointer (some ⟨g, 0, none⟩)) ∧ w.heap[g]? = some (.cells #[.int .i64 n, .int .i64 p] 150 (0, 0))

/-- the words of a list, read off what is left of it; else how many bytes are left where it falls -/
def listN : Nat → List UInt8 → Except Nat (List (List UInt8))
  | 0, _ => .ok []
  | f + 1, r =>
    let r1 := r.dropWhile blankB
    let w := r1.takeWhile byteB
    let r3 := (r1.dropWhile byteB).dropWhile blankB
    let ws := if w.isEmpty then [] else [w]
    match r3 with
    | [] => .ok ws
    | c :: r4 => if c == 44 then (listN f r4).map (ws ++ ·) else .error (r4.length + 1)
def listAll (l : List UInt8) : Except Nat (List (List UInt8)) := listN (l.length + 1) l

theorem dropWhile_eq_drop (p : UInt8 → Bool) (l : List UInt8) : l.dropWhile p = l.drop (l.takeWhile p).length := by
  induction l with
  | nil => rfl
  | cons a t ih => by_cases h : p a <;> simp [h, ih]
theorem drop_spanEnd (p : UInt8 → Bool) (l : List UInt8) (i : Nat) : l.drop (spanEnd p l i) = (l.drop i).dropWhile p := by
  rw [dropWhile_eq_drop, List.drop_drop, spanEnd]
theorem takeWhile_eq_take (p : UInt8 → Bool) (l : List UInt8) : l.takeWhile p = l.take (l.takeWhile p).length := by
  induction l with
  | nil => rfl
  | cons a t ih => by_cases h : p a <;> simp [h]; exact ih
theorem extract_span (p : UInt8 → Bool) (s : ByteArray) (i : Nat) : (s.extract i (spanEnd p s.data.toList i)) = ⟨((s.data.toList.drop i).takeWhile p).toArray⟩ := by
  apply Go.WideShapes.bytes_inj
  rw [Lib.extract_data, takeWhile_eq_take, List.take_drop]
  rw [spanEnd, List.drop_take]
  generalize (List.takeWhile p (List.drop i s.data.toList)).length = n
  rw [show i + (i + n - i) - i = n from by omega]
def wordsB (l : List (List UInt8)) : List ByteArray := l.map fun w => ⟨w.toArray⟩

/-- a round of the list's loop: where it comes to -/
def lk1 (l : List UInt8) (k : Nat) : Nat := spanEnd blankB l k
def lk2 (l : List UInt8) (k : Nat) : Nat := spanEnd byteB l (lk1 l k)
def lk3 (l : List UInt8) (k : Nat) : Nat := spanEnd blankB l (lk2 l k)
def lword (l : List UInt8) (k : Nat) : List UInt8 := (l.drop (lk1 l k)).takeWhile byteB
def lws (l : List UInt8) (k : Nat) : List (List UInt8) := if (lword l k).isEmpty then [] else [lword l k]

theorem listN_round (f : Nat) (l : List UInt8) (k : Nat) : listN (f + 1) (l.drop k) =
    match l.drop (lk3 l k) with
    | [] => .ok (lws l k)
    | c :: r4 => if c == 44 then (listN f r4).map (lws l k ++ ·) else .error (r4.length + 1) := by
  rw [listN]
  simp only [lk3, lk2, lk1, drop_spanEnd, lws, lword]
theorem listN_end {f : Nat} {l : List UInt8} {k : Nat} (h : l.length ≤ lk3 l k) : listN (f + 1) (l.drop k) = .ok (lws l k) := by
  rw [listN_round, List.drop_eq_nil_of_le h]
theorem listN_comma {f : Nat} {l : List UInt8} {k : Nat} (h : l[lk3 l k]? = some 44) : listN (f + 1) (l.drop k) = (listN f (l.drop (lk3 l k + 1))).map (lws l k ++ ·) := by
  rw [listN_round, drop_at h]; rfl
theorem listN_bad {f : Nat} {l : List UInt8} {k : Nat} {c : UInt8} (h : l[lk3 l k]? = some c) (hc : (c == 44) = false) : listN (f + 1) (l.drop k) = .error (l.length - lk3 l k) := by
  rw [listN_round, drop_at h]; simp only [hc, Bool.false_eq_true, if_false]
  have := (List.getElem?_eq_some_iff.1 h).1
  simp; omega
theorem lk_mono (l : List UInt8) (k : Nat) : k ≤ lk1 l k ∧ lk1 l k ≤ lk2 l k ∧ lk2 l k ≤ lk3 l k := ⟨spanEnd_ge, spanEnd_ge, spanEnd_ge⟩
theorem lk_le {l : List UInt8} {k : Nat} (h : k ≤ l.length) : lk1 l k ≤ l.length ∧ lk2 l k ≤ l.length ∧ lk3 l k ≤ l.length :=
  ⟨spanEnd_le h, spanEnd_le (spanEnd_le h), spanEnd_le (spanEnd_le (spanEnd_le h))⟩
theorem span_idem (p : UInt8 → Bool) (l : List UInt8) (k : Nat) : spanEnd p l (spanEnd p l k) = spanEnd p l k := by
  unfold spanEnd
  have h : (l.drop (k + ((l.drop k).takeWhile p).length)).takeWhile p = [] := by
    rw [← List.drop_drop, ← dropWhile_eq_drop]
    cases hd : (l.drop k).dropWhile p with
    | nil => rfl
    | cons a t =>
      have := List.head_dropWhile_not p (l := l.drop k) (by rw [hd]; simp)
      simp only [hd, List.head_cons] at this
      simp [this]
  rw [h]; rfl
theorem lword_empty {l : List UInt8} {k : Nat} (h : lword l k = []) : lk2 l k = lk1 l k ∧ lk3 l k = lk1 l k := by
  have h1 : lk2 l k = lk1 l k := by unfold lk2 spanEnd; rw [show (l.drop (lk1 l k)).takeWhile byteB = [] from h]; rfl
  exact ⟨h1, by unfold lk3; rw [h1]; exact span_idem _ _ _⟩

theorem listN_fuel : ∀ (f : Nat) {r : List UInt8}, r.length < f → listN f r = listN (r.length + 1) r
  | 0, _, h => absurd h (Nat.not_lt_zero _)
  | f + 1, r, h => by
    have key : ∀ (c : UInt8) (r4 : List UInt8), ((r.dropWhile blankB).dropWhile byteB).dropWhile blankB = c :: r4 → r4.length < r.length := by
      intro c r4 e
      have h1 := ((List.dropWhile_suffix (p := blankB) (l := (r.dropWhile blankB).dropWhile byteB))).length_le
      have h2 := ((List.dropWhile_suffix (p := byteB) (l := r.dropWhile blankB))).length_le
      have h3 := ((List.dropWhile_suffix (p := blankB) (l := r))).length_le
      rw [e] at h1; simp at h1; omega
    rw [listN, listN]
    cases e : ((r.dropWhile blankB).dropWhile byteB).dropWhile blankB with
    | nil => rfl
    | cons c r4 =>
      have hk := key c r4 e
      simp only
      rw [listN_fuel f (show r4.length < f by omega), listN_fuel r.length hk]

/-- the outcome, as Go tells it -/
def ListPost (s : ByteArray) (w : World) (e : Ending) (w' : World) : Prop :=
  ∃ v er, e = .returned (.tuple #[v, er]) ∧ Fr noB w w' ∧
    match listAll s.data.toList with
    | .ok ws => if 40 < ws.length then v = .slice none 0 0 ∧ ErrIs w' er (some (4, none)) else Strs w.heap.size w' v (wordsB ws) ∧ er = .nilIface
    | .error m => v = .slice none 0 0 ∧ ErrIs w' er (some (3, some (s.size - m)))
theorem ListPost.ok {s : ByteArray} {w w' : World} {v : Value} {ws : List (List UInt8)} (h : listAll s.data.toList = .ok ws) (hn : ws.length ≤ 40) (hv : Strs w.heap.size w' v (wordsB ws)) (hf : Fr noB w w') :
    ListPost s w (.returned (.tuple #[v, .nilIface])) w' := ⟨v, _, rfl, hf, by rw [h]; show (if 40 < ws.length then _ else _); rw [if_neg (show ¬ 40 < ws.length by omega)]; exact ⟨hv, rfl⟩⟩
theorem ListPost.long {s : ByteArray} {w w' : World} {ws : List (List UInt8)} (h : listAll s.data.toList = .ok ws) (hn : 40 < ws.length) (hf : Fr noB w w') :
    ListPost s w (.returned (.tuple #[.slice none 0 0, .iface 93 (.int .i64 4)])) w' := ⟨_, _, rfl, hf, by rw [h]; show (if 40 < ws.length then _ else _); rw [if_pos hn]; exact ⟨rfl, rfl⟩⟩
theorem ListPost.bad {s : ByteArray} {w w' : World} {m g : Nat} (h : listAll s.data.toList = .error m) (hg : w'.heap[g]? = some (.cells #[.int .i64 3, .int .i64 (s.size - m : Nat)] 150 (0, 0))) (hf : Fr noB w w') :
    ListPost s w (.returned (.tuple #[.slice none 0 0, .iface 148 (.pointer (some ⟨g, 0, none⟩))])) w' := ⟨_, _, rfl, hf, by rw [h]; exact ⟨rfl, g, rfl, hg⟩⟩

def LRel (s : ByteArray) (w : World) (v : Value) (wr : World) : Prop :=
  ∃ k acc, k ≤ s.size ∧ acc.length ≤ k ∧ CurAt wr w.heap.size s k ∧ Strs (w.heap.size + 1) wr v (wordsB acc) ∧ Fr noB w wr ∧
    listAll s.data.toList = (listN (s.size - k + 1) (s.data.toList.drop k)).map (acc ++ ·)

theorem Fr.newOne {w wr w1 : World} {c : Nat} (h : Fr noB w wr) (g : Fr (one c) wr w1) (hc : w.heap.size ≤ c) : Fr noB w w1 := h.step g (fun k hk e => by have e' : k = c := e; omega)
theorem wordsB_snoc (a : List (List UInt8)) (x : List UInt8) : wordsB (a ++ [x]) = wordsB a ++ [⟨x.toArray⟩] := by simp [wordsB]
theorem wordsB_len (a : List (List UInt8)) : (wordsB a).length = a.length := by simp [wordsB]
theorem lws_one {l : List UInt8} {k : Nat} (h : lword l k ≠ []) : lws l k = [lword l k] := by unfold lws; rw [if_neg (by simpa using h)]
theorem lws_none {l : List UInt8} {k : Nat} (h : lword l k = []) : lws l k = [] := by unfold lws; rw [h]; rfl
theorem err_block {w : World} {o : Obj} {g : Nat} (h : g = w.heap.size) : (w.alloc o).heap[g]? = some o := by rw [h]; exact new_block w o
theorem map_ok {a b : List (List UInt8)} {r : Except Nat (List (List UInt8))} (h : r = .ok b) : r.map (a ++ ·) = .ok (a ++ b) := by rw [h]; rfl
theorem map_error {a : List (List UInt8)} {m : Nat} {r : Except Nat (List (List UInt8))} (h : r = .error m) : r.map (a ++ ·) = .error m := by rw [h]; rfl
theorem map_map {a b : List (List UInt8)} (r : Except Nat (List (List UInt8))) : (r.map (b ++ ·)).map (a ++ ·) = r.map ((a ++ b) ++ ·) := by cases r <;> simp [Except.map]

theorem ownsRow_up {b b' : Nat} {w : World} {v : Value} {ss : List ByteArray} (h : Strs b' w v ss) (hb : b ≤ b') : Strs b w v ss := by
  obtain ⟨h1, h2⟩ := h
  refine ⟨h1, ?_⟩
  rcases h2 with h2 | ⟨g, cap, cur, hv, hg, r⟩
  · exact Or.inl h2
  · exact Or.inr ⟨g, cap, cur, hv, Nat.le_trans hb hg, r⟩

set_option maxRecDepth 100000 in
set_option maxHeartbeats 2000000 in
theorem List_any (s : ByteArray) (w : World) (hs : s.size < 4398046511104) :
    Calls Tryz.prog 44 #[.string s] w (ListPost s w) := by
  have hm : s.size ≤ maxLen := by unfold maxLen; omega
  go_enter Tryz.func44, Tryz.ntmps44
  go_wp2_with (go_at_call 46; refine (On_any _ _).mono ?_; rintro e w1 ⟨rfl, rfl⟩)
  go_loopw [4] (LRel s w) (fun _ wr => s.size - curPos wr w.heap.size)
  case atStart => exact ⟨0, [], Nat.zero_le _, Nat.le_refl _, new_block _ _, Strs.nil _ _, (Fr.refl _ _).alloc _, by rw [List.drop_zero]; cases h : listN (s.size - 0 + 1) s.data.toList <;> simp [listAll, Except.map] <;> simpa using h⟩
  case round =>
    obtain ⟨k, acc, hk, hacc, hc, hown, hfr, hres⟩ := hrel
    have HRES := Lib.hid hres
    clear hres
    have hbase : w.heap.size + 1 ≤ wr.heap.size := hc.lt
    have hmono := lk_mono s.data.toList k
    have hle := lk_le (l := s.data.toList) (k := k) (by simpa using hk)
    have hsz : s.data.toList.length = s.size := by simp
    rw [hsz] at hle
    obtain ⟨m1, m2, m3⟩ := hmono
    obtain ⟨q1, q2, q3⟩ := hle
    have hpos := Lib.hid hc.pos
    obtain ⟨acc2, hacc2⟩ : ∃ x, x = acc ++ lws s.data.toList k := ⟨_, rfl⟩
    have HACC := Lib.hid hacc2
    clear hacc2
    go_wp2_with fail
    refine (Blanks_any _ s k wr hc hm hk).mono ?_
    rintro e w1 ⟨rfl, hc1, hf1⟩
    have HF1 := hfr.newOne hf1 (Nat.le_refl _)
    have hown1 := hown.fr hf1 (fun k hk => by have e : k = w.heap.size := hk; omega)
    have hs1 : w.heap.size + 1 ≤ w1.heap.size := hc1.lt
    go_wp2_with fail
    refine (Word_any _ s _ w1 hc1 hm q1).mono ?_
    rintro e w2 ⟨rfl, hc2, hf2⟩
    have HF2 := HF1.newOne hf2 (Nat.le_refl _)
    have hown2 := hown1.fr hf2 (fun k hk => by have e : k = w.heap.size := hk; omega)
    have hs2 : w.heap.size + 1 ≤ w2.heap.size := hc2.lt
    have hc2' : CurAt w2 w.heap.size s (lk2 s.data.toList k) := hc2
    rw [extract_span]
    have hW : ((s.data.toList.drop (spanEnd blankB s.data.toList k)).takeWhile byteB) = lword s.data.toList k := rfl
    rw [hW]
    clear hW hc2 hc1 hf1 hf2
    generalize hW2 : lword s.data.toList k = W
    have HW := Lib.hid hW2
    clear hW2
    cases W with
    | nil =>
      have hem := Lib.hid (lword_empty HW.out)
      have hc3 : CurAt w2 w.heap.size s (lk3 s.data.toList k) := by have h := hc2'; rw [hem.out.1, ← hem.out.2] at h; exact h
      have hv3 : Strs (w.heap.size + 1) w2 u4 (wordsB acc2) := by rw [HACC.out, lws_none HW.out, List.append_nil]; exact hown2
      clear hc2' hown2 hown1 hown
      have hlen : acc2.length ≤ k + 1 := by have e := HACC.out; rw [lws_none HW.out, List.append_nil] at e; rw [e]; omega
      obtain ⟨av, cv, hv⟩ := hv3.form
      subst hv
      go_wp2_with fail
      by_cases hend : s.size ≤ lk3 s.data.toList k
      · have hfin := Lib.hid (show listAll s.data.toList = .ok acc2 by rw [HRES.out, map_ok (listN_end (by simpa using hend)), HACC.out])
        have hd : decide (s.size ≤ lk3 s.data.toList k) = true := by simpa using hend
        refine (End_any _ s _ w2 hc3).mono ?_
        rintro e w4 ⟨rfl, n4, rfl⟩
        rw [hd]
        by_cases h40 : 40 < (wordsB acc2).length
        · have h40' : ((40 : Int) < ((wordsB acc2).length : Int)) := by omega
          go_wp2
          go_ret2
          exact ListPost.long hfin.out (by rw [wordsB_len] at h40; exact h40) (HF2.drewN _)
        · have h40' : ¬ ((40 : Int) < ((wordsB acc2).length : Int)) := by omega
          go_wp2
          go_ret2
          exact ListPost.ok hfin.out (by rw [wordsB_len] at h40; omega) (ownsRow_up hv3 (Nat.le_succ _)) (HF2.drewN _)
      · have hd : decide (s.size ≤ lk3 s.data.toList k) = false := by simpa using hend
        refine (End_any _ s _ w2 hc3).mono ?_
        rintro e w4 ⟨rfl, n4, rfl⟩
        rw [hd]
        have hc4 : CurAt (w2.drewN n4) w.heap.size s (lk3 s.data.toList k) := hc3
        have hv4 : Strs (w.heap.size + 1) (w2.drewN n4) _ (wordsB acc2) := hv3
        have HF4 := HF2.drewN n4
        go_wp2_with fail
        refine (Mark_any _ s _ 44 _ hc4 hm).mono ?_
        rintro e w5 ⟨rfl, hc5, hf5⟩
        have HF5 := HF4.newOne hf5 (Nat.le_refl _)
        have hv5 := hv4.fr hf5 (fun k hk => by have e : k = w.heap.size := hk; omega)
        have hlt : lk3 s.data.toList k < s.data.toList.length := by simpa using hend
        have hat := Lib.hid (List.getElem?_eq_getElem hlt)
        cases e1 : markB s (lk3 s.data.toList k) 44
        · have hfin := Lib.hid (show listAll s.data.toList = .error (s.data.toList.length - lk3 s.data.toList k) by
            rw [HRES.out, map_error (listN_bad hat.out (by have h := e1; unfold markB at h; rw [hat.out] at h; simpa using h))])
          rw [markTo_no e1] at hc5
          have c1 := hc5.cell1
          have hpl := Lib.hid (show s.size - (s.data.toList.length - lk3 s.data.toList k) = lk3 s.data.toList k by rw [hsz] at hlt ⊢; omega)
          go_wp2
          go_region
          all_goals
            go_wp2
            go_ret2
            exact ListPost.bad hfin.out (by rw [hpl.out]; exact new_block w5 _) ((HF5.alloc _).drew)
        · have hfin := Lib.hid (show listAll s.data.toList = (listN (s.size - (lk3 s.data.toList k + 1) + 1) (s.data.toList.drop (lk3 s.data.toList k + 1))).map (acc2 ++ ·) by
            rw [HRES.out, HACC.out, listN_comma (by have h := e1; unfold markB at h; simpa using h), map_map]
            rw [listN_fuel (f := s.size - k) (by simp; omega), listN_fuel (f := s.size - (lk3 s.data.toList k + 1) + 1) (by simp)])
          rw [markTo_yes e1] at hc5
          go_wp2
          go_roundw
          case rel => exact ⟨_, acc2, by omega, by omega, hc5, hv5, HF5, hfin.out⟩
          case measure => rw [hpos.out, hc5.pos]; omega
    | cons x W' =>
      have hne : lword s.data.toList k ≠ [] := by rw [HW.out]; simp
      have HNE := Lib.hid hne
      clear hne
      have HSN := Lib.hid (show wordsB acc2 = wordsB acc ++ [⟨(x :: W').toArray⟩] by rw [HACC.out, lws_one HNE.out, HW.out, wordsB_snoc])
      have hlen : acc2.length ≤ k + 1 := by have e := HACC.out; rw [lws_one HNE.out] at e; rw [e]; simp; omega
      obtain ⟨av, cv, hv⟩ := hown2.form
      subst hv
      have hlA : acc.length < 4398046511104 := by omega
      have hwl := Lib.hid (wordsB_len acc)
      clear hown1 hown
      go_wp2_with (at_builtin; refine wpList_str rfl _ _ rfl (w.heap.size + 1) (.slice av _ cv) (wordsB acc) rfl (by apply Strs.alloc; exact hown2) ⟨w2.heap.size, 0, none⟩ 1 ⟨(x :: W').toArray⟩ rfl (new_cell _ _ _ _) (by rw [hwl.out]; exact hlA) (by simp; omega) ?_; intro v' w3 hown3 hg3)
      have hc2a : CurAt w3 w.heap.size s (lk2 s.data.toList k) := by
        have h2 : CurAt (w2.alloc (.cells #[.string ⟨(x :: W').toArray⟩] 9)) w.heap.size s (lk2 s.data.toList k) := hc2'.alloc
        unfold CurAt at h2 ⊢
        rw [hg3.block _ (lt_of_some h2) (fun e => by have := hown2.block _ e.symm; omega)]
        exact h2
      have HF3 := (HF2.alloc (.cells #[.string ⟨(x :: W').toArray⟩] 9)).grownNew hg3 (fun k hk => by have := hown2.block k hk; omega)
      rw [← HSN.out] at hown3
      clear hown2 hg3 hc2'
      have hs3 : w.heap.size + 1 ≤ w3.heap.size := hc2a.lt
      go_wp2_with fail
      refine (Blanks_any _ s _ w3 hc2a hm q2).mono ?_
      rintro e w6 ⟨rfl, hc3, hf6⟩
      have hc3 : CurAt w6 w.heap.size s (lk3 s.data.toList k) := hc3
      have HF6 := HF3.newOne hf6 (Nat.le_refl _)
      have hv3 := hown3.fr hf6 (fun k hk => by have e : k = w.heap.size := hk; omega)
      clear hown3 hf6 hc2a
      have hs6 : w.heap.size + 1 ≤ w6.heap.size := hc3.lt
      obtain ⟨av3, cv3, hv⟩ := hv3.form
      subst hv
      go_wp2_with fail
      by_cases hend : s.size ≤ lk3 s.data.toList k
      · have hfin := Lib.hid (show listAll s.data.toList = .ok acc2 by rw [HRES.out, map_ok (listN_end (by simpa using hend)), HACC.out])
        have hd : decide (s.size ≤ lk3 s.data.toList k) = true := by simpa using hend
        refine (End_any _ s _ w6 hc3).mono ?_
        rintro e w4 ⟨rfl, n4, rfl⟩
        rw [hd]
        by_cases h40 : 40 < (wordsB acc2).length
        · have h40' : ((40 : Int) < ((wordsB acc2).length : Int)) := by omega
          go_wp2
          go_ret2
          exact ListPost.long hfin.out (by rw [wordsB_len] at h40; exact h40) (HF6.drewN _)
        · have h40' : ¬ ((40 : Int) < ((wordsB acc2).length : Int)) := by omega
          go_wp2
          go_ret2
          exact ListPost.ok hfin.out (by rw [wordsB_len] at h40; omega) (ownsRow_up hv3 (Nat.le_succ _)) (HF6.drewN _)
      · have hd : decide (s.size ≤ lk3 s.data.toList k) = false := by simpa using hend
        refine (End_any _ s _ w6 hc3).mono ?_
        rintro e w4 ⟨rfl, n4, rfl⟩
        rw [hd]
        have hc4 : CurAt (w6.drewN n4) w.heap.size s (lk3 s.data.toList k) := hc3
        have hv4 : Strs (w.heap.size + 1) (w6.drewN n4) _ (wordsB acc2) := hv3
        have HF4 := HF6.drewN n4
        go_wp2_with fail
        refine (Mark_any _ s _ 44 _ hc4 hm).mono ?_
        rintro e w5 ⟨rfl, hc5, hf5⟩
        have HF5 := HF4.newOne hf5 (Nat.le_refl _)
        have hv5 := hv4.fr hf5 (fun k hk => by have e : k = w.heap.size := hk; omega)
        have hlt : lk3 s.data.toList k < s.data.toList.length := by simpa using hend
        have hat := Lib.hid (List.getElem?_eq_getElem hlt)
        cases e1 : markB s (lk3 s.data.toList k) 44
        · have hfin := Lib.hid (show listAll s.data.toList = .error (s.data.toList.length - lk3 s.data.toList k) by
            rw [HRES.out, map_error (listN_bad hat.out (by have h := e1; unfold markB at h; rw [hat.out] at h; simpa using h))])
          rw [markTo_no e1] at hc5
          have c1 := hc5.cell1
          have hpl := Lib.hid (show s.size - (s.data.toList.length - lk3 s.data.toList k) = lk3 s.data.toList k by rw [hsz] at hlt ⊢; omega)
          go_wp2
          go_region
          all_goals
            go_wp2
            go_ret2
            exact ListPost.bad hfin.out (by rw [hpl.out]; exact new_block w5 _) ((HF5.alloc _).drew)
        · have hfin := Lib.hid (show listAll s.data.toList = (listN (s.size - (lk3 s.data.toList k + 1) + 1) (s.data.toList.drop (lk3 s.data.toList k + 1))).map (acc2 ++ ·) by
            rw [HRES.out, HACC.out, listN_comma (by have h := e1; unfold markB at h; simpa using h), map_map]
            rw [listN_fuel (f := s.size - k) (by simp; omega), listN_fuel (f := s.size - (lk3 s.data.toList k + 1) + 1) (by simp)])
          rw [markTo_yes e1] at hc5
          go_wp2
          go_roundw
          case rel => exact ⟨_, acc2, by omega, by omega, hc5, hv5, HF5, hfin.out⟩
          case measure => rw [hpos.out, hc5.pos]; omega
end Go.Proofs.YtkoobhgedoanhaaGreatDoor
