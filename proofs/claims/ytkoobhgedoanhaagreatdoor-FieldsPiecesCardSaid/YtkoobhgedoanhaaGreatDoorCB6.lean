/- Package ask: the reader: fail, param. What stays as it was while the call writes into blocks of its own: slices of strings; lists side by side; rows' own blocks. Challenges as texts: what is told so is read so; what is read can be told. Plain laws. No program in sight. -/
import Derived.Test.YtkoobhgedoanhaaGreatDoorCB5
import Derived.Test.YtkoobhgedoanhaaGreatDoorCB2
import Derived.Test.YtkoobhgedoanhaaGreatDoorCB3
import Derived.Deep.AppendLies
import Derived.Deep.RegionLaw
import Derived.Deep.DeepCutAuto
import Derived.Test.YtkoobhgedoanhaaGreatDoorCB1
namespace Go.Proofs.YtkoobhgedoanhaaGreatDoor
open Go.RowKit

/-- an error with a place -/
def AtErr (n p : Nat) (e : Ending) (w' : World) : Prop :=
  ∃ g, e = .returned (.iface 148 (.pointer (some ⟨g, 0, none⟩))) ∧ w'.heap[g]? = some (.cells #[.int .i64 n, .int .i64 p] 150 (0, 0))
theorem AtErr.new (n p : Nat) (w : World) : AtErr n p (.returned (.iface 148 (.pointer (some ⟨w.heap.size, 0, none⟩)))) (w.alloc (.cells #[.int .i64 n, .int .i64 p] 150 (0, 0))) := ⟨_, rfl, new_block _ _⟩
set_option maxHeartbeats 1000000 in
theorem fail_any (b c i n : Nat) (s : ByteArray) (v : Value) (w : World) (hr : RdrAt w b c s v) (h : CurAt w c s i) :
    Calls Tryz.prog 112 #[.pointer (some ⟨b, 0, none⟩), .int .i64 n] w fun e w' => AtErr n i e w' ∧ Fr noB w w' := by
  have q0 := hr.cell0
  go_enter Tryz.func112, Tryz.ntmps112
  go_wp2_with fail
  refine (At_any c s i w h).mono ?_
  rintro e w1 ⟨rfl, rfl⟩
  go_wp2
  go_ret
  exact ⟨AtErr.new n i w, (Fr.refl _ _).alloc _⟩

theorem bA_toList (l : Bs) : (bA l).toList = l := toList_mk l
def parC (p : Par) : List Value := [.string (bA p.1), .string (bA p.2)]
/-- a challenge's block -/
def ChaAt (w : World) (x : Nat) (sc tok : ByteArray) (pv : Value) : Prop := w.heap[x]? = some (.cells #[.string sc, .string tok, pv] 38 (0, 0))
section
variable {w w' : World} {x : Nat} {sc tok : ByteArray} {pv : Value}
theorem ChaAt.cell0 (h : ChaAt w x sc tok pv) : w.cell? ⟨x, 0, none⟩ = some (.string sc) := by simp [World.cell?, show w.heap[x]? = _ from h]
theorem ChaAt.cell1 (h : ChaAt w x sc tok pv) : w.cell? ⟨x, 1, none⟩ = some (.string tok) := by simp [World.cell?, show w.heap[x]? = _ from h]
theorem ChaAt.cell2 (h : ChaAt w x sc tok pv) : w.cell? ⟨x, 2, none⟩ = some pv := by simp [World.cell?, show w.heap[x]? = _ from h]
theorem ChaAt.free (h : ChaAt w x sc tok pv) (k : Nat) : w.frozen? ⟨x, k, none⟩ = false := by simp [World.frozen?, show w.heap[x]? = _ from h]
theorem ChaAt.fr {S : Nat → Prop} (h : ChaAt w x sc tok pv) (hf : Fr S w w') (hn : ¬ S x) : ChaAt w' x sc tok pv := hf.keep h hn
theorem ChaAt.lt (h : ChaAt w x sc tok pv) : x < w.heap.size := lt_of_some h
theorem ChaAt.ne {c i : Nat} {t : ByteArray} (h : ChaAt w x sc tok pv) (g : CurAt w c t i) : x ≠ c := by
  intro e
  subst e
  have h' : w.heap[x]? = _ := h
  have g' : w.heap[x]? = _ := g
  rw [h'] at g'
  simp at g'
theorem ChaAt.neR {b c : Nat} {t : ByteArray} {v : Value} (h : ChaAt w x sc tok pv) (g : RdrAt w b c t v) : x ≠ b := by
  intro e
  subst e
  have h' : w.heap[x]? = _ := h
  have g' : w.heap[x]? = _ := g
  rw [h'] at g'
  simp at g'
end
/-- a block of another type is not the row's -/
theorem OwnRows.kindR {base k : Nat} {e : TypeId} {w : World} {v : Value} {xs : List (List Value)} {g : Nat} (h : OwnRows base e k w v xs) (hg : v.ownBlock = some g) : ∃ cur, w.heap[g]? = some (.cells cur e (0, 0)) := by
  rcases h.2.2 with ⟨hv, _⟩ | ⟨g', cap, cur, hv, _, hh, _⟩
  · rw [hv] at hg; simp [Value.ownBlock] at hg
  · rw [hv] at hg; simp [Value.ownBlock] at hg; subst hg; exact ⟨cur, hh⟩
theorem OwnRows.not {base k : Nat} {e t : TypeId} {w : World} {v : Value} {xs : List (List Value)} {g : Nat} {cs : Array Value} {f : Nat × Nat} (h : OwnRows base e k w v xs) (hb : w.heap[g]? = some (.cells cs t f)) (ht : t ≠ e) : v.ownBlock ≠ some g := by
  intro hg
  obtain ⟨cur, hc⟩ := h.kindR hg
  rw [hc] at hb
  cases hb
  exact ht rfl
/-- a parameter's own block -/
def ParAt (w : World) (x : Nat) (a b : ByteArray) : Prop := w.heap[x]? = some (.cells #[.string a, .string b] 79 (0, 0))

/-- what param writes -/
def parS (c x : Nat) (pv : Value) : Nat → Prop := fun k => k = c ∨ k = x ∨ pv.ownBlock = some k
def ParamPost (base c x i : Nat) (s : ByteArray) (ps : List Par) (sc tok : ByteArray) (pv : Value) (w : World) (e : Ending) (w' : World) : Prop :=
  Fr (parS c x pv) w w' ∧ match paramR ps (s.data.toList.drop i) with
    | .error n => ∃ p, AtErr n p e w'
    | .ok q => e = .returned .nilIface ∧ ∃ j pv', j ≤ s.size ∧ CurAt w' c s j ∧ s.data.toList.drop j = q.2 ∧ ChaAt w' x sc tok pv' ∧ OwnRows base 79 2 w' pv' ((ps ++ [q.1]).map parC)
theorem ParamPost.bad {base c x i n p : Nat} {s : ByteArray} {ps : List Par} {sc tok : ByteArray} {pv : Value} {w w' : World} {e : Ending} (h : paramR ps (s.data.toList.drop i) = .error n) (hf : Fr (parS c x pv) w w') (he : AtErr n p e w') : ParamPost base c x i s ps sc tok pv w e w' := by
  refine ⟨hf, ?_⟩
  rw [h]; exact ⟨p, he⟩
/-- what a parameter is, place by place -/
theorem valueAt_drop (s : ByteArray) (i : Nat) : s.data.toList.drop (blk s (blk s (wrd s i) + 1)) = valueAt (s.data.toList.drop i) := by
  unfold valueAt
  rw [← wrd_drop, ← blk_drop s (wrd s i), List.drop_drop, blk_drop]
/-- behind the reading of a value -/
def ParMid (base b c x P i : Nat) (s : ByteArray) (v : Value) (ps : List Par) (sc tok : ByteArray) (pv : Value) (W : Bs) (w wx : World) : Prop :=
  ∃ val j, j ≤ s.size ∧ CurAt wx c s j ∧ ParAt wx P (bA W) (bA val) ∧ RdrAt wx b c s v ∧ ChaAt wx x sc tok pv ∧ OwnRows base 79 2 wx pv (ps.map parC) ∧ Fr (parS c x pv) w wx ∧
    paramR ps (s.data.toList.drop i) = (if twiceB ps W then .error 9 else if ps.length = 16 then .error 4 else .ok ((W, val), s.data.toList.drop j))
theorem quoted_at (l : Bs) (k : Nat) : quotedAt l k = (quoteR (l.drop k)).map fun q => (q.1, l.length - q.2.length) := by
  unfold quotedAt
  rcases Nat.lt_or_ge k l.length with h | h
  · rw [List.getElem?_eq_getElem h, List.drop_eq_getElem_cons h]
    show _ = Option.map _ (if l[k] == 34 then qgo (l.drop (k + 1)) else none)
    by_cases hq : l[k] = 34
    · rw [hq, if_pos rfl, if_pos (by rfl)]
      unfold qres
      simp
    · rw [if_neg (by simpa using hq), if_neg (by simpa using hq)]; rfl
  · rw [List.getElem?_eq_none h, List.drop_eq_nil_of_le h, if_neg (by simp)]; rfl
theorem bA_size (l : Bs) : (bA l).size = l.length := rfl
def PaRel (ps : List Par) (W : Bs) (w : World) (t : Value) (wr : World) : Prop := ∃ k : Nat, k ≤ ps.length ∧ t = .int .i64 k ∧ (ps.take k).any (fun q => sameL q.1 W) = false ∧ Fr noB w wr
theorem any_take_succP {ps : List Par} {k : Nat} {n v W : Bs} (h : ps[k]? = some (n, v)) (hn : (ps.take k).any (fun q => sameL q.1 W) = false) (hp : sameL n W = false) : (ps.take (k + 1)).any (fun q => sameL q.1 W) = false := by
  rw [List.take_add_one, h]; simp only [List.any_append, hn, Option.toList_some, List.any_cons, hp, List.any_nil, Bool.or_false]
theorem twice_of {ps : List Par} {k : Nat} {n v W : Bs} (h : ps[k]? = some (n, v)) (hp : sameL n W = true) : twiceB ps W = true := by
  unfold twiceB
  rw [List.any_eq_true]
  exact ⟨_, List.mem_of_getElem? h, hp⟩
theorem info_par : (Tryz.prog.info? 79).map (fun i => (i.zero, i.size, i.bytes)) = some (some (.agg #[.string ⟨#[]⟩, .string ⟨#[]⟩]), 2, 32) := by kernel_rfl
theorem par_one (p : Par) : ∀ u ∈ parC p, u.oneCell' = true := by
  intro u hu
  simp only [parC, List.mem_cons, List.not_mem_nil, or_false] at hu
  rcases hu with rfl | rfl <;> rfl
theorem par_rows (ps : List Par) : ∀ x ∈ ps.map parC, x.length = 2 ∧ ∀ u ∈ x, u.oneCell' = true := by
  intro x hx
  obtain ⟨p, _, rfl⟩ := List.mem_map.1 hx
  exact ⟨rfl, par_one p⟩
theorem qgo_suffix : ∀ (f : Nat) (r a z : Bs), r.length ≤ f → qgo r = some (a, z) → z <:+ r
  | 0, r, a, z, hf, h => by
    have : r = [] := List.eq_nil_of_length_eq_zero (by omega)
    subst this; rw [qgo.eq_def] at h; simp at h
  | f + 1, [], a, z, hf, h => by rw [qgo.eq_def] at h; simp at h
  | f + 1, x :: r, a, z, hf, h => by
    rw [qgo.eq_def] at h
    simp only at h
    by_cases h1 : (x == 34) = true
    · rw [if_pos h1] at h; cases h; exact List.suffix_cons _ _
    · rw [if_neg h1] at h
      by_cases h2 : (x == 92) = true
      · rw [if_pos h2] at h
        cases r with
        | nil => simp at h
        | cons y r' =>
          simp only at h
          by_cases h3 : textB y = true
          · rw [if_pos h3] at h
            cases hq : qgo r' with
            | none => rw [hq] at h; simp at h
            | some p =>
              rw [hq] at h; simp at h
              obtain ⟨rfl, rfl⟩ := h
              have := qgo_suffix f r' p.1 p.2 (by simp at hf; omega) hq
              exact (this.trans (List.suffix_cons _ _)).trans (List.suffix_cons _ _)
          · rw [if_neg h3] at h; simp at h
      · rw [if_neg h2] at h
        by_cases h3 : textB x = true
        · rw [if_pos h3] at h
          cases hq : qgo r with
          | none => rw [hq] at h; simp at h
          | some p =>
            rw [hq] at h; simp at h
            obtain ⟨rfl, rfl⟩ := h
            have := qgo_suffix f r p.1 p.2 (by simp at hf; omega) hq
            exact this.trans (List.suffix_cons _ _)
        · rw [if_neg h3] at h; simp at h
theorem suffix_drop {z l : Bs} (h : z <:+ l) : l.drop (l.length - z.length) = z := by
  obtain ⟨t, rfl⟩ := h
  rw [List.length_append, Nat.add_sub_cancel, List.drop_left']
  rfl
theorem quoteR_drop {l a z : Bs} {k : Nat} (h : quoteR (l.drop k) = some (a, z)) : l.drop (l.length - z.length) = z := by
  refine suffix_drop (List.IsSuffix.trans ?_ (List.drop_suffix k l))
  cases hd : l.drop k with
  | nil => rw [hd] at h; cases h
  | cons c t =>
    rw [hd] at h
    have h' : (if c == 34 then qgo t else none) = some (a, z) := h
    by_cases hc : (c == 34) = true
    · rw [if_pos hc] at h'
      exact (qgo_suffix _ t a z (Nat.le_refl _) h').trans (List.suffix_cons _ _)
    · rw [if_neg hc] at h'; cases h'
set_option maxRecDepth 100000 in
set_option maxHeartbeats 4000000 in
theorem param_any (base b c x i : Nat) (s : ByteArray) (v : Value) (ps : List Par) (sc tok : ByteArray) (pv : Value) (w : World) (hr : RdrAt w b c s v) (h : CurAt w c s i) (hx : ChaAt w x sc tok pv) (ho : OwnRows base 79 2 w pv (ps.map parC)) (hb : base ≤ w.heap.size)
    (hs : s.size < 100000) (hi : i ≤ s.size) (hl : ps.length ≤ 16) (hz : ∀ p ∈ ps, p.1.length < 100000) :
    Calls Tryz.prog 115 #[.pointer (some ⟨b, 0, none⟩), .pointer (some ⟨x, 0, none⟩)] w (ParamPost base c x i s ps sc tok pv w) := by
  have hm : s.size ≤ maxLen := by unfold maxLen; omega
  have hbc := hr.ne h
  have hxc := hx.ne h
  have hxb := hx.neR hr
  have hoc : pv.ownBlock ≠ some c := ho.not h (by decide)
  have hox : pv.ownBlock ≠ some x := ho.not hx (by decide)
  have hob : pv.ownBlock ≠ some b := ho.not hr (by decide)
  have q0 := hr.cell0
  have HN := Lib.hid (named_at s i)
  have HV := Lib.hid (valueAt_drop s i)
  have hw := wrd_le hi
  have hk := blk_le hw
  have hPR0 := (show paramR ps (s.data.toList.drop i) = if !namedB (s.data.toList.drop i) then .error 3 else
      match valueR (valueAt (s.data.toList.drop i)) with
      | none => .error 3
      | some q => if twiceB ps (wordR (s.data.toList.drop i)) then .error 9 else if ps.length = 16 then .error 4 else .ok ((wordR (s.data.toList.drop i), q.1), q.2) from rfl)
  have hPR := Lib.hid hPR0
  clear hPR0
  have hwl : (wordR (s.data.toList.drop i)).length ≤ s.size := by
    have := wordR_len (s.data.toList.drop i)
    simp at this; omega
  go_enter Tryz.func115, Tryz.ntmps115
  go_wp2_with fail
  refine (At_any c s i w h).mono ?_
  rintro e w0 ⟨rfl, rfl⟩
  go_wp2_with fail
  refine (Word_any c s i w h hm hi).mono ?_
  rintro e w1 ⟨rfl, hc1, hf1⟩
  replace hc1 : CurAt w1 c s (wrd s i) := hc1
  rw [show s.extract i (spanEnd byteB s.data.toList i) = bA (wordR (s.data.toList.drop i)) from wrd_text s i]
  generalize wordR (s.data.toList.drop i) = W at *
  generalize wrd s i = K1 at *
  have hr1 := hr.one h hf1
  have hx1 := hx.fr hf1 hxc
  have ho1 := ho.fr hf1 (fun k hk e => hoc (by rw [hk]; exact congrArg some e))
  have HF1 := Lib.hid (show Fr (parS c x pv) w w1 from hf1.mono (fun k _ e => Or.inl e))
  have q1 := hr1.cell0
  have q1a : ∀ o : Obj, (w1.alloc o).cell? ⟨b, 0, none⟩ = some (.pointer (some ⟨c, 0, none⟩)) := fun o => (hr1.fr ((Fr.refl noB w1).alloc o) (fun h => h)).cell0
  clear q0 hf1
  go_wp2_with fail
  obtain ⟨wp, hwp⟩ : ∃ wp, wp = w1.alloc (.cells #[.string (bA W), .string ⟨#[]⟩] 79) := ⟨_, rfl⟩
  have hpp : ParAt wp w1.heap.size (bA W) ⟨#[]⟩ := by rw [hwp]; exact new_block _ _
  have hf2 : Fr noB w1 wp := by rw [hwp]; exact (Fr.refl _ _).alloc _
  have hr2 := hr1.fr hf2 (fun h => h)
  have hc2 := hc1.fr hf2 (fun h => h)
  have hx2 := hx1.fr hf2 (fun h => h)
  have ho2 := ho1.fr hf2 (fun _ _ h => h)
  have HF2 := Lib.hid (HF1.out.trans hf2.ofNone)
  have q2 := hr2.cell0
  rw [← hwp]
  generalize hP : w1.heap.size = P at *
  have hPc : P ≠ c := by intro e; have := hc1.lt; omega
  have hPx : P ≠ x := by intro e; have := hx1.lt; omega
  have hPb : P ≠ b := by intro e; have := hr1.lt; omega
  have hPw : w.heap.size ≤ P := by have := HF1.out.size; omega
  have hx2z : P < wp.heap.size := lt_of_some hpp
  have hoP : pv.ownBlock ≠ some P := fun e => by have := ho1.lt P e; omega
  clear q1 q1a hwp hf2
  refine (Blanks_any c s K1 wp hc2 hm hw).mono ?_
  rintro e w3 ⟨rfl, hc3, hf3⟩
  replace hc3 : CurAt w3 c s (blk s K1) := hc3
  generalize blk s K1 = K2 at *
  have hr3 := hr2.one hc2 hf3
  have hx3 := hx2.fr hf3 hxc
  have ho3 := ho2.fr hf3 (fun k hk e => hoc (by rw [hk]; exact congrArg some e))
  have hp3 : ParAt w3 P (bA W) ⟨#[]⟩ := hf3.keep hpp hPc
  have HF3 := Lib.hid (HF2.out.trans (hf3.mono (fun k _ e => Or.inl e)))
  have q3 := hr3.cell0
  have p0 : w3.cell? ⟨P, 0, none⟩ = some (.string (bA W)) := by simp [World.cell?, show w3.heap[P]? = _ from hp3]
  clear q2 hf3 hr1 hx1 ho1 hr2 hx2 ho2 hpp hc1 hc2
  cases hWe : W.isEmpty
  case true =>
    have hnn : (bA W).toList = [] := by rw [bA_toList]; exact List.isEmpty_iff.1 hWe
    have hnb : ((bA W).toList == []) = true := beq_iff_eq.2 hnn
    rw [hWe] at HN
    have HE := Lib.hid (show paramR ps (s.data.toList.drop i) = .error 3 by rw [hPR.out, HN.out]; rfl)
    go_wp2_with fail
    refine (fail_any b c K2 3 s v w3 hr3 hc3).mono ?_
    rintro e w4 ⟨⟨g, rfl, hg⟩, hf4⟩
    go_wp2
    go_ret
    exact ParamPost.bad HE.out (HF3.out.trans hf4.ofNone) ⟨g, rfl, hg⟩
  case false =>
    have hnn : ¬ (bA W).toList = [] := by rw [bA_toList]; intro e; rw [e] at hWe; cases hWe
    have hnb : ((bA W).toList == []) = false := beq_eq_false_iff_ne.2 hnn
    have HN2 := Lib.hid (show namedB (s.data.toList.drop i) = markB s K2 61 by rw [HN.out, hWe]; rfl)
    clear HN hWe
    go_wp2_with fail
    refine (Mark_any c s K2 61 w3 hc3 hm).mono ?_
    rintro e w4 ⟨rfl, hc4, hf4⟩
    have hr4 := hr3.one hc3 hf4
    have hx4 := hx3.fr hf4 hxc
    have ho4 := ho3.fr hf4 (fun k hk e => hoc (by rw [hk]; exact congrArg some e))
    have hp4 : ParAt w4 P (bA W) ⟨#[]⟩ := hf4.keep hp3 hPc
    have HF4 := Lib.hid (HF3.out.trans (hf4.mono (fun k _ e => Or.inl e)))
    have q4 := hr4.cell0
    have p0 : w4.cell? ⟨P, 0, none⟩ = some (.string (bA W)) := by simp [World.cell?, show w4.heap[P]? = _ from hp4]
    clear q3 hf4 hr3 hx3 ho3 hp3 hc3
    cases hmk : markB s K2 61
    · have HE := Lib.hid (show paramR ps (s.data.toList.drop i) = .error 3 by rw [hPR.out, HN2.out, hmk]; rfl)
      rw [markTo_no hmk] at hc4
      go_wp2_with fail
      refine (fail_any b c K2 3 s v w4 hr4 hc4).mono ?_
      rintro e w5 ⟨⟨g, rfl, hg⟩, hf5⟩
      go_wp2
      go_ret
      exact ParamPost.bad HE.out (HF4.out.trans hf5.ofNone) ⟨g, rfl, hg⟩
    · rw [markTo_yes hmk] at hc4
      rw [HN2.out, hmk] at hPR
      have hk2 : K2 + 1 ≤ s.size := by
        have := (List.getElem?_eq_some_iff.1 ((markB_iff s K2 61).1 hmk)).1
        have h2 : K2 < s.size := by simpa using this
        omega
      go_wp2_with fail
      refine (Blanks_any c s (K2 + 1) w4 hc4 hm hk2).mono ?_
      rintro e w5 ⟨rfl, hc5, hf5⟩
      replace hc5 : CurAt w5 c s (blk s (K2 + 1)) := hc5
      have hk3 := blk_le hk2
      generalize blk s (K2 + 1) = K3 at *
      rw [← HV.out] at hPR
      have hr5 := hr4.one hc4 hf5
      have hx5 := hx4.fr hf5 hxc
      have ho5 := ho4.fr hf5 (fun k hk e => hoc (by rw [hk]; exact congrArg some e))
      have hp5 : ParAt w5 P (bA W) ⟨#[]⟩ := hf5.keep hp4 hPc
      have HF5 := Lib.hid (HF4.out.trans (hf5.mono (fun k _ e => Or.inl e)))
      have q5 := hr5.cell0
      clear q4 p0 hf5 hr4 hx4 ho4 hp4 hc4
      go_wp2_with fail
      refine (Word_any c s K3 w5 hc5 hm hk3).mono ?_
      rintro e w6 ⟨rfl, hc6, hf6⟩
      replace hc6 : CurAt w6 c s (wrd s K3) := hc6
      rw [show s.extract K3 (spanEnd byteB s.data.toList K3) = bA (wordR (s.data.toList.drop K3)) from wrd_text s K3]
      have hk4 := wrd_le hk3
      have HVR := Lib.hid (show valueR (s.data.toList.drop K3) = if (wordR (s.data.toList.drop K3)).isEmpty then quoteR (s.data.toList.drop K3) else some (wordR (s.data.toList.drop K3), s.data.toList.drop (wrd s K3)) by unfold valueR; rw [wrd_drop])
      have HK4 := Lib.hid (show (wordR (s.data.toList.drop K3)).isEmpty = true → wrd s K3 = K3 from fun e => by
        unfold wrd spanEnd
        have e2 : (List.takeWhile byteB (s.data.toList.drop K3)) = [] := List.isEmpty_iff.1 e
        rw [e2]; rfl)
      generalize wordR (s.data.toList.drop K3) = V at *
      generalize wrd s K3 = K4 at *
      have hr6 := hr5.one hc5 hf6
      have hx6 := hx5.fr hf6 hxc
      have ho6 := ho5.fr hf6 (fun k hk e => hoc (by rw [hk]; exact congrArg some e))
      have hp6 : ParAt w6 P (bA W) ⟨#[]⟩ := hf6.keep hp5 hPc
      have HF6 := Lib.hid (HF5.out.trans (hf6.mono (fun k _ e => Or.inl e)))
      have p1 : w6.cell? ⟨P, 1, none⟩ = some (.string ⟨#[]⟩) := by simp [World.cell?, show w6.heap[P]? = _ from hp6]
      have f1 : w6.frozen? ⟨P, 1, none⟩ = false := by simp [World.frozen?, show w6.heap[P]? = _ from hp6]
      clear q5 hf6 hr5 hx5 ho5 hp5 hc5
      go_upto_if 52 with fail
      have hpv : ∀ u : ByteArray, ParAt (w6.setCell ⟨P, 1, none⟩ (.string u)) P (bA W) u := fun u => setCell_heap hp6 1 (.string u)
      have hfv : ∀ u : Value, Fr (one P) w6 (w6.setCell ⟨P, 1, none⟩ u) := fun u => (Fr.refl (one P) w6).setCell (p := ⟨P, 1, none⟩) (fun _ => rfl) u
      have HF7 := Lib.hid (show ∀ u : Value, Fr (parS c x pv) w (w6.setCell ⟨P, 1, none⟩ u) from fun u => HF6.out.step (hfv u) (fun k hk e => by have e' : k = P := e; omega))
      have HS := Lib.hid (show ∀ u : Value, RdrAt (w6.setCell ⟨P, 1, none⟩ u) b c s v ∧ CurAt (w6.setCell ⟨P, 1, none⟩ u) c s K4 ∧ ChaAt (w6.setCell ⟨P, 1, none⟩ u) x sc tok pv ∧ OwnRows base 79 2 (w6.setCell ⟨P, 1, none⟩ u) pv (ps.map parC) from fun u =>
        ⟨hr6.fr (hfv u) (fun e => hPb (show b = P from e).symm), hc6.fr (hfv u) (fun e => hPc (show c = P from e).symm), hx6.fr (hfv u) (fun e => hPx (show x = P from e).symm), ho6.fr (hfv u) (fun k hk e => hoP (by rw [hk]; exact congrArg some e))⟩)
      go_cut [] (fun wx => ParMid base b c x P i s v ps sc tok pv W w wx)
      case first =>
        obtain ⟨hr7, hc7, hx7, ho7⟩ := HS.out (.string (bA V))
        have hp7 := hpv (bA V)
        cases hVe : V.isEmpty
        case false =>
          have hv1 : ¬ (bA V).toList = [] := by rw [bA_toList]; intro e; rw [e] at hVe; cases hVe
          have hv2 : ((bA V).toList == []) = false := beq_eq_false_iff_ne.2 hv1
          have hv3 : (bA V).toList.isEmpty = false := by rw [bA_toList]; exact hVe
          have HVR2 := Lib.hid (show valueR (s.data.toList.drop K3) = some (V, s.data.toList.drop K4) by rw [HVR.out, hVe]; rfl)
          rw [hv3]
          go_wp2_with fail
          go_meet
          refine ⟨V, K4, hk4, hc7, hp7, hr7, hx7, ho7, HF7.out _, ?_⟩
          rw [hPR.out, HVR2.out]
          rfl
        case true =>
          have hv3 : (bA V).toList.isEmpty = true := by rw [bA_toList]; exact hVe
          have hK4 := HK4.out hVe
          subst hK4
          have q7 := hr7.cell0
          have p71 : (w6.setCell ⟨P, 1, none⟩ (.string (bA V))).cell? ⟨P, 1, none⟩ = some (.string (bA V)) := by simp [World.cell?, show (w6.setCell ⟨P, 1, none⟩ (.string (bA V))).heap[P]? = _ from hp7]
          rw [hv3]
          go_wp2_with fail
          refine (Quoted_any c s K4 _ hc7 (by omega)).mono ?_
          intro e w8 hq
          have HQA := Lib.hid (quoted_at s.data.toList K4)
          cases hqr : quoteR (s.data.toList.drop K4) with
          | none =>
            have hqa : quotedAt s.data.toList K4 = none := by rw [HQA.out, hqr]; rfl
            obtain ⟨rfl, hc8, hf8⟩ := hq.isNone hqa
            have HVR2 := Lib.hid (show valueR (s.data.toList.drop K4) = none by rw [HVR.out, hVe]; exact hqr)
            have hr8 := hr7.one hc7 hf8
            have hp8 : ParAt w8 P (bA W) (bA V) := hf8.keep hp7 hPc
            have HF8 := Lib.hid ((HF7.out (.string (bA V))).trans (hf8.mono (fun k _ e => Or.inl e)))
            have hfv8 : Fr (one P) w8 (w8.setCell ⟨P, 1, none⟩ (.string ⟨#[]⟩)) := (Fr.refl (one P) w8).setCell (p := ⟨P, 1, none⟩) (fun _ => rfl) _
            have hr9 := hr8.fr hfv8 (fun e => hPb (show b = P from e).symm)
            have hc9 := hc8.fr hfv8 (fun e => hPc (show c = P from e).symm)
            have HF9 := Lib.hid (show Fr (parS c x pv) w (w8.setCell ⟨P, 1, none⟩ (.string ⟨#[]⟩)) from HF8.out.step hfv8 (fun k hk e => by have e' : k = P := e; omega))
            have q8 := hr8.cell0
            have q9 := hr9.cell0
            have p8 : w8.cell? ⟨P, 1, none⟩ = some (.string (bA V)) := by simp [World.cell?, show w8.heap[P]? = _ from hp8]
            have f8 : w8.frozen? ⟨P, 1, none⟩ = false := by simp [World.frozen?, show w8.heap[P]? = _ from hp8]
            clear q7 p71 hq hf8 hfv8
            go_wp2_with fail
            refine (fail_any b c K4 3 s v _ hr9 hc9).mono ?_
            rintro e w10 ⟨⟨g, rfl, hg⟩, hf10⟩
            go_wp2
            go_ret
            exact ParamPost.bad (by rw [hPR.out, HVR2.out]; rfl) (HF9.out.trans hf10.ofNone) ⟨g, rfl, hg⟩
          | some q =>
            obtain ⟨a, z⟩ := q
            have hqa : quotedAt s.data.toList K4 = some (a, s.data.toList.length - z.length) := by rw [HQA.out, hqr]; rfl
            obtain ⟨rfl, hc8, hf8⟩ := hq.isOk hqa
            have HVR2 := Lib.hid (show valueR (s.data.toList.drop K4) = some (a, z) by rw [HVR.out, hVe]; exact hqr)
            have hzd := Lib.hid (quoteR_drop hqr)
            have hr8 := hr7.one hc7 hf8
            have hx8 := hx7.fr hf8 hxc
            have ho8 := ho7.fr hf8 (fun k hk e => hoc (by rw [hk]; exact congrArg some e))
            have hp8 : ParAt w8 P (bA W) (bA V) := hf8.keep hp7 hPc
            have HF8 := Lib.hid ((HF7.out (.string (bA V))).trans (hf8.mono (fun k _ e => Or.inl e)))
            have hfv8 : Fr (one P) w8 (w8.setCell ⟨P, 1, none⟩ (.string (bA a))) := (Fr.refl (one P) w8).setCell (p := ⟨P, 1, none⟩) (fun _ => rfl) _
            have hr9 := hr8.fr hfv8 (fun e => hPb (show b = P from e).symm)
            have hc9 := hc8.fr hfv8 (fun e => hPc (show c = P from e).symm)
            have hx9 := hx8.fr hfv8 (fun e => hPx (show x = P from e).symm)
            have ho9 := ho8.fr hfv8 (fun k hk e => hoP (by rw [hk]; exact congrArg some e))
            have hp9 : ParAt (w8.setCell ⟨P, 1, none⟩ (.string (bA a))) P (bA W) (bA a) := setCell_heap hp8 1 (.string (bA a))
            have HF9 := Lib.hid (show Fr (parS c x pv) w (w8.setCell ⟨P, 1, none⟩ (.string (bA a))) from HF8.out.step hfv8 (fun k hk e => by have e' : k = P := e; omega))
            have p8 : w8.cell? ⟨P, 1, none⟩ = some (.string (bA V)) := by simp [World.cell?, show w8.heap[P]? = _ from hp8]
            have f8 : w8.frozen? ⟨P, 1, none⟩ = false := by simp [World.frozen?, show w8.heap[P]? = _ from hp8]
            clear q7 p71 hq hf8 hfv8
            go_wp2_with fail
            go_meet
            refine ⟨a, _, ?_, hc9, hp9, hr9, hx9, ho9, HF9.out, ?_⟩
            · simp
            · rw [hPR.out, HVR2.out, show s.data.toList.drop (s.data.toList.length - z.length) = z from hzd.out]
              rfl
      case rest =>
      obtain ⟨val, j, hj, hc7, hp7, hr7, hx7, ho7, hf7, hpr⟩ := hcut
      have HPR := Lib.hid hpr
      have HF7' := Lib.hid hf7
      clear hPR hpr hf7 HVR HK4 hpv hfv HF7 HS hr6 hx6 ho6 hp6 hc6 p1 f1
      have hsw : w.heap.size ≤ wc.heap.size := HF7'.out.size
      have hbase : base ≤ wc.heap.size := Nat.le_trans hb hsw
      have hol := ho7.form
      obtain ⟨av, cv, hpvv⟩ := hol
      rw [List.length_map] at hpvv
      subst hpvv
      have hrow := ho7.at
      have x2 := hx7.cell2
      have xf2 := hx7.free 2
      have p0 : wc.cell? ⟨P, 0, none⟩ = some (.string (bA W)) := by simp [World.cell?, show wc.heap[P]? = _ from hp7]
      have p1 : wc.cell? ⟨P, 1, none⟩ = some (.string (bA val)) := by simp [World.cell?, show wc.heap[P]? = _ from hp7]
      have HPA := Lib.hid (show ∀ U, Fr noB wc U → U.cell? ⟨P, 0, none⟩ = some (.string (bA W)) ∧ U.cell? ⟨P, 1, none⟩ = some (.string (bA val)) ∧ U.cell? ⟨x, 2, none⟩ = some (.slice av ps.length cv) ∧ U.frozen? ⟨x, 2, none⟩ = false from fun U hU => by
        have j1 := hU.keep hp7 (fun h => h)
        have j2 := hx7.fr hU (fun h => h)
        exact ⟨by simp [World.cell?, j1], by simp [World.cell?, j1], j2.cell2, j2.free 2⟩)
      go_wp2_with fail
      go_loopw [71] (PaRel ps W wc) (fun t _ => ps.length - (intOf t).toNat)
      case atStart => exact ⟨0, Nat.zero_le _, rfl, rfl, Fr.refl _ _⟩
      case round =>
        obtain ⟨k, hkl, rfl, hn, hfr⟩ := hrel
        have HN := Lib.hid hn
        clear hn p0 p1 x2 xf2
        obtain ⟨p0, p1, x2, xf2⟩ := HPA.out wr hfr
        by_cases hks : k < ps.length
        · have hki : (k : Int) < (ps.length : Int) := by omega
          have hat := Lib.hid (List.getElem?_eq_getElem hks)
          have hzk := hz _ (List.getElem_mem hks)
          generalize ps[k] = q at hat hzk
          obtain ⟨nm, vl⟩ := q
          rcases (RowsAt.frNone hrow hfr).2 with ⟨_, _, _, e, _⟩ | ⟨bk, of, c', hf1, h1, h2, h3, h4⟩
          · have : ps.length = 0 := by have := congrArg List.length e; simpa using this
            omega
          rw [List.length_map] at hf1 h1
          cases hf1
          unfold maxLen at h2
          have hcell := h4 k (parC (nm, vl)) (by rw [List.getElem?_map, hat.out]; rfl)
          have c0 : wr.cell? ⟨bk, of + k * 2, none⟩ = some (.string (bA nm)) := hcell 0 _ rfl
          have c1 : wr.cell? ⟨bk, of + k * 2 + 1, none⟩ = some (.string (bA vl)) := hcell 1 _ rfl
          clear hcell h4
          obtain ⟨wb, hwb⟩ : ∃ wb, wb = wr.alloc (.cells #[.string (bA nm), .string (bA vl)] 79) := ⟨_, rfl⟩
          have hfb : Fr noB wr wb := by rw [hwb]; exact (Fr.refl noB wr).alloc _
          have p0a : ∀ o : Obj, (wr.alloc o).cell? ⟨P, 0, none⟩ = some (.string (bA W)) := fun o => (HPA.out _ (hfr.alloc o)).1
          have HWB := Lib.hid hwb
          have HFB := Lib.hid (hfr.trans hfb)
          clear hwb hfb
          go_wp2_with fail
          rw [← HWB.out]
          refine (Same_any (bA nm) (bA W) wb (by rw [bA_size]; have hzk' : nm.length < 100000 := hzk; omega) (by rw [bA_size]; omega)).mono ?_
          rintro e w8 ⟨rfl, hf8⟩
          rw [bA_data, bA_data]
          have HF8 := Lib.hid (HFB.out.trans hf8)
          cases hsm : sameL nm W
          · have hnx := Lib.hid (show (ps.take (k + 1)).any (fun q => sameL q.1 W) = false from any_take_succP hat.out HN.out hsm)
            go_wp2
            go_roundw
            case rel => exact ⟨k + 1, by omega, by go_num, hnx.out, HF8.out⟩
            case measure => simp [intOf]; omega
          · have HE := Lib.hid (show paramR ps (s.data.toList.drop i) = .error 9 by rw [HPR.out, if_pos (twice_of hat.out hsm)])
            go_wp2
            go_ret
            exact ParamPost.bad HE.out ((HF7'.out.trans HF8.out.ofNone).alloc _) (AtErr.new 9 i w8)
        · have hki : ¬ (k : Int) < (ps.length : Int) := by omega
          have HT := Lib.hid (show twiceB ps W = false by have h := HN.out; rw [List.take_of_length_le (by omega)] at h; exact h)
          rw [HT.out] at HPR
          by_cases h16 : ps.length = 16
          · have h16' : ((ps.length : Int) == 16) = true := by rw [h16]; rfl
            have HE := Lib.hid (show paramR ps (s.data.toList.drop i) = .error 4 by rw [HPR.out, if_pos h16]; rfl)
            clear h16
            go_wp2
            go_ret
            exact ParamPost.bad HE.out ((HF7'.out.trans hfr.ofNone).alloc _) (AtErr.new 4 i wr)
          · have h16' : ((ps.length : Int) == 16) = false := beq_eq_false_iff_ne.2 (by omega)
            have HE := Lib.hid (show paramR ps (s.data.toList.drop i) = .ok ((W, val), s.data.toList.drop j) by rw [HPR.out, if_neg h16]; rfl)
            have hF0 := HF7'.out.trans (hfr.ofNone (S := parS c x (.slice av ps.length cv)))
            have hcr := hc7.fr hfr (fun h => h)
            have hxr := hx7.fr hfr (fun h => h)
            have hor := ho7.fr hfr (fun _ _ h => h)
            have hbr : base ≤ wr.heap.size := Nat.le_trans hbase hfr.size
            have hown : wr.ownsRow base 79 2 (.slice av ps.length cv) ps.length (ps.map parC).flatten := by
              have hh := hor.2
              rw [List.length_map] at hh
              exact hh
            have hPl : P < wr.heap.size := Nat.lt_of_lt_of_le (lt_of_some hp7) hfr.size
            have hxl : x < wr.heap.size := hxr.lt
            have hcl : c < wr.heap.size := hcr.lt
            obtain ⟨i0, hi0, hz0, hz1, hz2⟩ := info_parts info_par
            have HONE := Lib.hid (show ∀ u ∈ parC (W, val), u.oneCell' = true from par_one _)
            have hps : ps.length < 16 := by omega
            clear h16' hrow hz HN
            go_wp2_with fail
            go_region_law ((with_reducible refine step_at ⟨some 102, _, _, _, _, _⟩ ?_)
                           refine step_append_lies _ (by rfl) _ _ _ (by rfl) base 79 i0 _ 2 32 Tryz.underlying36 hi0 hz0 hz1 hz2 rfl (by omega) (.slice av ps.length cv) ps.length _ (by rfl) (by repeat (first | exact hown | apply World.ownsRow.alloc | apply World.ownsRow.drew)) ⟨wr.heap.size, 0, none⟩ 1 1 (parC (W, val)) (by rfl) (by rfl) (new_cells wr (parC (W, val)) _) HONE.out (by omega) (by unfold maxLen; omega) (by omega) (by simp; omega) (wr.heap.size + 1) (by simp) ?_
                           intro gg cap w5 hown6 hgrow hatg hlt5
                           have HF45 : Fr (fun k => (Value.slice av ps.length cv).ownBlock = some k) wr w5 := Fr.grown (by repeat (first | exact Fr.refl _ _ | apply Fr.drew | apply Fr.alloc)) hgrow (fun _ hk _ => hk)
                           have k4 : w5.cell? ⟨x, 2, none⟩ = some (.slice av ps.length cv) := (HF45.cell (p := ⟨x, 2, none⟩) hxl hox).trans x2
                           have e4 : w5.frozen? ⟨x, 2, none⟩ = false := (HF45.frozen (p := ⟨x, 2, none⟩) hxl hox).trans xf2)
            all_goals
              have hx5 : ChaAt w5 x sc tok (.slice av ps.length cv) := hxr.fr HF45 hox
              have hc5 : CurAt w5 c s j := hcr.fr HF45 hoc
              have hfx : Fr (one x) w5 (w5.setCell ⟨x, 2, none⟩ (.slice (some ⟨gg, 0, none⟩) (ps.length + 1) cap)) := (Fr.refl (one x) w5).setCell (p := ⟨x, 2, none⟩) (fun _ => rfl) _
              have hx6 : ChaAt (w5.setCell ⟨x, 2, none⟩ (.slice (some ⟨gg, 0, none⟩) (ps.length + 1) cap)) x sc tok (.slice (some ⟨gg, 0, none⟩) (ps.length + 1) cap) := setCell_heap hx5 2 _
              have hc6 := hc5.fr hfx (fun e => hxc (show c = x from e).symm)
              have hgx : gg ≠ x := by
                rintro rfl
                rcases hatg with e | e
                · exact hox e
                · omega
              have ho5 : OwnRows base 79 2 w5 (.slice (some ⟨gg, 0, none⟩) (ps.length + 1) cap) ((ps ++ [(W, val)]).map parC) := by
                refine ⟨par_rows _, ?_⟩
                have e1 : ((ps ++ [(W, val)]).map parC).length = ps.length + 1 := by simp
                have e2 : ((ps ++ [(W, val)]).map parC).flatten = (ps.map parC).flatten ++ parC (W, val) := by simp
                rw [e1, e2]; exact hown6
              have ho6 := ho5.fr hfx (fun k hk e => hgx (by
                simp only [Value.ownBlock, Option.some.injEq] at hk
                rw [hk]; exact e))
              have HFF := Lib.hid (show Fr (parS c x (.slice av ps.length cv)) w (w5.setCell ⟨x, 2, none⟩ (.slice (some ⟨gg, 0, none⟩) (ps.length + 1) cap)) from
                (hF0.trans (HF45.mono (fun k _ e => Or.inr (Or.inr e)))).trans (hfx.mono (fun k _ e => Or.inr (Or.inl e))))
              clear k4 e4 hgrow hown6 hown HF45
              go_wp2
              go_ret
              refine ⟨HFF.out, ?_⟩
              rw [HE.out]
              exact ⟨rfl, j, _, hj, hc6, rfl, hx6, ho6⟩
end Go.Proofs.YtkoobhgedoanhaaGreatDoor

namespace Go.Proofs.YtkoobhgedoanhaaGreatDoor
open Go.RowKit

/-- a block that nothing writes: of the caller's (below base), or one of strings -/
def Still (base : Nat) (w : World) (k : Nat) : Prop := k < base ∨ ∃ c f, w.heap[k]? = some (.cells c 9 f)
/-- blocks of S are the call's own, and none is one of strings -/
def Off (base : Nat) (w : World) (S : Nat → Prop) : Prop := ∀ k, S k → k < w.heap.size → base ≤ k ∧ ∀ c f, w.heap[k]? ≠ some (.cells c 9 f)
theorem Off.none (base : Nat) (w : World) : Off base w noB := fun _ h => absurd h (fun h => h)
theorem Still.fr {base : Nat} {w w' : World} {k : Nat} {S : Nat → Prop} (h : Still base w k) (hf : Fr S w w') (ho : Off base w S) : Still base w' k := by
  rcases h with h | ⟨c, f, h⟩
  · exact Or.inl h
  · exact Or.inr ⟨c, f, hf.keep h (fun hs => (ho k hs (lt_of_some h)).2 c f h)⟩
/-- v reads as ss, few of them, and stays so -/
structure StrsIn (base : Nat) (w : World) (v : Value) (ss : List ByteArray) : Prop where
  rd : StrsAt w v ss
  own : ∀ k, v.ownBlock = some k → ss ≠ [] → k < w.heap.size ∧ Still base w k
  few : ss.length < 4398046511104
theorem StrsAt.empty {w w' : World} {v : Value} (h : StrsAt w v []) : StrsAt w' v [] := by
  rcases h with h | ⟨bk, o, c, hv, _⟩
  · exact Or.inl h
  · exact Or.inl ⟨_, _, hv, rfl, fun e => by cases e⟩
theorem StrsIn.fr {base : Nat} {w w' : World} {v : Value} {ss : List ByteArray} {S : Nat → Prop} (h : StrsIn base w v ss) (hf : Fr S w w') (ho : Off base w S) : StrsIn base w' v ss := by
  refine ⟨?_, fun k hk hs => ⟨Nat.lt_of_lt_of_le (h.own k hk hs).1 hf.size, (h.own k hk hs).2.fr hf ho⟩, h.few⟩
  by_cases he : ss = []
  · subst he; exact h.rd.empty
  refine h.rd.fr hf (fun k hk hs => ?_)
  obtain ⟨hl, hst⟩ := h.own k hk he
  have hk2 := ho k hs hl
  rcases hst with g | ⟨c, f, g⟩
  · omega
  · exact hk2.2 c f g
theorem StrsIn.frN {base : Nat} {w w' : World} {v : Value} {ss : List ByteArray} (h : StrsIn base w v ss) (hf : Fr noB w w') : StrsIn base w' v ss := h.fr hf (Off.none _ _)
theorem StrsIn.nil (base : Nat) (w : World) : StrsIn base w (.slice none 0 0) [] := ⟨StrsAt.nil w, fun k hk => by simp [Value.ownBlock] at hk, by simp⟩
theorem Strs.in {base b : Nat} {w : World} {v : Value} {ss : List ByteArray} (h : Strs b w v ss) (hl : ss.length < 4398046511104) : StrsIn base w v ss := by
  refine ⟨h.at, fun k hk _ => ?_, hl⟩
  rcases h.2 with ⟨hv, _⟩ | ⟨g, cap, cur, hv, hg, hh, _⟩
  · rw [hv] at hk; simp [Value.ownBlock] at hk
  · rw [hv] at hk; simp [Value.ownBlock] at hk; subst hk
    exact ⟨lt_of_some hh, Or.inr ⟨_, _, hh⟩⟩

/-- both lists, one by one -/
inductive Both {α β : Type} (R : α → β → Prop) : List α → List β → Prop
  | nil : Both R [] []
  | cons {a b l m} : R a b → Both R l m → Both R (a :: l) (b :: m)
namespace Both
variable {α β : Type} {R T : α → β → Prop} {l l' : List α} {m m' : List β}
theorem len (h : Both R l m) : l.length = m.length := by induction h with
  | nil => rfl
  | cons _ _ ih => simp [ih]
theorem mono (h : Both R l m) (hs : ∀ a b, R a b → T a b) : Both T l m := by induction h with
  | nil => exact .nil
  | cons h _ ih => exact .cons (hs _ _ h) ih
theorem get (h : Both R l m) {i : Nat} {a : α} (hi : l[i]? = some a) : ∃ b, m[i]? = some b ∧ R a b := by
  induction h generalizing i with
  | nil => simp at hi
  | cons h _ ih =>
    cases i with
    | zero => simp at hi; subst hi; exact ⟨_, rfl, h⟩
    | succ i => simpa using ih (by simpa using hi)
theorem app (h : Both R l m) (h' : Both R l' m') : Both R (l ++ l') (m ++ m') := by induction h with
  | nil => exact h'
  | cons h _ ih => exact .cons h ih
theorem take (h : Both R l m) (n : Nat) : Both R (l.take n) (m.take n) := by
  induction h generalizing n with
  | nil => simp; exact .nil
  | cons h _ ih => cases n with
    | zero => exact .nil
    | succ n => exact .cons h (ih n)
theorem drop (h : Both R l m) (n : Nat) : Both R (l.drop n) (m.drop n) := by
  induction h generalizing n with
  | nil => simp; exact .nil
  | cons h t ih => cases n with
    | zero => exact .cons h t
    | succ n => exact ih n
theorem filter (h : Both R l m) {p : α → Bool} {q : β → Bool} (hpq : ∀ a b, R a b → p a = q b) : Both R (l.filter p) (m.filter q) := by
  induction h with
  | nil => exact .nil
  | cons h _ ih =>
    rw [List.filter_cons, List.filter_cons, hpq _ _ h]
    split
    · exact .cons h ih
    · exact ih
theorem memL (h : Both R l m) {a : α} (ha : a ∈ l) : ∃ b, b ∈ m ∧ R a b := by
  obtain ⟨i, hi⟩ := List.getElem?_of_mem ha
  obtain ⟨b, hb, hr⟩ := h.get hi
  exact ⟨b, List.mem_of_getElem? hb, hr⟩
end Both

theorem Fr.setRow {S : Nat → Prop} {a w : World} (h : Fr S a w) {g : Nat} (hg : g < a.heap.size → S g) (cs : Array Value) : Fr S a (w.setRow g cs) :=
  ⟨h.os, h.tape, h.output, by simpa [World.setRow] using h.size, fun k hk hn => by
    rw [← h.block k hk hn]
    simp only [World.setRow, Array.getElem?_modify]
    by_cases e : g = k
    · subst e; exact absurd (hg hk) hn
    · simp [e]⟩
theorem setRow_other {w : World} {g k : Nat} (h : k ≠ g) (cs : Array Value) : (w.setRow g cs).heap[k]? = w.heap[k]? := by
  simp only [World.setRow, Array.getElem?_modify]
  simp [Ne.symm h]
/-- the block of a row whose elements are no strings -/
def own (v : Value) : Nat → Prop := fun k => v.ownBlock = some k
theorem OwnRows.off {base b k : Nat} {e : TypeId} {w : World} {v : Value} {xs : List (List Value)} (h : OwnRows b e k w v xs) (hb : base ≤ b) (he : e ≠ 9) : Off base w (own v) := by
  intro g hg _
  obtain ⟨cap, cur, _, h1, h2, _⟩ := h.open hg
  exact ⟨Nat.le_trans hb h1, fun c f e2 => by rw [h2] at e2; cases e2; exact he rfl⟩
/-- behind an append: new blocks, and the row's own -/
theorem Fr.ofGrown {w w' : World} {v : Value} (o : Obj) (h : (w.alloc o).grownBy w' v.ownBlock) : Fr (own v) w w' :=
  ((Fr.refl (own v) w).alloc o).grown h (fun _ hk _ => hk)
end Go.Proofs.YtkoobhgedoanhaaGreatDoor

namespace Go.Proofs.YtkoobhgedoanhaaGreatDoor
open Go.RowKit

/-- a challenge that can be told: a word, then a token, or parameters of unlike names -/
def tokenOk (t : Bs) : Prop := ∃ n m : Bs, t = n ++ m ∧ n ≠ [] ∧ n.all tokB = true ∧ m.all eqB = true
def parOk (p : Par) : Prop := isL p.1 = true ∧ valueOk p.2 = true
def unlike : List Par → Prop
  | [] => True
  | p :: ps => twiceB ps p.1 = false ∧ unlike ps
structure Cha.Ok (x : Cha) : Prop where
  scheme : isL x.scheme = true
  token : x.token = [] ∨ (x.params = [] ∧ tokenOk x.token)
  few : x.params.length ≤ 16
  pars : ∀ p ∈ x.params, parOk p
  apart : ∀ (i j : Nat) p q, i < j → x.params[i]? = some p → x.params[j]? = some q → sameL p.1 q.1 = false

/-! what is read can be told -/
theorem taken (p : UInt8 → Bool) : ∀ l : Bs, (l.takeWhile p).all p = true
  | [] => rfl
  | c :: l => by
    cases h : p c
    · rw [List.takeWhile_cons_of_neg (by simp [h])]; rfl
    · rw [List.takeWhile_cons_of_pos h, List.all_cons, h, taken p l]; rfl
theorem isL_word {r : Bs} (h : (wordR r).isEmpty = false) : isL (wordR r) = true := by
  unfold isL
  rw [h]
  have : (wordR r).all byteB = true := taken byteB r
  rw [this]; rfl
theorem qgo_text : ∀ (f : Nat) (r a z : Bs), r.length ≤ f → qgo r = some (a, z) → a.all textB = true
  | 0, r, a, z, hf, h => by
    have : r = [] := List.eq_nil_of_length_eq_zero (by omega)
    subst this; rw [qgo.eq_def] at h; simp at h
  | f + 1, [], a, z, hf, h => by rw [qgo.eq_def] at h; simp at h
  | f + 1, x :: r, a, z, hf, h => by
    rw [qgo.eq_def] at h
    simp only at h
    by_cases h1 : (x == 34) = true
    · rw [if_pos h1] at h; cases h; rfl
    · rw [if_neg h1] at h
      by_cases h2 : (x == 92) = true
      · rw [if_pos h2] at h
        cases r with
        | nil => simp at h
        | cons y r' =>
          simp only at h
          by_cases h3 : textB y = true
          · rw [if_pos h3] at h
            cases hq : qgo r' with
            | none => rw [hq] at h; simp at h
            | some p =>
              rw [hq] at h; simp at h
              obtain ⟨rfl, rfl⟩ := h
              have := qgo_text f r' p.1 p.2 (by simp at hf; omega) hq
              rw [List.all_cons, h3, this]; rfl
          · rw [if_neg h3] at h; simp at h
      · rw [if_neg h2] at h
        by_cases h3 : textB x = true
        · rw [if_pos h3] at h
          cases hq : qgo r with
          | none => rw [hq] at h; simp at h
          | some p =>
            rw [hq] at h; simp at h
            obtain ⟨rfl, rfl⟩ := h
            have := qgo_text f r p.1 p.2 (by simp at hf; omega) hq
            rw [List.all_cons, h3, this]; rfl
        · rw [if_neg h3] at h; simp at h
theorem valueR_ok {r a z : Bs} (h : valueR r = some (a, z)) : valueOk a = true := by
  unfold valueR at h
  unfold valueOk
  split at h
  · cases r with
    | nil => cases h
    | cons c t =>
      have h' : (if c == 34 then qgo t else none) = some (a, z) := h
      by_cases hc : (c == 34) = true
      · rw [if_pos hc] at h'
        have := qgo_text _ t a z (Nat.le_refl _) h'
        rw [show textL a = true from this, Bool.or_true]
      · rw [if_neg hc] at h'; cases h'
  · rename_i hw
    cases h
    rw [isL_word (by simpa using hw)]; rfl
theorem paramR_ok {ps : List Par} {r : Bs} {p : Par} {z : Bs} (h : paramR ps r = .ok (p, z)) : parOk p ∧ twiceB ps p.1 = false ∧ ps.length ≠ 16 := by
  unfold paramR at h
  by_cases hn : namedB r = true
  · rw [if_neg (by simp [hn])] at h
    cases hv : valueR (valueAt r) with
    | none => rw [hv] at h; cases h
    | some q =>
      rw [hv] at h
      simp only at h
      split at h
      · cases h
      rename_i ht
      split at h
      · cases h
      rename_i hk
      cases h
      exact ⟨⟨isL_word (namedB_word hn), valueR_ok (a := q.1) (z := q.2) hv⟩, by simpa using ht, hk⟩
  · rw [if_pos (by simpa using hn)] at h; cases h
/-- parameters that can be told -/
structure ParsOk (ps : List Par) : Prop where
  few : ps.length ≤ 16
  pars : ∀ p ∈ ps, parOk p
  apart : ∀ (i j : Nat) p q, i < j → ps[i]? = some p → ps[j]? = some q → sameL p.1 q.1 = false
theorem ParsOk.nil : ParsOk [] := ⟨by simp, by simp, by simp⟩
theorem ParsOk.snoc {ps : List Par} {p : Par} (h : ParsOk ps) (hp : parOk p) (ht : twiceB ps p.1 = false) (hl : ps.length ≠ 16) : ParsOk (ps ++ [p]) := by
  refine ⟨?_, ?_, ?_⟩
  · have := h.few; simp; omega
  · intro q hq
    rcases List.mem_append.1 hq with g | g
    · exact h.pars q g
    · simp at g; subst g; exact hp
  · intro i j q q' hij hi hj
    have hj' := (List.getElem?_eq_some_iff.1 hj).1
    simp at hj'
    by_cases hjl : j < ps.length
    · rw [List.getElem?_append_left hjl] at hj
      rw [List.getElem?_append_left (by omega)] at hi
      exact h.apart i j q q' hij hi hj
    · have e : j = ps.length := by omega
      subst e
      rw [List.getElem?_append_left (by omega)] at hi
      simp at hj; subst hj
      unfold twiceB at ht
      rw [List.any_eq_false] at ht
      simpa using ht q (List.mem_of_getElem? hi)
theorem paramsN_ok : ∀ (f : Nat) (ps : List Par) (r : Bs) (q : List Par × Bs), ParsOk ps → paramsN f ps r = .ok q → ParsOk q.1
  | 0, ps, r, q, ho, h => by rw [paramsN] at h; cases h; exact ho
  | f + 1, ps, r, q, ho, h => by
    rw [paramsN] at h
    cases hp : paramR ps r with
    | error e => rw [hp] at h; cases h
    | ok p =>
      rw [hp] at h
      obtain ⟨p, r1⟩ := p
      obtain ⟨h1, h2, h3⟩ := paramR_ok hp
      have ho' := ho.snoc h1 h2 h3
      simp only at h
      split at h
      · split at h
        · exact paramsN_ok f _ _ q ho' h
        · cases h; exact ho'
      · cases h
theorem singleR_ok {r t z : Bs} (h : singleR r = some (t, z)) : tokenOk t := by
  unfold singleR at h
  split at h
  · rename_i hc
    cases h
    simp only [Bool.and_eq_true, Bool.not_eq_true'] at hc
    refine ⟨_, _, rfl, fun e => ?_, ?_, ?_⟩
    · rw [e] at hc; cases hc.1
    · exact taken tokB r
    · exact taken eqB _
  · cases h
theorem oneR_ok {k : Nat} {r : Bs} {x : Cha} {z : Bs} (h : oneR k r = .ok (x, z)) : x.Ok ∧ k ≠ 8 := by
  unfold oneR at h
  split at h
  · cases h
  rename_i hw
  have hw' := isL_word (show (wordR r).isEmpty = false by simpa using hw)
  split at h
  · cases h
  rename_i hk
  refine ⟨?_, hk⟩
  split at h
  · cases h; exact ⟨hw', Or.inl rfl, by simp, by simp, by simp⟩
  split at h
  · cases h
  split at h
  · rename_i q hq
    cases h
    exact ⟨hw', Or.inr ⟨rfl, singleR_ok (t := q.1) (z := q.2) hq⟩, by simp, by simp, by simp⟩
  · split at h
    · cases h
    · rename_i q hq
      cases h
      have := paramsN_ok _ _ _ _ ParsOk.nil hq
      exact ⟨hw', Or.inl rfl, this.few, this.pars, this.apart⟩
theorem parseN_ok : ∀ (f : Nat) (acc : List Cha) (r : Bs) (l : List Cha), (∀ x ∈ acc, x.Ok) → acc.length ≤ 8 → parseN f acc r = .ok l → (∀ x ∈ l, x.Ok) ∧ l.length ≤ 8
  | 0, acc, r, l, ha, hl, h => by rw [parseN] at h; cases h; exact ⟨ha, hl⟩
  | f + 1, acc, r, l, ha, hl, h => by
    rw [parseN] at h
    split at h
    · cases h; exact ⟨ha, hl⟩
    · cases ho : oneR acc.length (gapsR r) with
      | error e => rw [ho] at h; cases h
      | ok q =>
        obtain ⟨x, r1⟩ := q
        rw [ho] at h
        obtain ⟨h1, h2⟩ := oneR_ok ho
        simp only at h
        refine parseN_ok f _ r1 l ?_ ?_ h
        · intro y hy
          rcases List.mem_append.1 hy with g | g
          · exact ha y g
          · simp at g; subst g; exact h1
        · simp; omega
theorem chasL_ok {r : Bs} {l : List Cha} (h : chasL r = .ok l) : (∀ x ∈ l, x.Ok) ∧ l.length ≤ 8 := by
  unfold chasL at h
  split at h
  · cases h
  · exact parseN_ok _ _ _ _ (by simp) (by simp) h

/-! what is told so is read so -/
/-- a text that stands for a value -/
def Tells (v x : Bs) : Prop := (isL v = true ∧ x = v) ∨ (textL v = true ∧ x = quoteL v)
theorem tells_value {v : Bs} (h : valueOk v = true) : Tells v (valueL v) := by
  unfold valueOk at h
  unfold valueL
  cases h1 : isL v
  · rw [h1] at h; exact Or.inr ⟨by simpa using h, rfl⟩
  · exact Or.inl ⟨h1, rfl⟩
/-- a parameter as a text -/
def parT (p : Par) (x : Bs) : Bs := p.1 ++ 61 :: x
def noWord (t : Bs) : Prop := ∀ c, t.head? = some c → byteB c = false
theorem byte_not {c : UInt8} (h : byteB c = true) : c ≠ 44 ∧ c ≠ 61 ∧ c ≠ 34 ∧ c ≠ 32 ∧ blankB c = false := by
  refine ⟨?_, ?_, ?_, ?_, byte_blank h⟩ <;> intro e <;> subst e <;> revert h <;> decide
theorem wordR_app {w t : Bs} (h : isL w = true) (ht : noWord t) : wordR (w ++ t) = w ∧ afterW (w ++ t) = t :=
  ⟨takeW (isL_parts h).1 ht, dropW (isL_parts h).1 ht⟩
theorem blanksR_not {c : UInt8} {t : Bs} (h : blankB c = false) : blanksR (c :: t) = c :: t := by
  unfold blanksR; rw [List.dropWhile_cons_of_neg (by simp [h])]
theorem blanksR_yes {c : UInt8} {t : Bs} (h : blankB c = true) : blanksR (c :: t) = blanksR t := by
  unfold blanksR; rw [List.dropWhile_cons_of_pos h]
theorem tells_head {v x t : Bs} (h : Tells v x) : ∃ c y, x ++ t = c :: y ∧ (byteB c = true ∨ c = 34) := by
  rcases h with ⟨h, rfl⟩ | ⟨h, rfl⟩
  · obtain ⟨h1, c, w, rfl⟩ := isL_parts h
    exact ⟨c, w ++ t, rfl, Or.inl (by simp at h1; exact h1.1)⟩
  · exact ⟨34, _, rfl, Or.inr rfl⟩
theorem head_not {c : UInt8} (h : byteB c = true ∨ c = 34) : c ≠ 44 ∧ c ≠ 61 ∧ blankB c = false := by
  rcases h with h | rfl
  · have := byte_not h; exact ⟨this.1, this.2.1, this.2.2.2.2⟩
  · decide
theorem valueR_tells {v x t : Bs} (h : Tells v x) (ht : noWord t) : valueR (x ++ t) = some (v, t) := by
  rcases h with ⟨h, rfl⟩ | ⟨h, rfl⟩
  · obtain ⟨e1, e2⟩ := wordR_app h ht
    unfold valueR
    rw [e1, e2]
    obtain ⟨_, c, w, rfl⟩ := isL_parts h
    rfl
  · have e : quoteL v ++ t = 34 :: (escL v ++ 34 :: t) := by simp [quoteL]
    unfold valueR
    rw [e]
    have : wordR (34 :: (escL v ++ 34 :: t)) = [] := by unfold wordR; rw [List.takeWhile_cons_of_neg (by decide)]
    rw [this]
    show (if (34 : UInt8) == 34 then qgo (escL v ++ 34 :: t) else none) = _
    rw [if_pos (show ((34 : UInt8) == 34) = true from rfl), qgo_esc v t h]
theorem noWord_eq (t : Bs) : noWord (61 :: t) := by intro c hc; simp at hc; subst hc; decide
theorem named_par {p : Par} {x t : Bs} (h : isL p.1 = true) : namedB (parT p x ++ t) = true := by
  have e : parT p x ++ t = p.1 ++ 61 :: (x ++ t) := by simp [parT]
  rw [e]
  obtain ⟨e1, e2⟩ := wordR_app h (noWord_eq (x ++ t))
  unfold namedB
  rw [e1, e2, blanksR_not (by decide)]
  obtain ⟨_, c, w, hw⟩ := isL_parts h
  rw [hw]; rfl
theorem paramR_par {ps : List Par} {p : Par} {x t : Bs} (h : isL p.1 = true) (hx : Tells p.2 x) (ht : noWord t) (h2 : twiceB ps p.1 = false) (h3 : ps.length ≠ 16) : paramR ps (parT p x ++ t) = .ok (p, t) := by
  have hn := named_par (t := t) (x := x) h
  have e : parT p x ++ t = p.1 ++ 61 :: (x ++ t) := by simp [parT]
  rw [e] at hn ⊢
  obtain ⟨e1, e2⟩ := wordR_app h (noWord_eq (x ++ t))
  obtain ⟨c, y, ec, hc⟩ := tells_head (t := t) hx
  have ev : valueAt (p.1 ++ 61 :: (x ++ t)) = x ++ t := by
    unfold valueAt
    rw [e2, blanksR_not (by decide), List.drop_succ_cons, List.drop_zero, ec, blanksR_not (head_not hc).2.2]
  unfold paramR
  rw [hn, ev, valueR_tells hx ht, e1, h2]
  simp only [Bool.not_true, Bool.false_eq_true, if_false]
  rw [if_neg h3]
/-- parameters as a text: commas and blanks between -/
def parsT : List (Par × Bs) → Bs
  | [] => []
  | [p] => parT p.1 p.2
  | p :: q :: l => parT p.1 p.2 ++ 44 :: 32 :: parsT (q :: l)
theorem gaps_word {w t : Bs} (h : isL w = true) : gapsR (w ++ t) = w ++ t := by
  obtain ⟨h1, c, w', rfl⟩ := isL_parts h
  have hb := byte_not (c := c) (by simp at h1; exact h1.1)
  unfold gapsR
  rw [List.cons_append, List.dropWhile_cons_of_neg (by simp [gapB, hb.1, hb.2.2.2.2])]
theorem overB_comma (t : Bs) : overB (44 :: t) = true := by unfold overB; rw [blanksR_not (by decide)]; rfl
theorem gaps_comma (t : Bs) : gapsR (44 :: 32 :: t) = gapsR t := by
  unfold gapsR; rw [List.dropWhile_cons_of_pos (by decide), List.dropWhile_cons_of_pos (by decide)]
theorem parsT_word (p : Par × Bs) (l : List (Par × Bs)) (t : Bs) : ∃ y, parsT (p :: l) ++ t = p.1.1 ++ y := by
  cases l with
  | nil => exact ⟨61 :: (p.2 ++ t), by simp [parsT, parT]⟩
  | cons q l => exact ⟨61 :: (p.2 ++ (44 :: 32 :: (parsT (q :: l) ++ t))), by simp [parsT, parT]⟩
/-- what may stand behind parameters -/
structure Tail (t : Bs) : Prop where
  over : overB t = true
  named : namedB (gapsR t) = false
  word : noWord t
theorem Tail.nil : Tail [] := ⟨rfl, rfl, fun _ h => by cases h⟩
theorem twice_app (ps : List Par) (q : Par) (n : Bs) : twiceB (ps ++ [q]) n = (twiceB ps n || sameL q.1 n) := by unfold twiceB; simp
/-- the parameters to come are unlike those read, and each other -/
def Fresh (ps : List Par) : List (Par × Bs) → Prop
  | [] => True
  | p :: l => twiceB ps p.1.1 = false ∧ Fresh (ps ++ [p.1]) l
theorem paramsN_told : ∀ (l : List (Par × Bs)) (p : Par × Bs) (f : Nat) (ps : List Par) (t : Bs), Tail t → (∀ q ∈ p :: l, isL q.1.1 = true ∧ Tells q.1.2 q.2) → Fresh ps (p :: l) → ps.length + l.length + 1 ≤ 16 → l.length < f →
    paramsN f ps (parsT (p :: l) ++ t) = .ok (ps ++ (p :: l).map (·.1), gapsR t)
  | l, p, 0, ps, t, _, _, _, _, hf => absurd hf (Nat.not_lt_zero _)
  | [], p, f + 1, ps, t, ht, hq, hfr, hn, _ => by
    obtain ⟨h1, h2⟩ := hq p (by simp)
    rw [paramsN, show parsT [p] = parT p.1 p.2 from rfl, paramR_par h1 h2 ht.word hfr.1 (by simp at hn; omega)]
    simp only [ht.over, ht.named, if_true, Bool.false_eq_true, if_false]
    rfl
  | q :: l, p, f + 1, ps, t, ht, hq, hfr, hn, hf => by
    obtain ⟨h1, h2⟩ := hq p (by simp)
    have e : parsT (p :: q :: l) ++ t = parT p.1 p.2 ++ (44 :: 32 :: (parsT (q :: l) ++ t)) := by simp [parsT]
    have hw : noWord (44 :: 32 :: (parsT (q :: l) ++ t)) := by intro c hc; simp at hc; subst hc; decide
    obtain ⟨g1, _⟩ := hq q (by simp)
    obtain ⟨y, ey⟩ := parsT_word q l t
    have eg : gapsR (44 :: 32 :: (parsT (q :: l) ++ t)) = parsT (q :: l) ++ t := by rw [gaps_comma, ey, gaps_word g1]
    have en : namedB (parsT (q :: l) ++ t) = true := by
      cases l with
      | nil => exact named_par g1
      | cons a l =>
        have e2 : parsT (q :: a :: l) ++ t = parT q.1 q.2 ++ (44 :: 32 :: (parsT (a :: l) ++ t)) := by simp [parsT]
        rw [e2]; exact named_par g1
    rw [paramsN, e, paramR_par h1 h2 hw hfr.1 (by simp at hn; omega)]
    simp only [overB_comma, eg, en, if_true]
    rw [paramsN_told l q f (ps ++ [p.1]) t ht (fun x hx => hq x (List.mem_cons_of_mem _ hx)) hfr.2 (by simp at hn ⊢; omega) (by simp at hf; omega)]
    simp

/-- a challenge as a text, its values told as they are -/
def chaT (s tok : Bs) (l : List (Par × Bs)) : Bs := s ++ ((if tok.isEmpty then [] else 32 :: tok) ++ (if l.isEmpty then [] else 32 :: parsT l))
theorem tok_head {n : Bs} (h : n ≠ []) (ht : n.all tokB = true) : ∃ c y, n = c :: y ∧ tokB c = true := by
  cases n with
  | nil => exact absurd rfl h
  | cons c y => exact ⟨c, y, rfl, by simp at ht; exact ht.1⟩
theorem tok_not : ∀ n : Fin 256, tokB n.val.toUInt8 = true → blankB n.val.toUInt8 = false ∧ n.val.toUInt8 ≠ 44 ∧ n.val.toUInt8 ≠ 61 := by decide +kernel
theorem u8_fin (c : UInt8) : ∃ n : Fin 256, c = n.val.toUInt8 := ⟨⟨c.toNat, c.toNat_lt⟩, by simp⟩
theorem tok_not' {c : UInt8} (h : tokB c = true) : blankB c = false ∧ c ≠ 44 ∧ c ≠ 61 := by
  obtain ⟨n, rfl⟩ := u8_fin c
  exact tok_not n h
theorem stop_head {t : Bs} (h : overB t = true) : ∀ c, t.head? = some c → blankB c = true ∨ c = 44 := by
  intro c hc
  cases t with
  | nil => cases hc
  | cons d t =>
    simp at hc; subst hc
    cases hb : blankB d
    · unfold overB at h
      rw [blanksR_not hb] at h
      exact Or.inr (by simpa [stopB] using h)
    · exact Or.inl rfl
theorem stop_not {c : UInt8} (h : blankB c = true ∨ c = 44) : byteB c = false ∧ tokB c = false ∧ eqB c = false := by
  have h' : c = 32 ∨ c = 9 ∨ c = 44 := by
    rcases h with h | h
    · unfold blankB at h; simp at h; rcases h with h | h
      · exact Or.inl h
      · exact Or.inr (Or.inl h)
    · exact Or.inr (Or.inr h)
  rcases h' with rfl | rfl | rfl <;> decide
theorem takeAll {p : UInt8 → Bool} {w t : Bs} (h : w.all p = true) (ht : ∀ c, t.head? = some c → p c = false) : (w ++ t).takeWhile p = w ∧ (w ++ t).dropWhile p = t := by
  constructor
  · rw [List.takeWhile_append_of_pos (by simpa [List.all_eq_true] using h)]
    cases t with
    | nil => simp
    | cons c t => rw [List.takeWhile_cons_of_neg (by simp [ht c rfl])]; simp
  · rw [List.dropWhile_append_of_pos (by simpa [List.all_eq_true] using h)]
    exact dropWhile_stop ht
theorem singleR_tok {n m t : Bs} (h1 : n ≠ []) (h2 : n.all tokB = true) (h3 : m.all eqB = true) (ht : overB t = true) : singleR (n ++ m ++ t) = some (n ++ m, blanksR t) := by
  have hmt : ∀ c, (m ++ t).head? = some c → tokB c = false := by
    intro c hc
    cases m with
    | nil => exact (stop_not (stop_head ht c hc)).2.1
    | cons d m =>
      simp at hc; subst hc
      have : d = 61 := by simp [eqB] at h3; exact h3.1
      subst this; decide
  obtain ⟨e1, e2⟩ := takeAll h2 hmt
  obtain ⟨e3, e4⟩ := takeAll (p := eqB) h3 (fun c hc => (stop_not (stop_head ht c hc)).2.2)
  rw [List.append_assoc]
  unfold singleR singleN singleM singleZ
  rw [e1, e2, e3, e4, ht]
  cases n with
  | nil => exact absurd rfl h1
  | cons c n => rfl
/-- where a parameter begins there is no token -/
theorem singleR_par {p : Par} {x t : Bs} (h : isL p.1 = true) (hx : Tells p.2 x) : singleR (parT p x ++ t) = none := by
  have e : parT p x ++ t = p.1 ++ 61 :: (x ++ t) := by simp [parT]
  rw [e]
  obtain ⟨h1, _⟩ := isL_parts h
  obtain ⟨c, y, ec, hc⟩ := tells_head (t := t) hx
  obtain ⟨hc1, hc2, hc3⟩ := head_not hc
  unfold singleR
  have key : overB (singleZ (p.1 ++ 61 :: (x ++ t))) = false := by
    unfold singleZ
    rw [dropWhile_app]
    split
    · rw [List.dropWhile_cons_of_neg (by decide), List.dropWhile_cons_of_pos (by decide), ec, List.dropWhile_cons_of_neg (by simp [eqB, hc2])]
      unfold overB; rw [blanksR_not hc3]; simpa [stopB] using hc1
    · rename_i hne
      cases hd : p.1.dropWhile tokB with
      | nil => rw [hd] at hne; exact absurd rfl hne
      | cons d z =>
        have hm : d ∈ p.1 := (List.dropWhile_sublist tokB).subset (by rw [hd]; exact List.mem_cons_self ..)
        have hb := byte_not (List.all_eq_true.1 h1 d hm)
        rw [List.cons_append, List.dropWhile_cons_of_neg (by simp [eqB, hb.2.1])]
        unfold overB; rw [blanksR_not hb.2.2.2.2]; simpa [stopB] using hb.1
  rw [key, Bool.and_false]; rfl
theorem afterW_end {s t : Bs} (h : isL s = true) (ht : noWord t) : wordR (s ++ t) = s ∧ afterW (s ++ t) = t := wordR_app h ht
theorem isL_ne {s : Bs} (h : isL s = true) : s.isEmpty = false := by
  obtain ⟨_, c, w, rfl⟩ := isL_parts h; rfl
/-- one challenge, told so, is read -/
theorem oneR_told {k : Nat} {s tok : Bs} {l : List (Par × Bs)} {t : Bs} (hk : k ≠ 8) (hs : isL s = true) (htok : tok = [] ∨ (l = [] ∧ tokenOk tok)) (hl : l.length ≤ 16) (hq : ∀ q ∈ l, isL q.1.1 = true ∧ Tells q.1.2 q.2) (hfr : Fresh [] l) (ht : Tail t) :
    ∃ z, oneR k (chaT s tok l ++ t) = .ok (⟨s, tok, l.map (·.1)⟩, z) ∧ gapsR z = gapsR t := by
  rcases htok with rfl | ⟨rfl, htok⟩
  · cases l with
    | nil =>
      have e : chaT s [] [] ++ t = s ++ t := by simp [chaT]
      obtain ⟨e1, e2⟩ := wordR_app hs ht.word
      refine ⟨blanksR t, ?_, gapsR_blanks t⟩
      unfold oneR
      rw [e, e1, e2, isL_ne hs, ht.over]
      simp only [Bool.false_eq_true, if_false, if_true]
      rw [if_neg hk]; rfl
    | cons p l =>
      have e : chaT s [] (p :: l) ++ t = s ++ 32 :: (parsT (p :: l) ++ t) := by simp [chaT]
      obtain ⟨e1, e2⟩ := wordR_app (t := 32 :: (parsT (p :: l) ++ t)) hs (by intro c hc; simp at hc; subst hc; decide)
      obtain ⟨g1, g2⟩ := hq p (by simp)
      obtain ⟨y, ey⟩ := parsT_word p l t
      obtain ⟨w1, c, w, hw⟩ := isL_parts g1
      have hb := byte_not (c := c) (by rw [hw] at w1; simp at w1; exact w1.1)
      have eb : blanksR (32 :: (parsT (p :: l) ++ t)) = parsT (p :: l) ++ t := by
        rw [blanksR_yes (by decide), ey, hw, List.cons_append, blanksR_not hb.2.2.2.2]
      have eo : overB (32 :: (parsT (p :: l) ++ t)) = false := by
        unfold overB; rw [eb, ey, hw]; simpa [stopB] using hb.1
      have es : singleR (parsT (p :: l) ++ t) = none := by
        cases l with
        | nil => exact singleR_par g1 g2
        | cons a l =>
          have e2 : parsT (p :: a :: l) ++ t = parT p.1 p.2 ++ (44 :: 32 :: (parsT (a :: l) ++ t)) := by simp [parsT]
          rw [e2]; exact singleR_par g1 g2
      have hlen : l.length < (parsT (p :: l) ++ t).length + 1 := by
        have : ∀ (m : List (Par × Bs)), m.length ≤ (parsT m).length := by
          intro m
          induction m with
          | nil => simp
          | cons a m ih =>
            cases m with
            | nil => simp [parsT, parT]; omega
            | cons b m => simp [parsT, parT] at ih ⊢; omega
        have := this (p :: l)
        simp at this ⊢; omega
      refine ⟨gapsR t, ?_, gapsR_gapsR t⟩
      unfold oneR
      rw [e, e1, e2, isL_ne hs, eo, eb, es, paramsN_told l p _ [] t ht hq hfr (by simp at hl ⊢; omega) hlen]
      simp only [Bool.false_eq_true, if_false]
      rw [if_neg hk]; rfl
  · obtain ⟨n, m, rfl, h1, h2, h3⟩ := htok
    obtain ⟨c, y, hcy, hc⟩ := tok_head h1 h2
    have hne : (n ++ m).isEmpty = false := by rw [hcy]; rfl
    have e : chaT s (n ++ m) [] ++ t = s ++ 32 :: (n ++ m ++ t) := by unfold chaT; rw [hne]; simp
    obtain ⟨e1, e2⟩ := wordR_app (t := 32 :: (n ++ m ++ t)) hs (by intro d hd; simp at hd; subst hd; decide)
    obtain ⟨b1, b2, b3⟩ := tok_not' hc
    have eb : blanksR (32 :: (n ++ m ++ t)) = n ++ m ++ t := by
      rw [blanksR_yes (by decide), hcy, List.cons_append, List.cons_append, blanksR_not b1]
    have eo : overB (32 :: (n ++ m ++ t)) = false := by
      unfold overB; rw [eb, hcy]; simpa [stopB] using b2
    refine ⟨blanksR t, ?_, gapsR_blanks t⟩
    unfold oneR
    rw [e, e1, e2, isL_ne hs, eo, eb, singleR_tok h1 h2 h3 ht.over]
    simp only [Bool.false_eq_true, if_false]
    rw [if_neg hk]; rfl

/-- challenges as texts -/
abbrev Told := Bs × Bs × List (Par × Bs)
def Told.T (x : Told) : Bs := chaT x.1 x.2.1 x.2.2
def Told.cha (x : Told) : Cha := ⟨x.1, x.2.1, x.2.2.map (·.1)⟩
structure Told.Ok (x : Told) : Prop where
  scheme : isL x.1 = true
  token : x.2.1 = [] ∨ (x.2.2 = [] ∧ tokenOk x.2.1)
  few : x.2.2.length ≤ 16
  pars : ∀ q ∈ x.2.2, isL q.1.1 = true ∧ Tells q.1.2 q.2
  fresh : Fresh [] x.2.2
theorem told_word (x : Told) (t : Bs) : ∃ y, x.T ++ t = x.1 ++ y := ⟨_, by unfold Told.T chaT; rw [List.append_assoc]⟩
theorem Tail.next {x : Told} (h : x.Ok) (t : Bs) (ht : overB t = true) : Tail (44 :: 32 :: (x.T ++ t)) := by
  obtain ⟨y, ey⟩ := told_word x t
  refine ⟨overB_comma _, ?_, by intro c hc; simp at hc; subst hc; decide⟩
  rw [gaps_comma, ey, gaps_word h.scheme, ← ey]
  have go : ∀ z, noWord z → hdB 61 (blanksR z) = false → namedB (x.1 ++ z) = false := by
    intro z h1 h2
    obtain ⟨e1, e2⟩ := wordR_app h.scheme h1
    unfold namedB; rw [e1, e2, h2, Bool.and_false]
  unfold Told.T chaT
  rw [List.append_assoc]
  have h32 : ∀ z : Bs, noWord (32 :: z) := by intro z c hc; simp at hc; subst hc; decide
  rcases h.token with ht0 | ⟨hl0, htok⟩
  · rw [ht0]
    cases hl : x.2.2 with
    | nil =>
      simp only [List.isEmpty_nil, if_true, List.append_nil, List.nil_append]
      refine go t (fun c hc => (stop_not (stop_head ht c hc)).1) ?_
      have h2 := ht
      unfold overB at h2
      cases hb : blanksR t with
      | nil => rfl
      | cons c z =>
        rw [hb] at h2
        have : c = 44 := by simpa [stopB] using h2
        subst this; rfl
    | cons p l =>
      have g1 := (h.pars p (by rw [hl]; simp)).1
      obtain ⟨y2, ey2⟩ := parsT_word p l t
      obtain ⟨w1, c, w, hw⟩ := isL_parts g1
      have hb := byte_not (c := c) (by rw [hw] at w1; simp at w1; exact w1.1)
      have e : (if ([] : Bs).isEmpty then [] else 32 :: []) ++ (if (p :: l).isEmpty then [] else 32 :: parsT (p :: l)) ++ t = 32 :: (parsT (p :: l) ++ t) := rfl
      rw [e]
      refine go _ (h32 _) ?_
      rw [blanksR_yes (by decide), ey2, hw, List.cons_append, blanksR_not hb.2.2.2.2]
      simpa [hdB] using hb.2.1
  · rw [hl0]
    obtain ⟨n, m, hnm, h1, h2, h3⟩ := htok
    obtain ⟨c, y3, hcy, hc⟩ := tok_head h1 h2
    obtain ⟨b1, b2, b3⟩ := tok_not' hc
    have e : (if x.2.1.isEmpty then [] else 32 :: x.2.1) ++ (if ([] : List (Par × Bs)).isEmpty then [] else 32 :: parsT []) ++ t = 32 :: (c :: (y3 ++ m ++ t)) := by
      rw [hnm, hcy]; simp
    rw [e]
    refine go _ (h32 _) ?_
    rw [blanksR_yes (by decide), blanksR_not b1]
    simpa [hdB] using b3
/-- challenges, commas and blanks between -/
def toldsT : List Told → Bs
  | [] => []
  | [x] => x.T
  | x :: y :: l => x.T ++ 44 :: 32 :: toldsT (y :: l)
theorem toldsT_cons (y : Told) (l : List Told) : ∃ t, overB t = true ∧ toldsT (y :: l) = y.T ++ t := by
  cases l with
  | nil => exact ⟨[], rfl, by simp [toldsT]⟩
  | cons z l => exact ⟨44 :: 32 :: toldsT (z :: l), overB_comma _, rfl⟩
theorem parseN_told : ∀ (l : List Told) (f : Nat) (acc : List Cha) (r : Bs), gapsR r = gapsR (toldsT l) → (∀ x ∈ l, x.Ok) → acc.length + l.length ≤ 8 → l.length < f → parseN f acc r = .ok (acc ++ l.map Told.cha)
  | l, 0, acc, r, _, _, _, hf => absurd hf (Nat.not_lt_zero _)
  | [], f + 1, acc, r, hr, _, _, _ => by
    rw [parseN, hr]
    rw [if_pos (show (gapsR (toldsT [])).isEmpty = true from rfl)]; simp
  | x :: l, f + 1, acc, r, hr, ho, hl, hf => by
    have hx := ho x (by simp)
    have hk : acc.length ≠ 8 := by simp at hl; omega
    obtain ⟨t, et, htail, hgt⟩ : ∃ t, toldsT (x :: l) = x.T ++ t ∧ Tail t ∧ gapsR t = gapsR (toldsT l) := by
      cases l with
      | nil => exact ⟨[], by simp [toldsT], Tail.nil, rfl⟩
      | cons y l =>
        obtain ⟨t, ho2, e⟩ := toldsT_cons y l
        refine ⟨44 :: 32 :: toldsT (y :: l), rfl, ?_, gaps_comma _⟩
        rw [e]; exact Tail.next (ho y (by simp)) t ho2
    obtain ⟨y, ey⟩ := told_word x t
    have eg : gapsR r = x.T ++ t := by rw [hr, et, ey, gaps_word hx.scheme]
    obtain ⟨z, ez, hz⟩ := oneR_told (k := acc.length) (t := t) hk hx.scheme hx.token hx.few hx.pars hx.fresh htail
    have ez' : oneR acc.length (x.T ++ t) = .ok (x.cha, z) := ez
    have hne : (x.T ++ t).isEmpty = false := by
      rw [ey]; obtain ⟨_, c, w, hw⟩ := isL_parts hx.scheme; rw [hw]; rfl
    rw [parseN, eg, hne, ez']
    simp only [Bool.false_eq_true, if_false]
    rw [parseN_told l f (acc ++ [x.cha]) z (hz.trans hgt) (fun y hy => ho y (List.mem_cons_of_mem _ hy)) (by simp at hl ⊢; omega) (by simp at hf; omega)]
    simp
theorem toldsT_len : ∀ (l : List Told), (∀ x ∈ l, x.Ok) → l.length ≤ (toldsT l).length
  | [], _ => by simp
  | [x], h => by
    obtain ⟨_, c, w, hw⟩ := isL_parts (h x (by simp)).scheme
    simp [toldsT, Told.T, chaT, hw]
  | x :: y :: l, h => by
    have := toldsT_len (y :: l) (fun z hz => h z (List.mem_cons_of_mem _ hz))
    simp [toldsT] at this ⊢; omega
theorem chasL_told (l : List Told) (h : ∀ x ∈ l, x.Ok) (hl : l.length ≤ 8) (hn : (toldsT l).length ≤ 3000) : chasL (toldsT l) = .ok (l.map Told.cha) := by
  unfold chasL
  rw [if_neg (by omega)]
  have := toldsT_len l h
  rw [parseN_told l _ [] _ rfl h (by simpa using hl) (by omega)]
  simp

/-! Print -/
def Cha.told (x : Cha) : Told := (x.scheme, x.token, x.params.map fun p => (p, valueL p.2))
theorem Cha.told_cha (x : Cha) : x.told.cha = x := by
  obtain ⟨s, t, ps⟩ := x
  simp [Cha.told, Told.cha, List.map_map, Function.comp_def]
theorem fresh_of : ∀ (l : List Par) (f : Par → Bs) (ps : List Par), (∀ p ∈ l, twiceB ps p.1 = false) → (∀ (i j : Nat) p q, i < j → l[i]? = some p → l[j]? = some q → sameL p.1 q.1 = false) → Fresh ps (l.map fun p => (p, f p))
  | [], _, _, _, _ => True.intro
  | p :: l, f, ps, h1, h2 => by
    refine ⟨h1 p (by simp), fresh_of l f (ps ++ [p]) (fun q hq => ?_) (fun i j a b hij ha hb => h2 (i + 1) (j + 1) a b (by omega) (by simpa using ha) (by simpa using hb))⟩
    rw [twice_app, h1 q (List.mem_cons_of_mem _ hq), Bool.false_or]
    obtain ⟨k, hk, e⟩ := List.mem_iff_getElem.1 hq
    exact h2 0 (k + 1) p q (by omega) rfl (by simp [List.getElem?_eq_getElem hk, e])
theorem Cha.Ok.told {x : Cha} (h : x.Ok) : x.told.Ok := by
  refine ⟨h.scheme, ?_, by simpa [Cha.told] using h.few, ?_, fresh_of x.params _ [] (fun _ _ => rfl) h.apart⟩
  · rcases h.token with e | ⟨e, ht⟩
    · exact Or.inl e
    · refine Or.inr ⟨?_, ht⟩
      show x.params.map _ = []
      rw [e]; rfl
  · intro q hq
    have hq' : q ∈ x.params.map fun p => (p, valueL p.2) := hq
    obtain ⟨p, hp, rfl⟩ := List.mem_map.1 hq'
    obtain ⟨h1, h2⟩ := h.pars p hp
    exact ⟨h1, tells_value h2⟩
/-- challenges as a header -/
def chasT (l : List Cha) : Bs := toldsT (l.map Cha.told)
theorem chas_back {l : List Cha} (h : ∀ x ∈ l, x.Ok) (hl : l.length ≤ 8) (hn : (chasT l).length ≤ 3000) : chasL (chasT l) = .ok l := by
  unfold chasT at hn ⊢
  rw [chasL_told _ (fun x hx => by obtain ⟨y, hy, rfl⟩ := List.mem_map.1 hx; exact (h y hy).told) (by simpa using hl) hn, List.map_map]
  congr 1
  exact List.map_id'' (fun x => Cha.told_cha x) l |>.symm ▸ rfl
end Go.Proofs.YtkoobhgedoanhaaGreatDoor
