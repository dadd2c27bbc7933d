/- Package ask: the reader: one. -/
import Derived.Test.YtegbacpenolehaaGreatDoorRdr3
import Derived.Test.YtegbacpenolehaaGreatDoorStill
import Derived.Test.YtegbacpenolehaaGreatDoorAskLaw
namespace Go.Proofs.YtegbacpenolehaaGreatDoor
open Go.RowKit

/-- a challenge's cells -/
abbrev ChaV := ByteArray × ByteArray × Value
def chaC (r : ChaV) : List Value := [.string r.1, .string r.2.1, r.2.2]
theorem chaC_one {r : ChaV} (h : r.2.2.oneCell' = true) : ∀ u ∈ chaC r, u.oneCell' = true := by
  intro u hu
  simp only [chaC, List.mem_cons, List.not_mem_nil, or_false] at hu
  rcases hu with rfl | rfl | rfl
  · rfl
  · rfl
  · exact h
def ChaIs (base : Nat) (w : World) (r : ChaV) (x : Cha) : Prop := r.1 = bA x.scheme ∧ r.2.1 = bA x.token ∧ OwnRows base 80 2 w r.2.2 (x.params.map parC)
/-- v is a slice of the call's own that holds the challenges xs -/
def ChasOwn (base : Nat) (w : World) (v : Value) (xs : List Cha) : Prop := ∃ rs : List ChaV, OwnRows base 35 3 w v (rs.map chaC) ∧ Both (ChaIs base w) rs xs
theorem ChasOwn.nil (base : Nat) (w : World) : ChasOwn base w (.slice none 0 0) [] := ⟨[], OwnRows.nil _ _ _ _, .nil⟩
theorem ChasOwn.form {base : Nat} {w : World} {v : Value} {xs : List Cha} (h : ChasOwn base w v xs) : ∃ a c, v = .slice a xs.length c := by
  obtain ⟨rs, h1, h2⟩ := h
  obtain ⟨a, c, e⟩ := h1.form
  exact ⟨a, c, by rw [e, List.length_map, h2.len]⟩
/-- of the blocks that S names none is of parameters, or of challenges -/
def OffC (w : World) (S : Nat → Prop) : Prop := ∀ k, S k → k < w.heap.size → ∃ cs t f, w.heap[k]? = some (.cells cs t f) ∧ t ≠ 80 ∧ t ≠ 35
theorem OffC.none (w : World) : OffC w noB := fun _ h => absurd h (fun h => h)
theorem OffC.cur {w : World} {c i : Nat} {s : ByteArray} (h : CurAt w c s i) : OffC w (one c) := fun k hk _ => by
  obtain rfl : k = c := hk
  exact ⟨_, _, _, h, by decide, by decide⟩
theorem ChasOwn.fr {base : Nat} {w w' : World} {v : Value} {xs : List Cha} {S : Nat → Prop} (h : ChasOwn base w v xs) (hf : Fr S w w') (hS : OffC w S) : ChasOwn base w' v xs := by
  obtain ⟨rs, h1, h2⟩ := h
  have key : ∀ {k : Nat} {e : TypeId} {u : Value} {ys : List (List Value)}, (e = 80 ∨ e = 35) → OwnRows base e k w u ys → OwnRows base e k w' u ys := by
    intro k e u ys he ho
    refine ho.fr hf (fun b hb hs => ?_)
    obtain ⟨cur, hc⟩ := ho.kind hb
    obtain ⟨cs, t, f, hc', n1, n2⟩ := hS b hs (lt_of_some hc)
    rw [hc] at hc'
    cases hc'
    rcases he with rfl | rfl
    · exact n1 rfl
    · exact n2 rfl
  exact ⟨rs, key (Or.inr rfl) h1, h2.mono (fun r x hr => ⟨hr.1, hr.2.1, key (Or.inl rfl) hr.2.2⟩)⟩

/-- what one writes -/
def oneS (c b : Nat) (v : Value) : Nat → Prop := fun k => k = c ∨ k = b ∨ v.ownBlock = some k
def OnePost (base c b i : Nat) (s : ByteArray) (xs : List Cha) (v : Value) (w : World) (e : Ending) (w' : World) : Prop :=
  Fr (oneS c b v) w w' ∧ match oneR xs.length (s.data.toList.drop i) with
    | .error n => ∃ p, AtErr n p e w'
    | .ok q => e = .returned .nilIface ∧ ∃ j v', j ≤ s.size ∧ CurAt w' c s j ∧ s.data.toList.drop j = q.2 ∧ RdrAt w' b c s v' ∧ ChasOwn base w' v' (xs ++ [q.1])
theorem OnePost.bad {base c b i n p : Nat} {s : ByteArray} {xs : List Cha} {v : Value} {w w' : World} {e : Ending} (h : oneR xs.length (s.data.toList.drop i) = .error n) (hf : Fr (one c) w w') (he : AtErr n p e w') : OnePost base c b i s xs v w e w' := by
  refine ⟨hf.mono (fun k _ e => Or.inl e), ?_⟩
  rw [h]; exact ⟨p, he⟩
/-- ahead of the challenge's being kept -/
def OneMid (c b X i n : Nat) (s : ByteArray) (v : Value) (W : Bs) (w wx : World) : Prop :=
  ∃ tok ps pv j, j ≤ s.size ∧ CurAt wx c s j ∧ RdrAt wx b c s v ∧ ChaAt wx X (bA W) (bA tok) pv ∧ OwnRows w.heap.size 80 2 wx pv (ps.map parC) ∧ Fr (one c) w wx ∧
    oneR n (s.data.toList.drop i) = .ok (⟨W, tok, ps⟩, s.data.toList.drop j)

/-- at the head of a round of the parameters' loop -/
def PsRel (c b X K : Nat) (s : ByteArray) (v : Value) (W : Bs) (w : World) (t : Value) (wr : World) : Prop :=
  ∃ mb ps pv j, t = .bool mb ∧ j ≤ s.size ∧ CurAt wr c s j ∧ RdrAt wr b c s v ∧ ChaAt wr X (bA W) ⟨#[]⟩ pv ∧ OwnRows w.heap.size 80 2 wr pv (ps.map parC) ∧ Fr (one c) w wr ∧ ps.length ≤ 16 ∧ (∀ p ∈ ps, p.1.length < 100000) ∧
    paramsN ((s.data.toList.drop K).length + 1) [] (s.data.toList.drop K) = (if mb then paramsN ((s.data.toList.drop j).length + 1) ps (s.data.toList.drop j) else .ok (ps, s.data.toList.drop j))
theorem paramsN_step (ps : List Par) (r : Bs) : paramsN (r.length + 1) ps r = match paramR ps r with
    | .error e => .error e
    | .ok q => if overB q.2 then (if namedB (gapsR q.2) then paramsN ((gapsR q.2).length + 1) (ps ++ [q.1]) (gapsR q.2) else .ok (ps ++ [q.1], gapsR q.2)) else .error 3 := by
  rw [paramsN]
  cases hp : paramR ps r with
  | error e => rfl
  | ok q =>
    obtain ⟨p, r1⟩ := q
    simp only
    have h1 := paramR_le hp
    have h2 := gapsR_le r1
    rw [paramsN_fuel r.length _ _ (by omega)]
theorem info_cha : (Tryz.prog.info? 35).map (fun i => (i.zero, i.size, i.bytes)) = some (some (.agg #[.string ⟨#[]⟩, .string ⟨#[]⟩, .slice none 0 0]), 3, 56) := by kernel_rfl
theorem OwnRows.oneCell {base k : Nat} {e : TypeId} {w : World} {v : Value} {xs : List (List Value)} (h : OwnRows base e k w v xs) : v.oneCell' = true := by
  obtain ⟨a, c, e⟩ := h.form
  rw [e]; rfl
theorem blank_head (s : ByteArray) (k : Nat) : decide (k < spanEnd blankB s.data.toList k) = blankHead (s.data.toList.drop k) := by
  rcases Nat.lt_or_ge k s.data.toList.length with h | h
  · rw [List.drop_eq_getElem_cons h]
    show _ = blankB s.data.toList[k]
    cases hb : blankB s.data.toList[k]
    · rw [spanEnd_stop (fun c hc => by rw [List.getElem?_eq_getElem h] at hc; cases hc; exact hb)]; simp
    · rw [spanEnd_step (List.getElem?_eq_getElem h) hb]
      have := spanEnd_ge (p := blankB) (l := s.data.toList) (i := k + 1)
      exact decide_eq_true (by omega)
  · rw [List.drop_eq_nil_of_le h, spanEnd_stop (fun c hc => by rw [List.getElem?_eq_none h] at hc; cases hc)]
    simp [blankHead]
theorem over_blk (s : ByteArray) (k : Nat) : overB (s.data.toList.drop k) = overB (s.data.toList.drop (blk s k)) := by rw [blk_drop, overB_blanks]
theorem blk_blk (s : ByteArray) (k : Nat) : blk s (blk s k) = blk s k := span_idem _ _ _
set_option maxRecDepth 100000 in
set_option maxHeartbeats 4000000 in
theorem one_any (base b c i : Nat) (s : ByteArray) (xs : List Cha) (v : Value) (w : World) (hr : RdrAt w b c s v) (h : CurAt w c s i) (hv : ChasOwn base w v xs) (hb : base ≤ w.heap.size)
    (hs : s.size < 100000) (hi : i ≤ s.size) (hl : xs.length ≤ 8) :
    Calls Tryz.prog 45 #[.pointer (some ⟨b, 0, none⟩)] w (OnePost base c b i s xs v w) := by
  have hm : s.size ≤ maxLen := by unfold maxLen; omega
  have hbc := hr.ne h
  have q0 := hr.cell0
  have hw := wrd_le hi
  have HWD := Lib.hid (wrd_drop s i)
  have hPR0 := (show oneR xs.length (s.data.toList.drop i) = if (wordR (s.data.toList.drop i)).isEmpty then .error 3
    else if xs.length = 8 then .error 4
    else if overB (afterW (s.data.toList.drop i)) then .ok (⟨wordR (s.data.toList.drop i), [], []⟩, blanksR (afterW (s.data.toList.drop i)))
    else if !blankHead (afterW (s.data.toList.drop i)) then .error 3
    else match singleR (blanksR (afterW (s.data.toList.drop i))) with
      | some q => .ok (⟨wordR (s.data.toList.drop i), q.1, []⟩, q.2)
      | none => match paramsN ((blanksR (afterW (s.data.toList.drop i))).length + 1) [] (blanksR (afterW (s.data.toList.drop i))) with
        | .error e => .error e
        | .ok q => .ok (⟨wordR (s.data.toList.drop i), [], q.1⟩, q.2) from rfl)
  rw [← wrd_drop] at hPR0
  have hwl : (wordR (s.data.toList.drop i)).length ≤ s.size := by
    have := wordR_len (s.data.toList.drop i)
    simp at this; omega
  have HPR := Lib.hid hPR0
  clear hPR0
  go_enter Tryz.func45, Tryz.ntmps45
  go_wp2_with fail
  refine (At_any c s i w h).mono ?_
  rintro e w0 ⟨rfl, rfl⟩
  go_wp2_with fail
  refine (Word_any c s i w h hm hi).mono ?_
  rintro e w1 ⟨rfl, hc1, hf1⟩
  replace hc1 : CurAt w1 c s (wrd s i) := hc1
  rw [show s.extract i (spanEnd byteB s.data.toList i) = bA (wordR (s.data.toList.drop i)) from wrd_text s i]
  generalize wordR (s.data.toList.drop i) = W at *
  generalize wrd s i = K1 at *
  obtain ⟨wx, hwx⟩ : ∃ wx, wx = w1.alloc (.cells #[.string (bA W), .string ⟨#[]⟩, .slice none 0 0] 35) := ⟨_, rfl⟩
  have hf2 : Fr noB w1 wx := by rw [hwx]; exact (Fr.refl _ _).alloc _
  have hX : ChaAt wx w1.heap.size (bA W) ⟨#[]⟩ (.slice none 0 0) := by rw [hwx]; exact new_block _ _
  have hXw : w.heap.size ≤ w1.heap.size := hf1.size
  have hr1 := hr.one h hf1
  have hr2 := hr1.fr hf2 (fun h => h)
  have hc2 := hc1.fr hf2 (fun h => h)
  have HF2 := Lib.hid (hf1.trans hf2.ofNone)
  have HWX := Lib.hid hwx
  have HXS := Lib.hid (show wx.heap.size = w1.heap.size + 1 by rw [hwx]; simp)
  have q1a : ∀ o : Obj, (w1.alloc o).cell? ⟨b, 0, none⟩ = some (.pointer (some ⟨c, 0, none⟩)) := fun o => (hr1.fr ((Fr.refl noB w1).alloc o) (fun h => h)).cell0
  have q1b : ∀ o : Obj, (w1.alloc o).cell? ⟨b, 2, none⟩ = some v := fun o => (hr1.fr ((Fr.refl noB w1).alloc o) (fun h => h)).cell2
  obtain ⟨av, cv, hvv⟩ := hv.form
  rw [hvv] at q1b
  generalize hXe : w1.heap.size = X at *
  clear hwx q0 hf1
  cases hWe : W.isEmpty
  case true =>
    have hnn : (bA W).toList = [] := by rw [bA_toList]; exact List.isEmpty_iff.1 hWe
    have hnb : ((bA W).toList == []) = true := beq_iff_eq.2 hnn
    have HE := Lib.hid (show oneR xs.length (s.data.toList.drop i) = .error 3 by rw [HPR.out, if_pos hWe])
    go_wp2_with fail
    rw [← HWX.out]
    refine (fail_any b c K1 3 s v wx hr2 hc2).mono ?_
    rintro e w4 ⟨⟨g, rfl, hg⟩, hf4⟩
    go_wp2
    go_ret
    exact OnePost.bad HE.out (HF2.out.trans hf4.ofNone) ⟨g, rfl, hg⟩
  case false =>
    have hnn : ¬ (bA W).toList = [] := by rw [bA_toList]; intro e; rw [e] at hWe; cases hWe
    have hnb : ((bA W).toList == []) = false := beq_eq_false_iff_ne.2 hnn
    by_cases h8 : xs.length = 8
    · have h8' : ((xs.length : Int) == 8) = true := by rw [h8]; rfl
      have HE := Lib.hid (show oneR xs.length (s.data.toList.drop i) = .error 4 by rw [HPR.out, if_neg (by rw [hWe]; simp), if_pos h8])
      clear h8
      go_wp2
      go_ret
      rw [← HWX.out]
      exact OnePost.bad HE.out (HF2.out.alloc _) ⟨X + 1, rfl, by rw [← HXS.out]; exact new_block wx _⟩
    · have h8' : ((xs.length : Int) == 8) = false := beq_eq_false_iff_ne.2 (by omega)
      have HPR2 := Lib.hid (show oneR xs.length (s.data.toList.drop i) = if overB (s.data.toList.drop K1) then .ok (⟨W, [], []⟩, blanksR (s.data.toList.drop K1))
        else if !blankHead (s.data.toList.drop K1) then .error 3
        else match singleR (blanksR (s.data.toList.drop K1)) with
          | some q => .ok (⟨W, q.1, []⟩, q.2)
          | none => match paramsN ((blanksR (s.data.toList.drop K1)).length + 1) [] (blanksR (s.data.toList.drop K1)) with
            | .error e => .error e
            | .ok q => .ok (⟨W, [], q.1⟩, q.2) by rw [HPR.out, if_neg (by rw [hWe]; simp), if_neg h8])
      clear HPR hWe
      go_wp2_with fail
      rw [← HWX.out]
      refine (Blanks_any c s K1 wx hc2 hm hw).mono ?_
      rintro e w3 ⟨rfl, hc3, hf3⟩
      replace hc3 : CurAt w3 c s (blk s K1) := hc3
      have HBH := Lib.hid (show decide (K1 < spanEnd blankB s.data.toList K1) = blankHead (s.data.toList.drop K1) from blank_head s K1)
      rw [HBH.out]
      have hk2 := blk_le hw
      have HBD := Lib.hid (blk_drop s K1)
      rw [← blk_drop, over_blk] at HPR2
      have hblk := Lib.hid (blk_blk s K1)
      generalize blk s K1 = K2 at *
      have hr3 := hr2.one hc2 hf3
      have hX3 := hX.fr hf3 (fun e => hX.ne hc2 e)
      have HF3 := Lib.hid (HF2.out.trans hf3)
      clear hr1 hr2 hc1 hc2 hX hf2 hf3 q1a q1b hnn hnb h8' HBH HBD
      go_upto_block 0 with fail
      go_cut [5, 6, 7, 8] from 39 to 69 (fun _ _ _ _ wz => OneMid c b X i xs.length s v W w wz)
      case first =>
        have hXX := hX3.ne hc3
        have hXb := hX3.neR hr3
        go_wp2_with fail
        refine (over_any b c K2 s v w3 hr3 hc3 hm hk2).mono ?_
        rintro e w4 ⟨rfl, hc4, hf4⟩
        rw [hblk.out] at hc4
        have hr4 := hr3.one hc3 hf4
        have hX4 := hX3.fr hf4 hXX
        have HF4 := Lib.hid (HF3.out.trans hf4)
        clear hr3 hX3 hc3 hf4
        cases hov : overB (s.data.toList.drop K2)
        case true =>
          have HE := Lib.hid (show oneR xs.length (s.data.toList.drop i) = .ok (⟨W, [], []⟩, s.data.toList.drop K2) by rw [HPR2.out, if_pos hov])
          go_wp2_with fail
          go_meet
          exact ⟨[], [], _, K2, hk2, hc4, hr4, hX4, OwnRows.nil _ _ _ _, HF4.out, HE.out⟩
        case false =>
          cases hbh : blankHead (s.data.toList.drop K1)
          case false =>
            have HE := Lib.hid (show oneR xs.length (s.data.toList.drop i) = .error 3 by rw [HPR2.out, if_neg (by rw [hov]; simp), if_pos (by rw [hbh]; rfl)])
            go_wp2_with fail
            refine (fail_any b c K2 3 s v w4 hr4 hc4).mono ?_
            rintro e w5 ⟨⟨g, rfl, hg⟩, hf5⟩
            go_wp2
            go_ret
            exact OnePost.bad HE.out (HF4.out.trans hf5.ofNone) ⟨g, rfl, hg⟩
          case true =>
            have HPR3 := Lib.hid (show oneR xs.length (s.data.toList.drop i) = match singleR (s.data.toList.drop K2) with
              | some q => .ok (⟨W, q.1, []⟩, q.2)
              | none => match paramsN ((s.data.toList.drop K2).length + 1) [] (s.data.toList.drop K2) with
                | .error e => .error e
                | .ok q => .ok (⟨W, [], q.1⟩, q.2) by rw [HPR2.out, if_neg (by rw [hov]; simp), if_neg (by rw [hbh]; simp)])
            clear HPR2
            go_wp2_with fail
            refine (single_any b c K2 s v w4 hr4 hc4 hs hk2).mono ?_
            intro e w5 hsp
            obtain ⟨hf5, hsm⟩ := hsp
            have hr5 := hr4.one hc4 hf5
            have hX5 := hX4.fr hf5 hXX
            have HF5 := Lib.hid (HF4.out.trans hf5)
            have x1 := hX5.cell1
            have xf1 := hX5.free 1
            have HS := Lib.hid (show ∀ u : Value, Fr (one X) w5 (w5.setCell ⟨X, 1, none⟩ u) from fun u => (Fr.refl (one X) w5).setCell (p := ⟨X, 1, none⟩) (fun _ => rfl) u)
            have HF6 := Lib.hid (show ∀ u : Value, Fr (one c) w (w5.setCell ⟨X, 1, none⟩ u) from fun u => HF5.out.step (HS.out u) (fun k hk e => by have e' : k = X := e; omega))
            clear hf5
            cases hsr : singleR (s.data.toList.drop K2) with
            | some q =>
              obtain ⟨tk, z⟩ := q
              rw [hsr] at hsm
              obtain ⟨rfl, j, hj, hc5, hd5⟩ := hsm
              have HE := Lib.hid (show oneR xs.length (s.data.toList.drop i) = .ok (⟨W, tk, []⟩, s.data.toList.drop j) by rw [HPR3.out, hsr, hd5])
              have hX6 : ChaAt (w5.setCell ⟨X, 1, none⟩ (.string (bA tk))) X (bA W) (bA tk) (.slice none 0 0) := setCell_heap hX5 1 _
              have hr6 := hr5.fr (HS.out (.string (bA tk))) (fun e => hXb (show b = X from e).symm)
              have hc6 := hc5.fr (HS.out (.string (bA tk))) (fun e => hXX (show c = X from e).symm)
              clear hd5
              go_wp2_with fail
              go_meet
              exact ⟨tk, [], _, j, hj, hc6, hr6, hX6, OwnRows.nil _ _ _ _, HF6.out _, HE.out⟩
            | none =>
              rw [hsr] at hsm
              obtain ⟨rfl, hc5⟩ := hsm
              have HPN := Lib.hid (show oneR xs.length (s.data.toList.drop i) = match paramsN ((s.data.toList.drop K2).length + 1) [] (s.data.toList.drop K2) with
                | .error e => .error e
                | .ok q => .ok (⟨W, [], q.1⟩, q.2) by rw [HPR3.out, hsr])
              have hX6 : ChaAt (w5.setCell ⟨X, 1, none⟩ (.string ⟨#[]⟩)) X (bA W) ⟨#[]⟩ (.slice none 0 0) := setCell_heap hX5 1 _
              have hr6 := hr5.fr (HS.out (.string ⟨#[]⟩)) (fun e => hXb (show b = X from e).symm)
              have hc6 := hc5.fr (HS.out (.string ⟨#[]⟩)) (fun e => hXX (show c = X from e).symm)
              have HF7 := Lib.hid (HF6.out (.string ⟨#[]⟩))
              clear HPR3
              go_wp2_with fail
              clear x1 xf1
              generalize w5.setCell ⟨X, 1, none⟩ (.string ⟨#[]⟩) = w7 at *
              go_loopw [7] (PsRel c b X K2 s v W w) (fun t wr => match t with | .bool true => s.size - curPos wr c + 1 | _ => 0)
              case atStart => exact ⟨true, [], _, K2, rfl, hk2, hc6, hr6, hX6, OwnRows.nil _ _ _ _, HF7.out, by simp, by simp, rfl⟩
              case round =>
                obtain ⟨mb, ps, pv, j, rfl, hj, hc8, hr8, hX8, ho8, hfr, hp16, hpz, hpn⟩ := hrel
                have HPS := Lib.hid hpn
                clear hpn
                cases mb
                case false =>
                  have HE := Lib.hid (show oneR xs.length (s.data.toList.drop i) = .ok (⟨W, [], ps⟩, s.data.toList.drop j) by rw [HPN.out, HPS.out]; rfl)
                  go_wp2_with fail
                  go_meet
                  exact ⟨[], ps, pv, j, hj, hc8, hr8, hX8, ho8, hfr, HE.out⟩
                case true =>
                  have HST := Lib.hid (paramsN_step ps (s.data.toList.drop j))
                  have hpos := Lib.hid hc8.pos
                  have hwr : w.heap.size ≤ wr.heap.size := hfr.size
                  go_wp2_with fail
                  refine (param_any w.heap.size b c X j s v ps (bA W) ⟨#[]⟩ pv wr hr8 hc8 hX8 ho8 hwr hs hj hp16 hpz).mono ?_
                  intro e w9 hpp
                  obtain ⟨hf9, hpm⟩ := hpp
                  have hXc := hX8.ne hc8
                  have hXr := hX8.neR hr8
                  have hbo : pv.ownBlock ≠ some b := ho8.not hr8 (by decide)
                  have hr9 := hr8.fr hf9 (fun hh => by
                    rcases hh with hh | hh | hh
                    · exact hbc hh
                    · exact hXr hh.symm
                    · exact hbo hh)
                  have HF9 := Lib.hid (show Fr (one c) w w9 from hfr.step hf9 (fun k hk hh => by
                    rcases hh with hh | hh | hh
                    · exact hh
                    · omega
                    · have := ho8.block k hh; omega))
                  clear hf9 hfr ho8 hX8 hr8
                  cases hpr : paramR ps (s.data.toList.drop j) with
                  | error n =>
                    rw [hpr] at hpm
                    obtain ⟨pl, g, rfl, hg⟩ := hpm
                    have HE := Lib.hid (show oneR xs.length (s.data.toList.drop i) = .error n by
                      rw [HPN.out, HPS.out, if_pos True.intro, HST.out, hpr])
                    clear hpr
                    go_wp2_with fail
                    go_ret
                    exact OnePost.bad HE.out HF9.out ⟨g, rfl, hg⟩
                  | ok q =>
                    obtain ⟨p, z⟩ := q
                    rw [hpr] at hpm
                    obtain ⟨rfl, j1, pv', hj1, hc9, hd9, hX9, ho9⟩ := hpm
                    simp only at hd9 ho9
                    have hle := paramR_le hpr
                    rw [hpr] at HST
                    have hne16 := (paramR_ok hpr).2.2
                    have hzl : (s.data.toList.drop j).length ≤ s.size := by simp
                    have hjj : j < j1 := by
                      have e1 : z.length = s.size - j1 := by rw [← hd9]; simp
                      have e2 : (s.data.toList.drop j).length = s.size - j := by simp
                      omega
                    have HLE := Lib.hid (show p.1.length < 100000 by omega)
                    clear hpr hle hzl
                    go_wp2_with fail
                    refine (over_any b c j1 s v w9 hr9 hc9 hm hj1).mono ?_
                    rintro e w10 ⟨rfl, hc10, hf10⟩
                    have hr10 := hr9.one hc9 hf10
                    have hX10 := hX9.fr hf10 hXc
                    have ho10 := ho9.fr hf10 (fun k hk e => by
                      obtain rfl : k = c := e
                      exact ho9.not hc9 (by decide) hk)
                    have HF10 := Lib.hid (HF9.out.trans hf10)
                    have hbj := blk_le (s := s) hj1
                    have hbd := Lib.hid (blk_drop s j1)
                    rw [hd9] at hbd ⊢
                    clear hf10 hr9 hX9 ho9 hc9
                    cases hov : overB z
                    case false =>
                      have HE := Lib.hid (show oneR xs.length (s.data.toList.drop i) = .error 3 by
                        rw [HPN.out, HPS.out, if_pos True.intro, HST.out]
                        simp only [hov, Bool.false_eq_true, if_false])
                      go_wp2_with fail
                      refine (fail_any b c _ 3 s v w10 hr10 hc10).mono ?_
                      rintro e w11 ⟨⟨g, rfl, hg⟩, hf11⟩
                      go_wp2
                      go_ret
                      exact OnePost.bad HE.out (HF10.out.trans hf11.ofNone) ⟨g, rfl, hg⟩
                    case true =>
                      go_wp2_with fail
                      refine (gaps_any b c _ s v w10 hr10 hc10 hm hbj).mono ?_
                      rintro e w11 ⟨rfl, hc11, hf11⟩
                      have HGD := Lib.hid (show s.data.toList.drop (spanEnd gapB s.data.toList (blk s j1)) = gapsR z by
                        rw [drop_spanEnd, hbd.out]; exact gapsR_blanks z)
                      have hgl : spanEnd gapB s.data.toList (blk s j1) ≤ s.size := by simpa using spanEnd_le (p := gapB) (l := s.data.toList) (i := blk s j1) (by simpa using hbj)
                      have hgg : j1 ≤ spanEnd gapB s.data.toList (blk s j1) := Nat.le_trans (spanEnd_ge (p := blankB) (l := s.data.toList) (i := j1)) spanEnd_ge
                      generalize spanEnd gapB s.data.toList (blk s j1) = j2 at *
                      have hr11 := hr10.one hc10 hf11
                      have hX11 := hX10.fr hf11 hXc
                      have ho11 := ho10.fr hf11 (fun k hk e => by
                        obtain rfl : k = c := e
                        exact ho10.not hc10 (by decide) hk)
                      have HF11 := Lib.hid (HF10.out.trans hf11)
                      clear hf11 hr10 hX10 ho10 hc10
                      go_wp2_with fail
                      refine (named_any' b c j2 s v w11 hr11 hc11 hm hgl).mono ?_
                      rintro e w12 ⟨rfl, hc12, hf12⟩
                      rw [HGD.out]
                      have hr12 := hr11.one hc11 hf12
                      have hX12 := hX11.fr hf12 hXc
                      have ho12 := ho11.fr hf12 (fun k hk e => by
                        obtain rfl : k = c := e
                        exact ho11.not hc11 (by decide) hk)
                      have HF12 := Lib.hid (HF11.out.trans hf12)
                      have HNX := Lib.hid (show paramsN ((s.data.toList.drop K2).length + 1) [] (s.data.toList.drop K2) = (if namedB (gapsR z) then paramsN ((s.data.toList.drop j2).length + 1) (ps ++ [p]) (s.data.toList.drop j2) else .ok (ps ++ [p], s.data.toList.drop j2)) by
                        rw [HPS.out, if_pos True.intro, HST.out]
                        simp only [hov, if_true]
                        rw [HGD.out])
                      have hl17 : (ps ++ [p]).length ≤ 16 := by simp; omega
                      have hz17 : ∀ q ∈ ps ++ [p], q.1.length < 100000 := by
                        intro q hq
                        rcases List.mem_append.1 hq with g | g
                        · exact hpz q g
                        · simp at g; subst g; exact HLE.out
                      clear hf12 hr11 hX11 ho11 hc11 hov hd9
                      cases hnm : namedB (gapsR z)
                      · rw [hnm] at HNX
                        go_wp2
                        go_roundw
                        case rel => exact ⟨false, ps ++ [p], pv', j2, rfl, hgl, hc12, hr12, hX12, ho12, HF12.out, hl17, hz17, HNX.out⟩
                        case measure => simp
                      · rw [hnm] at HNX
                        go_wp2
                        go_roundw
                        case rel => exact ⟨true, ps ++ [p], pv', j2, rfl, hgl, hc12, hr12, hX12, ho12, HF12.out, hl17, hz17, HNX.out⟩
                        case measure => simp only; rw [hpos.out, hc12.pos]; omega
      case rest =>
      obtain ⟨tok, ps, pv, j, hj, hc4, hr4, hX4, ho4, hf4, hE⟩ := hcut
      have HE := Lib.hid hE
      clear hE HPR2 hc3 hr3 hX3
      have hXc := hX4.ne hc4
      have hXb := hX4.neR hr4
      have hv4 := hv.fr hf4 (OffC.cur h)
      obtain ⟨rs, ho, hbb⟩ := hv4
      have hrl := hbb.len
      subst hvv
      have hoc : (Value.slice av xs.length cv).ownBlock ≠ some c := ho.not hc4 (by decide)
      have hob : (Value.slice av xs.length cv).ownBlock ≠ some b := ho.not hr4 (by decide)
      have hpc : pv.ownBlock ≠ some c := ho4.not hc4 (by decide)
      have hpb : pv.ownBlock ≠ some b := ho4.not hr4 (by decide)
      have hown : wc.ownsRow base 35 3 (.slice av xs.length cv) xs.length (rs.map chaC).flatten := by
        have hh := ho.2
        rw [List.length_map, hrl] at hh
        exact hh
      have hcl : c < wc.heap.size := hc4.lt
      have hbl : b < wc.heap.size := hr4.lt
      have hXl : X < wc.heap.size := hX4.lt
      have hbase : base ≤ wc.heap.size := Nat.le_trans hb hf4.size
      have r2 := hr4.cell2
      have rf2 := hr4.free 2
      have x0 := hX4.cell0
      have x1 := hX4.cell1
      have x2 := hX4.cell2
      have hpo : pv.oneCell' = true := ho4.oneCell
      obtain ⟨i0, hi0, hz0, hz1, hz2⟩ := info_parts info_cha
      have HONE := Lib.hid (chaC_one (r := (bA W, bA tok, pv)) hpo)
      have HO := Lib.hid ho
      have HB := Lib.hid hbb
      have HP4 := Lib.hid ho4
      have h8l : xs.length < 8 := by omega
      clear hv ho hbb ho4
      go_wp2_with fail
      go_region_law ((with_reducible refine step_at ⟨some 77, _, _, _, _, _⟩ ?_)
                     refine step_append_lies _ (by rfl) _ _ _ (by rfl) base 35 i0 _ 3 56 Tryz.underlying23 hi0 hz0 hz1 hz2 rfl (by omega) (.slice av xs.length cv) xs.length _ (by rfl) (by repeat (first | exact hown | apply World.ownsRow.alloc | apply World.ownsRow.drew)) ⟨wc.heap.size, 0, none⟩ 1 1 (chaC (bA W, bA tok, pv)) (by rfl) (by rfl) (new_cells wc (chaC (bA W, bA tok, pv)) _) HONE.out (by omega) (by unfold maxLen; omega) (by omega) (by simp; omega) (wc.heap.size + 1) (by simp) ?_
                     intro gg cap w5 hown6 hgrow hatg hlt5
                     have HF45 : Fr (fun k => (Value.slice av xs.length cv).ownBlock = some k) wc w5 := Fr.grown (by repeat (first | exact Fr.refl _ _ | apply Fr.drew | apply Fr.alloc)) hgrow (fun _ hk _ => hk)
                     have k4 : w5.cell? ⟨b, 2, none⟩ = some (.slice av xs.length cv) := (HF45.cell (p := ⟨b, 2, none⟩) hbl hob).trans r2
                     have e4 : w5.frozen? ⟨b, 2, none⟩ = false := (HF45.frozen (p := ⟨b, 2, none⟩) hbl hob).trans rf2)
      all_goals
        have hr5 : RdrAt w5 b c s (.slice av xs.length cv) := hr4.fr HF45 hob
        have hc5 : CurAt w5 c s j := hc4.fr HF45 hoc
        have hfb : Fr (one b) w5 (w5.setCell ⟨b, 2, none⟩ (.slice (some ⟨gg, 0, none⟩) (xs.length + 1) cap)) := (Fr.refl (one b) w5).setCell (p := ⟨b, 2, none⟩) (fun _ => rfl) _
        have hr6 : RdrAt (w5.setCell ⟨b, 2, none⟩ (.slice (some ⟨gg, 0, none⟩) (xs.length + 1) cap)) b c s (.slice (some ⟨gg, 0, none⟩) (xs.length + 1) cap) := setCell_heap hr5 2 _
        have hc6 := hc5.fr hfb (fun e => hbc (show c = b from e).symm)
        have hgb : gg ≠ b := by
          rintro rfl
          rcases hatg with e | e
          · exact hob e
          · omega
        have hel : ∀ (u : Value) (qs : List Par), OwnRows base 80 2 wc u (qs.map parC) → OwnRows base 80 2 (w5.setCell ⟨b, 2, none⟩ (.slice (some ⟨gg, 0, none⟩) (xs.length + 1) cap)) u (qs.map parC) := by
          intro u qs hu
          have h1 : OwnRows base 80 2 w5 u (qs.map parC) := hu.fr HF45 (fun k hk hk2 => by
            obtain ⟨cur, hcu⟩ := hu.kind hk
            obtain ⟨cur', hcu'⟩ := HO.out.kind hk2
            rw [hcu] at hcu'
            simp at hcu')
          exact h1.fr hfb (fun k hk e => by
            obtain rfl : k = b := e
            exact h1.not hr5 (by decide) hk)
        have ho5 : OwnRows base 35 3 w5 (.slice (some ⟨gg, 0, none⟩) (xs.length + 1) cap) ((rs ++ [(bA W, bA tok, pv)]).map chaC) := by
          refine ⟨?_, ?_⟩
          · intro y hy
            rw [List.map_append] at hy
            rcases List.mem_append.1 hy with g | g
            · exact HO.out.1 y g
            · simp at g; subst g; exact ⟨rfl, HONE.out⟩
          · have e1 : ((rs ++ [(bA W, bA tok, pv)]).map chaC).length = xs.length + 1 := by simp [hrl]
            have e2 : ((rs ++ [(bA W, bA tok, pv)]).map chaC).flatten = (rs.map chaC).flatten ++ chaC (bA W, bA tok, pv) := by simp
            rw [e1, e2]; exact hown6
        have ho6 := ho5.fr hfb (fun k hk e => hgb (by
          simp only [Value.ownBlock, Option.some.injEq] at hk
          rw [hk]; exact e))
        have hcs : ChasOwn base (w5.setCell ⟨b, 2, none⟩ (.slice (some ⟨gg, 0, none⟩) (xs.length + 1) cap)) (.slice (some ⟨gg, 0, none⟩) (xs.length + 1) cap) (xs ++ [⟨W, tok, ps⟩]) :=
          ⟨_, ho6, (HB.out.mono (fun r x hr => ⟨hr.1, hr.2.1, hel _ _ hr.2.2⟩)).app (.cons ⟨rfl, rfl, hel _ _ (HP4.out.up hb)⟩ .nil)⟩
        have HFF := Lib.hid (show Fr (oneS c b (.slice av xs.length cv)) w (w5.setCell ⟨b, 2, none⟩ (.slice (some ⟨gg, 0, none⟩) (xs.length + 1) cap)) from
          ((hf4.mono (fun k _ e => Or.inl e)).trans (HF45.mono (fun k _ e => Or.inr (Or.inr e)))).trans (hfb.mono (fun k _ e => Or.inr (Or.inl e))))
        clear k4 e4 hgrow hown6 hown HF45 hel
        go_wp2
        go_ret
        refine ⟨HFF.out, ?_⟩
        rw [HE.out]
        exact ⟨rfl, j, _, hj, hc6, rfl, hr6, hcs⟩
end Go.Proofs.YtegbacpenolehaaGreatDoor
