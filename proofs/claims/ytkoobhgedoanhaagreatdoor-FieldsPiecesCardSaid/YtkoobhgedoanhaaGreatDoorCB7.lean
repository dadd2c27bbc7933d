/- Package ask: the reader: one. Package ask: Parse. Challenges that lie in memory: read; ask.Get; the laws' sameChallenge at what reads the same. The first place where a predicate holds. Plain. Package cors: Get, Age, words. Function values over rows; clear over rows. -/
import Derived.Test.YtkoobhgedoanhaaGreatDoorCB6
import Derived.Test.YtkoobhgedoanhaaGreatDoorCB2
import Derived.WalkKit
import Derived.Test.YtkoobhgedoanhaaGreatDoorCB4
import Derived.Deep.RegionLaw
namespace Go.Proofs.YtkoobhgedoanhaaGreatDoor
open Go.RowKit

/-- a challenge's cells -/
abbrev ChaV := ByteArray × ByteArray × Value
def chaC (r : ChaV) : List Value := [.string r.1, .string r.2.1, r.2.2]
theorem chaC_one {r : ChaV} (h : r.2.2.oneCell' = true) : ∀ u ∈ chaC r, u.oneCell' = true := by
  intro u hu
  simp only [chaC, List.mem_cons, List.not_mem_nil, or_false] at hu
  rcases hu with rfl | rfl | rfl
  · rfl
  · rfl
  · exact h
def ChaIs (base : Nat) (w : World) (r : ChaV) (x : Cha) : Prop := r.1 = bA x.scheme ∧ r.2.1 = bA x.token ∧ OwnRows base 79 2 w r.2.2 (x.params.map parC)
/-- v is a slice of the call's own that holds the challenges xs -/
def ChasOwn (base : Nat) (w : World) (v : Value) (xs : List Cha) : Prop := ∃ rs : List ChaV, OwnRows base 38 3 w v (rs.map chaC) ∧ Both (ChaIs base w) rs xs
theorem ChasOwn.nil (base : Nat) (w : World) : ChasOwn base w (.slice none 0 0) [] := ⟨[], OwnRows.nil _ _ _ _, .nil⟩
theorem ChasOwn.form {base : Nat} {w : World} {v : Value} {xs : List Cha} (h : ChasOwn base w v xs) : ∃ a c, v = .slice a xs.length c := by
  obtain ⟨rs, h1, h2⟩ := h
  obtain ⟨a, c, e⟩ := h1.form
  exact ⟨a, c, by rw [e, List.length_map, h2.len]⟩
/-- of the blocks that S names none is of parameters, or of challenges -/
def OffC (w : World) (S : Nat → Prop) : Prop := ∀ k, S k → k < w.heap.size → ∃ cs t f, w.heap[k]? = some (.cells cs t f) ∧ t ≠ 79 ∧ t ≠ 38
theorem OffC.none (w : World) : OffC w noB := fun _ h => absurd h (fun h => h)
theorem OffC.cur {w : World} {c i : Nat} {s : ByteArray} (h : CurAt w c s i) : OffC w (one c) := fun k hk _ => by
  obtain rfl : k = c := hk
  exact ⟨_, _, _, h, by decide, by decide⟩
theorem ChasOwn.fr {base : Nat} {w w' : World} {v : Value} {xs : List Cha} {S : Nat → Prop} (h : ChasOwn base w v xs) (hf : Fr S w w') (hS : OffC w S) : ChasOwn base w' v xs := by
  obtain ⟨rs, h1, h2⟩ := h
  have key : ∀ {k : Nat} {e : TypeId} {u : Value} {ys : List (List Value)}, (e = 79 ∨ e = 38) → OwnRows base e k w u ys → OwnRows base e k w' u ys := by
    intro k e u ys he ho
    refine ho.fr hf (fun b hb hs => ?_)
    obtain ⟨cur, hc⟩ := ho.kindR hb
    obtain ⟨cs, t, f, hc', n1, n2⟩ := hS b hs (lt_of_some hc)
    rw [hc] at hc'
    cases hc'
    rcases he with rfl | rfl
    · exact n1 rfl
    · exact n2 rfl
  exact ⟨rs, key (Or.inr rfl) h1, h2.mono (fun r x hr => ⟨hr.1, hr.2.1, key (Or.inl rfl) hr.2.2⟩)⟩

/-- what one writes -/
def oneS (c b : Nat) (v : Value) : Nat → Prop := fun k => k = c ∨ k = b ∨ v.ownBlock = some k
def OnePost (base c b i : Nat) (s : ByteArray) (xs : List Cha) (v : Value) (w : World) (e : Ending) (w' : World) : Prop :=
  Fr (oneS c b v) w w' ∧ match oneR xs.length (s.data.toList.drop i) with
    | .error n => ∃ p, AtErr n p e w'
    | .ok q => e = .returned .nilIface ∧ ∃ j v', j ≤ s.size ∧ CurAt w' c s j ∧ s.data.toList.drop j = q.2 ∧ RdrAt w' b c s v' ∧ ChasOwn base w' v' (xs ++ [q.1])
theorem OnePost.bad {base c b i n p : Nat} {s : ByteArray} {xs : List Cha} {v : Value} {w w' : World} {e : Ending} (h : oneR xs.length (s.data.toList.drop i) = .error n) (hf : Fr (one c) w w') (he : AtErr n p e w') : OnePost base c b i s xs v w e w' := by
  refine ⟨hf.mono (fun k _ e => Or.inl e), ?_⟩
  rw [h]; exact ⟨p, he⟩
/-- ahead of the challenge's being kept -/
def OneMid (c b X i n : Nat) (s : ByteArray) (v : Value) (W : Bs) (w wx : World) : Prop :=
  ∃ tok ps pv j, j ≤ s.size ∧ CurAt wx c s j ∧ RdrAt wx b c s v ∧ ChaAt wx X (bA W) (bA tok) pv ∧ OwnRows w.heap.size 79 2 wx pv (ps.map parC) ∧ Fr (one c) w wx ∧
    oneR n (s.data.toList.drop i) = .ok (⟨W, tok, ps⟩, s.data.toList.drop j)

/-- at the head of a round of the parameters' loop -/
def PsRel (c b X K : Nat) (s : ByteArray) (v : Value) (W : Bs) (w : World) (t : Value) (wr : World) : Prop :=
  ∃ mb ps pv j, t = .bool mb ∧ j ≤ s.size ∧ CurAt wr c s j ∧ RdrAt wr b c s v ∧ ChaAt wr X (bA W) ⟨#[]⟩ pv ∧ OwnRows w.heap.size 79 2 wr pv (ps.map parC) ∧ Fr (one c) w wr ∧ ps.length ≤ 16 ∧ (∀ p ∈ ps, p.1.length < 100000) ∧
    paramsN ((s.data.toList.drop K).length + 1) [] (s.data.toList.drop K) = (if mb then paramsN ((s.data.toList.drop j).length + 1) ps (s.data.toList.drop j) else .ok (ps, s.data.toList.drop j))
theorem paramsN_step (ps : List Par) (r : Bs) : paramsN (r.length + 1) ps r = match paramR ps r with
    | .error e => .error e
    | .ok q => if overB q.2 then (if namedB (gapsR q.2) then paramsN ((gapsR q.2).length + 1) (ps ++ [q.1]) (gapsR q.2) else .ok (ps ++ [q.1], gapsR q.2)) else .error 3 := by
  rw [paramsN]
  cases hp : paramR ps r with
  | error e => rfl
  | ok q =>
    obtain ⟨p, r1⟩ := q
    simp only
    have h1 := paramR_le hp
    have h2 := gapsR_le r1
    rw [paramsN_fuel r.length _ _ (by omega)]
theorem info_cha : (Tryz.prog.info? 38).map (fun i => (i.zero, i.size, i.bytes)) = some (some (.agg #[.string ⟨#[]⟩, .string ⟨#[]⟩, .slice none 0 0]), 3, 56) := by kernel_rfl
theorem OwnRows.oneCell {base k : Nat} {e : TypeId} {w : World} {v : Value} {xs : List (List Value)} (h : OwnRows base e k w v xs) : v.oneCell' = true := by
  obtain ⟨a, c, e⟩ := h.form
  rw [e]; rfl
theorem blank_head (s : ByteArray) (k : Nat) : decide (k < spanEnd blankB s.data.toList k) = blankHead (s.data.toList.drop k) := by
  rcases Nat.lt_or_ge k s.data.toList.length with h | h
  · rw [List.drop_eq_getElem_cons h]
    show _ = blankB s.data.toList[k]
    cases hb : blankB s.data.toList[k]
    · rw [spanEnd_stop (fun c hc => by rw [List.getElem?_eq_getElem h] at hc; cases hc; exact hb)]; simp
    · rw [spanEnd_step (List.getElem?_eq_getElem h) hb]
      have := spanEnd_ge (p := blankB) (l := s.data.toList) (i := k + 1)
      exact decide_eq_true (by omega)
  · rw [List.drop_eq_nil_of_le h, spanEnd_stop (fun c hc => by rw [List.getElem?_eq_none h] at hc; cases hc)]
    simp [blankHead]
theorem over_blk (s : ByteArray) (k : Nat) : overB (s.data.toList.drop k) = overB (s.data.toList.drop (blk s k)) := by rw [blk_drop, overB_blanks]
theorem blk_blk (s : ByteArray) (k : Nat) : blk s (blk s k) = blk s k := span_idem _ _ _
set_option maxRecDepth 100000 in
set_option maxHeartbeats 4000000 in
theorem one_any (base b c i : Nat) (s : ByteArray) (xs : List Cha) (v : Value) (w : World) (hr : RdrAt w b c s v) (h : CurAt w c s i) (hv : ChasOwn base w v xs) (hb : base ≤ w.heap.size)
    (hs : s.size < 100000) (hi : i ≤ s.size) (hl : xs.length ≤ 8) :
    Calls Tryz.prog 59 #[.pointer (some ⟨b, 0, none⟩)] w (OnePost base c b i s xs v w) := by
  have hm : s.size ≤ maxLen := by unfold maxLen; omega
  have hbc := hr.ne h
  have q0 := hr.cell0
  have hw := wrd_le hi
  have HWD := Lib.hid (wrd_drop s i)
  have hPR0 := (show oneR xs.length (s.data.toList.drop i) = if (wordR (s.data.toList.drop i)).isEmpty then .error 3
    else if xs.length = 8 then .error 4
    else if overB (afterW (s.data.toList.drop i)) then .ok (⟨wordR (s.data.toList.drop i), [], []⟩, blanksR (afterW (s.data.toList.drop i)))
    else if !blankHead (afterW (s.data.toList.drop i)) then .error 3
    else match singleR (blanksR (afterW (s.data.toList.drop i))) with
      | some q => .ok (⟨wordR (s.data.toList.drop i), q.1, []⟩, q.2)
      | none => match paramsN ((blanksR (afterW (s.data.toList.drop i))).length + 1) [] (blanksR (afterW (s.data.toList.drop i))) with
        | .error e => .error e
        | .ok q => .ok (⟨wordR (s.data.toList.drop i), [], q.1⟩, q.2) from rfl)
  rw [← wrd_drop] at hPR0
  have hwl : (wordR (s.data.toList.drop i)).length ≤ s.size := by
    have := wordR_len (s.data.toList.drop i)
    simp at this; omega
  have HPR := Lib.hid hPR0
  clear hPR0
  go_enter Tryz.func59, Tryz.ntmps59
  go_wp2_with fail
  refine (At_any c s i w h).mono ?_
  rintro e w0 ⟨rfl, rfl⟩
  go_wp2_with fail
  refine (Word_any c s i w h hm hi).mono ?_
  rintro e w1 ⟨rfl, hc1, hf1⟩
  replace hc1 : CurAt w1 c s (wrd s i) := hc1
  rw [show s.extract i (spanEnd byteB s.data.toList i) = bA (wordR (s.data.toList.drop i)) from wrd_text s i]
  generalize wordR (s.data.toList.drop i) = W at *
  generalize wrd s i = K1 at *
  obtain ⟨wx, hwx⟩ : ∃ wx, wx = w1.alloc (.cells #[.string (bA W), .string ⟨#[]⟩, .slice none 0 0] 38) := ⟨_, rfl⟩
  have hf2 : Fr noB w1 wx := by rw [hwx]; exact (Fr.refl _ _).alloc _
  have hX : ChaAt wx w1.heap.size (bA W) ⟨#[]⟩ (.slice none 0 0) := by rw [hwx]; exact new_block _ _
  have hXw : w.heap.size ≤ w1.heap.size := hf1.size
  have hr1 := hr.one h hf1
  have hr2 := hr1.fr hf2 (fun h => h)
  have hc2 := hc1.fr hf2 (fun h => h)
  have HF2 := Lib.hid (hf1.trans hf2.ofNone)
  have HWX := Lib.hid hwx
  have HXS := Lib.hid (show wx.heap.size = w1.heap.size + 1 by rw [hwx]; simp)
  have q1a : ∀ o : Obj, (w1.alloc o).cell? ⟨b, 0, none⟩ = some (.pointer (some ⟨c, 0, none⟩)) := fun o => (hr1.fr ((Fr.refl noB w1).alloc o) (fun h => h)).cell0
  have q1b : ∀ o : Obj, (w1.alloc o).cell? ⟨b, 2, none⟩ = some v := fun o => (hr1.fr ((Fr.refl noB w1).alloc o) (fun h => h)).cell2
  obtain ⟨av, cv, hvv⟩ := hv.form
  rw [hvv] at q1b
  generalize hXe : w1.heap.size = X at *
  clear hwx q0 hf1
  cases hWe : W.isEmpty
  case true =>
    have hnn : (bA W).toList = [] := by rw [bA_toList]; exact List.isEmpty_iff.1 hWe
    have hnb : ((bA W).toList == []) = true := beq_iff_eq.2 hnn
    have HE := Lib.hid (show oneR xs.length (s.data.toList.drop i) = .error 3 by rw [HPR.out, if_pos hWe])
    go_wp2_with fail
    rw [← HWX.out]
    refine (fail_any b c K1 3 s v wx hr2 hc2).mono ?_
    rintro e w4 ⟨⟨g, rfl, hg⟩, hf4⟩
    go_wp2
    go_ret
    exact OnePost.bad HE.out (HF2.out.trans hf4.ofNone) ⟨g, rfl, hg⟩
  case false =>
    have hnn : ¬ (bA W).toList = [] := by rw [bA_toList]; intro e; rw [e] at hWe; cases hWe
    have hnb : ((bA W).toList == []) = false := beq_eq_false_iff_ne.2 hnn
    by_cases h8 : xs.length = 8
    · have h8' : ((xs.length : Int) == 8) = true := by rw [h8]; rfl
      have HE := Lib.hid (show oneR xs.length (s.data.toList.drop i) = .error 4 by rw [HPR.out, if_neg (by rw [hWe]; simp), if_pos h8])
      clear h8
      go_wp2
      go_ret
      rw [← HWX.out]
      exact OnePost.bad HE.out (HF2.out.alloc _) ⟨X + 1, rfl, by rw [← HXS.out]; exact new_block wx _⟩
    · have h8' : ((xs.length : Int) == 8) = false := beq_eq_false_iff_ne.2 (by omega)
      have HPR2 := Lib.hid (show oneR xs.length (s.data.toList.drop i) = if overB (s.data.toList.drop K1) then .ok (⟨W, [], []⟩, blanksR (s.data.toList.drop K1))
        else if !blankHead (s.data.toList.drop K1) then .error 3
        else match singleR (blanksR (s.data.toList.drop K1)) with
          | some q => .ok (⟨W, q.1, []⟩, q.2)
          | none => match paramsN ((blanksR (s.data.toList.drop K1)).length + 1) [] (blanksR (s.data.toList.drop K1)) with
            | .error e => .error e
            | .ok q => .ok (⟨W, [], q.1⟩, q.2) by rw [HPR.out, if_neg (by rw [hWe]; simp), if_neg h8])
      clear HPR hWe
      go_wp2_with fail
      rw [← HWX.out]
      refine (Blanks_any c s K1 wx hc2 hm hw).mono ?_
      rintro e w3 ⟨rfl, hc3, hf3⟩
      replace hc3 : CurAt w3 c s (blk s K1) := hc3
      have HBH := Lib.hid (show decide (K1 < spanEnd blankB s.data.toList K1) = blankHead (s.data.toList.drop K1) from blank_head s K1)
      rw [HBH.out]
      have hk2 := blk_le hw
      have HBD := Lib.hid (blk_drop s K1)
      rw [← blk_drop, over_blk] at HPR2
      have hblk := Lib.hid (blk_blk s K1)
      generalize blk s K1 = K2 at *
      have hr3 := hr2.one hc2 hf3
      have hX3 := hX.fr hf3 (fun e => hX.ne hc2 e)
      have HF3 := Lib.hid (HF2.out.trans hf3)
      clear hr1 hr2 hc1 hc2 hX hf2 hf3 q1a q1b hnn hnb h8' HBH HBD
      go_upto_block 0 with fail
      go_cut [5, 6, 7, 8] from 39 to 69 (fun _ _ _ _ wz => OneMid c b X i xs.length s v W w wz)
      case first =>
        have hXX := hX3.ne hc3
        have hXb := hX3.neR hr3
        go_wp2_with fail
        refine (over_any b c K2 s v w3 hr3 hc3 hm hk2).mono ?_
        rintro e w4 ⟨rfl, hc4, hf4⟩
        rw [hblk.out] at hc4
        have hr4 := hr3.one hc3 hf4
        have hX4 := hX3.fr hf4 hXX
        have HF4 := Lib.hid (HF3.out.trans hf4)
        clear hr3 hX3 hc3 hf4
        cases hov : overB (s.data.toList.drop K2)
        case true =>
          have HE := Lib.hid (show oneR xs.length (s.data.toList.drop i) = .ok (⟨W, [], []⟩, s.data.toList.drop K2) by rw [HPR2.out, if_pos hov])
          go_wp2_with fail
          go_meet
          exact ⟨[], [], _, K2, hk2, hc4, hr4, hX4, OwnRows.nil _ _ _ _, HF4.out, HE.out⟩
        case false =>
          cases hbh : blankHead (s.data.toList.drop K1)
          case false =>
            have HE := Lib.hid (show oneR xs.length (s.data.toList.drop i) = .error 3 by rw [HPR2.out, if_neg (by rw [hov]; simp), if_pos (by rw [hbh]; rfl)])
            go_wp2_with fail
            refine (fail_any b c K2 3 s v w4 hr4 hc4).mono ?_
            rintro e w5 ⟨⟨g, rfl, hg⟩, hf5⟩
            go_wp2
            go_ret
            exact OnePost.bad HE.out (HF4.out.trans hf5.ofNone) ⟨g, rfl, hg⟩
          case true =>
            have HPR3 := Lib.hid (show oneR xs.length (s.data.toList.drop i) = match singleR (s.data.toList.drop K2) with
              | some q => .ok (⟨W, q.1, []⟩, q.2)
              | none => match paramsN ((s.data.toList.drop K2).length + 1) [] (s.data.toList.drop K2) with
                | .error e => .error e
                | .ok q => .ok (⟨W, [], q.1⟩, q.2) by rw [HPR2.out, if_neg (by rw [hov]; simp), if_neg (by rw [hbh]; simp)])
            clear HPR2
            go_wp2_with fail
            refine (single_any b c K2 s v w4 hr4 hc4 hs hk2).mono ?_
            intro e w5 hsp
            obtain ⟨hf5, hsm⟩ := hsp
            have hr5 := hr4.one hc4 hf5
            have hX5 := hX4.fr hf5 hXX
            have HF5 := Lib.hid (HF4.out.trans hf5)
            have x1 := hX5.cell1
            have xf1 := hX5.free 1
            have HS := Lib.hid (show ∀ u : Value, Fr (one X) w5 (w5.setCell ⟨X, 1, none⟩ u) from fun u => (Fr.refl (one X) w5).setCell (p := ⟨X, 1, none⟩) (fun _ => rfl) u)
            have HF6 := Lib.hid (show ∀ u : Value, Fr (one c) w (w5.setCell ⟨X, 1, none⟩ u) from fun u => HF5.out.step (HS.out u) (fun k hk e => by have e' : k = X := e; omega))
            clear hf5
            cases hsr : singleR (s.data.toList.drop K2) with
            | some q =>
              obtain ⟨tk, z⟩ := q
              rw [hsr] at hsm
              obtain ⟨rfl, j, hj, hc5, hd5⟩ := hsm
              have HE := Lib.hid (show oneR xs.length (s.data.toList.drop i) = .ok (⟨W, tk, []⟩, s.data.toList.drop j) by rw [HPR3.out, hsr, hd5])
              have hX6 : ChaAt (w5.setCell ⟨X, 1, none⟩ (.string (bA tk))) X (bA W) (bA tk) (.slice none 0 0) := setCell_heap hX5 1 _
              have hr6 := hr5.fr (HS.out (.string (bA tk))) (fun e => hXb (show b = X from e).symm)
              have hc6 := hc5.fr (HS.out (.string (bA tk))) (fun e => hXX (show c = X from e).symm)
              clear hd5
              go_wp2_with fail
              go_meet
              exact ⟨tk, [], _, j, hj, hc6, hr6, hX6, OwnRows.nil _ _ _ _, HF6.out _, HE.out⟩
            | none =>
              rw [hsr] at hsm
              obtain ⟨rfl, hc5⟩ := hsm
              have HPN := Lib.hid (show oneR xs.length (s.data.toList.drop i) = match paramsN ((s.data.toList.drop K2).length + 1) [] (s.data.toList.drop K2) with
                | .error e => .error e
                | .ok q => .ok (⟨W, [], q.1⟩, q.2) by rw [HPR3.out, hsr])
              have hX6 : ChaAt (w5.setCell ⟨X, 1, none⟩ (.string ⟨#[]⟩)) X (bA W) ⟨#[]⟩ (.slice none 0 0) := setCell_heap hX5 1 _
              have hr6 := hr5.fr (HS.out (.string ⟨#[]⟩)) (fun e => hXb (show b = X from e).symm)
              have hc6 := hc5.fr (HS.out (.string ⟨#[]⟩)) (fun e => hXX (show c = X from e).symm)
              have HF7 := Lib.hid (HF6.out (.string ⟨#[]⟩))
              clear HPR3
              go_wp2_with fail
              clear x1 xf1
              generalize w5.setCell ⟨X, 1, none⟩ (.string ⟨#[]⟩) = w7 at *
              go_loopw [7] (PsRel c b X K2 s v W w) (fun t wr => match t with | .bool true => s.size - curPos wr c + 1 | _ => 0)
              case atStart => exact ⟨true, [], _, K2, rfl, hk2, hc6, hr6, hX6, OwnRows.nil _ _ _ _, HF7.out, by simp, by simp, rfl⟩
              case round =>
                obtain ⟨mb, ps, pv, j, rfl, hj, hc8, hr8, hX8, ho8, hfr, hp16, hpz, hpn⟩ := hrel
                have HPS := Lib.hid hpn
                clear hpn
                cases mb
                case false =>
                  have HE := Lib.hid (show oneR xs.length (s.data.toList.drop i) = .ok (⟨W, [], ps⟩, s.data.toList.drop j) by rw [HPN.out, HPS.out]; rfl)
                  go_wp2_with fail
                  go_meet
                  exact ⟨[], ps, pv, j, hj, hc8, hr8, hX8, ho8, hfr, HE.out⟩
                case true =>
                  have HST := Lib.hid (paramsN_step ps (s.data.toList.drop j))
                  have hpos := Lib.hid hc8.pos
                  have hwr : w.heap.size ≤ wr.heap.size := hfr.size
                  go_wp2_with fail
                  refine (param_any w.heap.size b c X j s v ps (bA W) ⟨#[]⟩ pv wr hr8 hc8 hX8 ho8 hwr hs hj hp16 hpz).mono ?_
                  intro e w9 hpp
                  obtain ⟨hf9, hpm⟩ := hpp
                  have hXc := hX8.ne hc8
                  have hXr := hX8.neR hr8
                  have hbo : pv.ownBlock ≠ some b := ho8.not hr8 (by decide)
                  have hr9 := hr8.fr hf9 (fun hh => by
                    rcases hh with hh | hh | hh
                    · exact hbc hh
                    · exact hXr hh.symm
                    · exact hbo hh)
                  have HF9 := Lib.hid (show Fr (one c) w w9 from hfr.step hf9 (fun k hk hh => by
                    rcases hh with hh | hh | hh
                    · exact hh
                    · omega
                    · have := ho8.block k hh; omega))
                  clear hf9 hfr ho8 hX8 hr8
                  cases hpr : paramR ps (s.data.toList.drop j) with
                  | error n =>
                    rw [hpr] at hpm
                    obtain ⟨pl, g, rfl, hg⟩ := hpm
                    have HE := Lib.hid (show oneR xs.length (s.data.toList.drop i) = .error n by
                      rw [HPN.out, HPS.out, if_pos True.intro, HST.out, hpr])
                    clear hpr
                    go_wp2_with fail
                    go_ret
                    exact OnePost.bad HE.out HF9.out ⟨g, rfl, hg⟩
                  | ok q =>
                    obtain ⟨p, z⟩ := q
                    rw [hpr] at hpm
                    obtain ⟨rfl, j1, pv', hj1, hc9, hd9, hX9, ho9⟩ := hpm
                    simp only at hd9 ho9
                    have hle := paramR_le hpr
                    rw [hpr] at HST
                    have hne16 := (paramR_ok hpr).2.2
                    have hzl : (s.data.toList.drop j).length ≤ s.size := by simp
                    have hjj : j < j1 := by
                      have e1 : z.length = s.size - j1 := by rw [← hd9]; simp
                      have e2 : (s.data.toList.drop j).length = s.size - j := by simp
                      omega
                    have HLE := Lib.hid (show p.1.length < 100000 by omega)
                    clear hpr hle hzl
                    go_wp2_with fail
                    refine (over_any b c j1 s v w9 hr9 hc9 hm hj1).mono ?_
                    rintro e w10 ⟨rfl, hc10, hf10⟩
                    have hr10 := hr9.one hc9 hf10
                    have hX10 := hX9.fr hf10 hXc
                    have ho10 := ho9.fr hf10 (fun k hk e => by
                      obtain rfl : k = c := e
                      exact ho9.not hc9 (by decide) hk)
                    have HF10 := Lib.hid (HF9.out.trans hf10)
                    have hbj := blk_le (s := s) hj1
                    have hbd := Lib.hid (blk_drop s j1)
                    rw [hd9] at hbd ⊢
                    clear hf10 hr9 hX9 ho9 hc9
                    cases hov : overB z
                    case false =>
                      have HE := Lib.hid (show oneR xs.length (s.data.toList.drop i) = .error 3 by
                        rw [HPN.out, HPS.out, if_pos True.intro, HST.out]
                        simp only [hov, Bool.false_eq_true, if_false])
                      go_wp2_with fail
                      refine (fail_any b c _ 3 s v w10 hr10 hc10).mono ?_
                      rintro e w11 ⟨⟨g, rfl, hg⟩, hf11⟩
                      go_wp2
                      go_ret
                      exact OnePost.bad HE.out (HF10.out.trans hf11.ofNone) ⟨g, rfl, hg⟩
                    case true =>
                      go_wp2_with fail
                      refine (gaps_any b c _ s v w10 hr10 hc10 hm hbj).mono ?_
                      rintro e w11 ⟨rfl, hc11, hf11⟩
                      have HGD := Lib.hid (show s.data.toList.drop (spanEnd gapB s.data.toList (blk s j1)) = gapsR z by
                        rw [drop_spanEnd, hbd.out]; exact gapsR_blanks z)
                      have hgl : spanEnd gapB s.data.toList (blk s j1) ≤ s.size := by simpa using spanEnd_le (p := gapB) (l := s.data.toList) (i := blk s j1) (by simpa using hbj)
                      have hgg : j1 ≤ spanEnd gapB s.data.toList (blk s j1) := Nat.le_trans (spanEnd_ge (p := blankB) (l := s.data.toList) (i := j1)) spanEnd_ge
                      generalize spanEnd gapB s.data.toList (blk s j1) = j2 at *
                      have hr11 := hr10.one hc10 hf11
                      have hX11 := hX10.fr hf11 hXc
                      have ho11 := ho10.fr hf11 (fun k hk e => by
                        obtain rfl : k = c := e
                        exact ho10.not hc10 (by decide) hk)
                      have HF11 := Lib.hid (HF10.out.trans hf11)
                      clear hf11 hr10 hX10 ho10 hc10
                      go_wp2_with fail
                      refine (named_any' b c j2 s v w11 hr11 hc11 hm hgl).mono ?_
                      rintro e w12 ⟨rfl, hc12, hf12⟩
                      rw [HGD.out]
                      have hr12 := hr11.one hc11 hf12
                      have hX12 := hX11.fr hf12 hXc
                      have ho12 := ho11.fr hf12 (fun k hk e => by
                        obtain rfl : k = c := e
                        exact ho11.not hc11 (by decide) hk)
                      have HF12 := Lib.hid (HF11.out.trans hf12)
                      have HNX := Lib.hid (show paramsN ((s.data.toList.drop K2).length + 1) [] (s.data.toList.drop K2) = (if namedB (gapsR z) then paramsN ((s.data.toList.drop j2).length + 1) (ps ++ [p]) (s.data.toList.drop j2) else .ok (ps ++ [p], s.data.toList.drop j2)) by
                        rw [HPS.out, if_pos True.intro, HST.out]
                        simp only [hov, if_true]
                        rw [HGD.out])
                      have hl17 : (ps ++ [p]).length ≤ 16 := by simp; omega
                      have hz17 : ∀ q ∈ ps ++ [p], q.1.length < 100000 := by
                        intro q hq
                        rcases List.mem_append.1 hq with g | g
                        · exact hpz q g
                        · simp at g; subst g; exact HLE.out
                      clear hf12 hr11 hX11 ho11 hc11 hov hd9
                      cases hnm : namedB (gapsR z)
                      · rw [hnm] at HNX
                        go_wp2
                        go_roundw
                        case rel => exact ⟨false, ps ++ [p], pv', j2, rfl, hgl, hc12, hr12, hX12, ho12, HF12.out, hl17, hz17, HNX.out⟩
                        case measure => simp
                      · rw [hnm] at HNX
                        go_wp2
                        go_roundw
                        case rel => exact ⟨true, ps ++ [p], pv', j2, rfl, hgl, hc12, hr12, hX12, ho12, HF12.out, hl17, hz17, HNX.out⟩
                        case measure => simp only; rw [hpos.out, hc12.pos]; omega
      case rest =>
      obtain ⟨tok, ps, pv, j, hj, hc4, hr4, hX4, ho4, hf4, hE⟩ := hcut
      have HE := Lib.hid hE
      clear hE HPR2 hc3 hr3 hX3
      have hXc := hX4.ne hc4
      have hXb := hX4.neR hr4
      have hv4 := hv.fr hf4 (OffC.cur h)
      obtain ⟨rs, ho, hbb⟩ := hv4
      have hrl := hbb.len
      subst hvv
      have hoc : (Value.slice av xs.length cv).ownBlock ≠ some c := ho.not hc4 (by decide)
      have hob : (Value.slice av xs.length cv).ownBlock ≠ some b := ho.not hr4 (by decide)
      have hpc : pv.ownBlock ≠ some c := ho4.not hc4 (by decide)
      have hpb : pv.ownBlock ≠ some b := ho4.not hr4 (by decide)
      have hown : wc.ownsRow base 38 3 (.slice av xs.length cv) xs.length (rs.map chaC).flatten := by
        have hh := ho.2
        rw [List.length_map, hrl] at hh
        exact hh
      have hcl : c < wc.heap.size := hc4.lt
      have hbl : b < wc.heap.size := hr4.lt
      have hXl : X < wc.heap.size := hX4.lt
      have hbase : base ≤ wc.heap.size := Nat.le_trans hb hf4.size
      have r2 := hr4.cell2
      have rf2 := hr4.free 2
      have x0 := hX4.cell0
      have x1 := hX4.cell1
      have x2 := hX4.cell2
      have hpo : pv.oneCell' = true := ho4.oneCell
      obtain ⟨i0, hi0, hz0, hz1, hz2⟩ := info_parts info_cha
      have HONE := Lib.hid (chaC_one (r := (bA W, bA tok, pv)) hpo)
      have HO := Lib.hid ho
      have HB := Lib.hid hbb
      have HP4 := Lib.hid ho4
      have h8l : xs.length < 8 := by omega
      clear hv ho hbb ho4
      go_wp2_with fail
      go_region_law ((with_reducible refine step_at ⟨some 77, _, _, _, _, _⟩ ?_)
                     refine step_append_lies _ (by rfl) _ _ _ (by rfl) base 38 i0 _ 3 56 Tryz.underlying33 hi0 hz0 hz1 hz2 rfl (by omega) (.slice av xs.length cv) xs.length _ (by rfl) (by repeat (first | exact hown | apply World.ownsRow.alloc | apply World.ownsRow.drew)) ⟨wc.heap.size, 0, none⟩ 1 1 (chaC (bA W, bA tok, pv)) (by rfl) (by rfl) (new_cells wc (chaC (bA W, bA tok, pv)) _) HONE.out (by omega) (by unfold maxLen; omega) (by omega) (by simp; omega) (wc.heap.size + 1) (by simp) ?_
                     intro gg cap w5 hown6 hgrow hatg hlt5
                     have HF45 : Fr (fun k => (Value.slice av xs.length cv).ownBlock = some k) wc w5 := Fr.grown (by repeat (first | exact Fr.refl _ _ | apply Fr.drew | apply Fr.alloc)) hgrow (fun _ hk _ => hk)
                     have k4 : w5.cell? ⟨b, 2, none⟩ = some (.slice av xs.length cv) := (HF45.cell (p := ⟨b, 2, none⟩) hbl hob).trans r2
                     have e4 : w5.frozen? ⟨b, 2, none⟩ = false := (HF45.frozen (p := ⟨b, 2, none⟩) hbl hob).trans rf2)
      all_goals
        have hr5 : RdrAt w5 b c s (.slice av xs.length cv) := hr4.fr HF45 hob
        have hc5 : CurAt w5 c s j := hc4.fr HF45 hoc
        have hfb : Fr (one b) w5 (w5.setCell ⟨b, 2, none⟩ (.slice (some ⟨gg, 0, none⟩) (xs.length + 1) cap)) := (Fr.refl (one b) w5).setCell (p := ⟨b, 2, none⟩) (fun _ => rfl) _
        have hr6 : RdrAt (w5.setCell ⟨b, 2, none⟩ (.slice (some ⟨gg, 0, none⟩) (xs.length + 1) cap)) b c s (.slice (some ⟨gg, 0, none⟩) (xs.length + 1) cap) := setCell_heap hr5 2 _
        have hc6 := hc5.fr hfb (fun e => hbc (show c = b from e).symm)
        have hgb : gg ≠ b := by
          rintro rfl
          rcases hatg with e | e
          · exact hob e
          · omega
        have hel : ∀ (u : Value) (qs : List Par), OwnRows base 79 2 wc u (qs.map parC) → OwnRows base 79 2 (w5.setCell ⟨b, 2, none⟩ (.slice (some ⟨gg, 0, none⟩) (xs.length + 1) cap)) u (qs.map parC) := by
          intro u qs hu
          have h1 : OwnRows base 79 2 w5 u (qs.map parC) := hu.fr HF45 (fun k hk hk2 => by
            obtain ⟨cur, hcu⟩ := hu.kindR hk
            obtain ⟨cur', hcu'⟩ := HO.out.kindR hk2
            rw [hcu] at hcu'
            simp at hcu')
          exact h1.fr hfb (fun k hk e => by
            obtain rfl : k = b := e
            exact h1.not hr5 (by decide) hk)
        have ho5 : OwnRows base 38 3 w5 (.slice (some ⟨gg, 0, none⟩) (xs.length + 1) cap) ((rs ++ [(bA W, bA tok, pv)]).map chaC) := by
          refine ⟨?_, ?_⟩
          · intro y hy
            rw [List.map_append] at hy
            rcases List.mem_append.1 hy with g | g
            · exact HO.out.1 y g
            · simp at g; subst g; exact ⟨rfl, HONE.out⟩
          · have e1 : ((rs ++ [(bA W, bA tok, pv)]).map chaC).length = xs.length + 1 := by simp [hrl]
            have e2 : ((rs ++ [(bA W, bA tok, pv)]).map chaC).flatten = (rs.map chaC).flatten ++ chaC (bA W, bA tok, pv) := by simp
            rw [e1, e2]; exact hown6
        have ho6 := ho5.fr hfb (fun k hk e => hgb (by
          simp only [Value.ownBlock, Option.some.injEq] at hk
          rw [hk]; exact e))
        have hcs : ChasOwn base (w5.setCell ⟨b, 2, none⟩ (.slice (some ⟨gg, 0, none⟩) (xs.length + 1) cap)) (.slice (some ⟨gg, 0, none⟩) (xs.length + 1) cap) (xs ++ [⟨W, tok, ps⟩]) :=
          ⟨_, ho6, (HB.out.mono (fun r x hr => ⟨hr.1, hr.2.1, hel _ _ hr.2.2⟩)).app (.cons ⟨rfl, rfl, hel _ _ (HP4.out.up hb)⟩ .nil)⟩
        have HFF := Lib.hid (show Fr (oneS c b (.slice av xs.length cv)) w (w5.setCell ⟨b, 2, none⟩ (.slice (some ⟨gg, 0, none⟩) (xs.length + 1) cap)) from
          ((hf4.mono (fun k _ e => Or.inl e)).trans (HF45.mono (fun k _ e => Or.inr (Or.inr e)))).trans (hfb.mono (fun k _ e => Or.inr (Or.inl e))))
        clear k4 e4 hgrow hown6 hown HF45 hel
        go_wp2
        go_ret
        refine ⟨HFF.out, ?_⟩
        rw [HE.out]
        exact ⟨rfl, j, _, hj, hc6, rfl, hr6, hcs⟩
end Go.Proofs.YtkoobhgedoanhaaGreatDoor

namespace Go.Proofs.YtkoobhgedoanhaaGreatDoor
open Go.RowKit

/-- an error that is one, or one at a place -/
def ErrN (n : Nat) (er : Value) (w' : World) : Prop :=
  er = .iface 93 (.int .i64 n) ∨ ∃ g p, er = .iface 148 (.pointer (some ⟨g, 0, none⟩)) ∧ w'.heap[g]? = some (.cells #[.int .i64 n, .int .i64 p] 150 (0, 0))
def ParsePost (s : ByteArray) (w : World) (e : Ending) (w' : World) : Prop :=
  Fr noB w w' ∧ match chasL s.data.toList with
    | .error n => ∃ er, e = .returned (.tuple #[.slice none 0 0, er]) ∧ ErrN n er w'
    | .ok l => ∃ v, e = .returned (.tuple #[v, .nilIface]) ∧ ChasOwn w.heap.size w' v l
theorem ParsePost.bad {s : ByteArray} {w w' : World} {n : Nat} {er : Value} (h : chasL s.data.toList = .error n) (hf : Fr noB w w') (he : ErrN n er w') : ParsePost s w (.returned (.tuple #[.slice none 0 0, er])) w' := by
  refine ⟨hf, ?_⟩
  rw [h]; exact ⟨er, rfl, he⟩
theorem ParsePost.ok {s : ByteArray} {w w' : World} {v : Value} {l : List Cha} (h : chasL s.data.toList = .ok l) (hf : Fr noB w w') (hv : ChasOwn w.heap.size w' v l) : ParsePost s w (.returned (.tuple #[v, .nilIface])) w' := by
  refine ⟨hf, ?_⟩
  rw [h]; exact ⟨v, rfl, hv⟩
theorem parseN_step (acc : List Cha) (r : Bs) : parseN (r.length + 1) acc r = if (gapsR r).isEmpty then .ok acc else
    match oneR acc.length (gapsR r) with
    | .error e => .error e
    | .ok q => parseN (q.2.length + 1) (acc ++ [q.1]) q.2 := by
  rw [parseN]
  split
  · rfl
  · cases ho : oneR acc.length (gapsR r) with
    | error e => rfl
    | ok q =>
      obtain ⟨x, r1⟩ := q
      have h1 := oneR_le ho
      have h2 := gapsR_le r
      simp only
      rw [parseN_fuel r.length _ _ (by omega)]
/-- at the head of a round: behind the gaps -/
def PrRel (s : ByteArray) (w : World) (wr : World) : Prop :=
  ∃ acc v j, j ≤ s.size ∧ RdrAt wr (w.heap.size + 1) w.heap.size s v ∧ CurAt wr w.heap.size s j ∧ ChasOwn w.heap.size wr v acc ∧ Fr noB w wr ∧ acc.length ≤ 8 ∧ gapsR (s.data.toList.drop j) = s.data.toList.drop j ∧
    chasL s.data.toList = parseN ((s.data.toList.drop j).length + 1) acc (s.data.toList.drop j)

set_option maxRecDepth 100000 in
set_option maxHeartbeats 4000000 in
theorem Parse_ask (s : ByteArray) (w : World) (hs : s.size ≤ 140737488351232) :
    Calls Tryz.prog 17 #[.string s] w (ParsePost s w) := by
  by_cases h3 : 3000 < s.size
  · have h3' : (3000 : Int) < (s.size : Int) := by omega
    have HE := Lib.hid (show chasL s.data.toList = .error 4 by unfold chasL; rw [if_pos (by simpa using h3)])
    go_enter Tryz.func17, Tryz.ntmps17
    go_wp2
    go_ret2
    exact ParsePost.bad HE.out (Fr.refl _ _) (Or.inl rfl)
  · have h3' : ¬ (3000 : Int) < (s.size : Int) := by omega
    have hm : s.size ≤ maxLen := by unfold maxLen; omega
    have HC := Lib.hid (show chasL s.data.toList = parseN (s.data.toList.length + 1) [] s.data.toList by unfold chasL; rw [if_neg (by simpa using h3)])
    go_enter Tryz.func17, Tryz.ntmps17
    go_wp2_with fail
    refine (On_any s w).mono ?_
    rintro e w1 ⟨rfl, hw1⟩
    have hc1 : CurAt w1 w.heap.size s 0 := by rw [hw1]; exact new_block _ _
    have hs1 : w1.heap.size = w.heap.size + 1 := by rw [hw1]; simp
    have hf1 : Fr noB w w1 := by rw [hw1]; exact (Fr.refl _ _).alloc _
    clear hw1
    obtain ⟨w2, hw2⟩ : ∃ w2, w2 = w1.alloc (.cells #[.pointer (some ⟨w.heap.size, 0, none⟩), .string s, .slice none 0 0] 105) := ⟨_, rfl⟩
    have hr2 : RdrAt w2 (w.heap.size + 1) w.heap.size s (.slice none 0 0) := by rw [hw2, ← hs1]; exact new_block _ _
    have hf12 : Fr noB w1 w2 := by rw [hw2]; exact (Fr.refl _ _).alloc _
    have hc2 := hc1.fr hf12 (fun h => h)
    have HF2 := Lib.hid (hf1.trans hf12)
    have HW2 := Lib.hid hw2
    clear hw2 hf1 hf12 hc1
    go_wp2_with fail
    rw [← HW2.out]
    refine (gaps_any _ _ 0 s _ w2 hr2 hc2 hm (Nat.zero_le _)).mono ?_
    rintro e w3 ⟨rfl, hc3, hf3⟩
    have hgl : spanEnd gapB s.data.toList 0 ≤ s.size := by simpa using spanEnd_le (p := gapB) (l := s.data.toList) (i := 0) (Nat.zero_le _)
    have HGD := Lib.hid (show s.data.toList.drop (spanEnd gapB s.data.toList 0) = gapsR s.data.toList by rw [drop_spanEnd, List.drop_zero]; rfl)
    generalize spanEnd gapB s.data.toList 0 = j0 at *
    have hr3 := hr2.one hc2 hf3
    have HF3 := Lib.hid (HF2.out.newOne hf3 (Nat.le_refl _))
    have HC3 := Lib.hid (show chasL s.data.toList = parseN ((s.data.toList.drop j0).length + 1) [] (s.data.toList.drop j0) by
      rw [HC.out, parseN_gaps _ _ (show gapsR s.data.toList = gapsR (s.data.toList.drop j0) by rw [HGD.out, gapsR_gapsR])]
      exact parseN_fuel _ _ _ (by rw [HGD.out]; have := gapsR_le s.data.toList; omega))
    have HG3 := Lib.hid (show gapsR (s.data.toList.drop j0) = s.data.toList.drop j0 by rw [HGD.out, gapsR_gapsR])
    clear hf3 hr2 hc2 hs1 HW2
    go_wp2
    go_loopw [] (PrRel s w) (fun wr => s.size - curPos wr w.heap.size)
    case atStart => exact ⟨[], _, j0, hgl, hr3, hc3, ChasOwn.nil _ _, HF3.out, by simp, HG3.out, HC3.out⟩
    case round =>
      obtain ⟨acc, v, j, hj, hr4, hc4, hv4, hfr, hl8, hgj, hcl⟩ := hrel
      have HCL := Lib.hid hcl
      have HGJ := Lib.hid hgj
      clear hcl hgj HC3 HG3 HGD hr3 hc3
      have hpos := Lib.hid hc4.pos
      have q0 := hr4.cell0
      have HST := Lib.hid (parseN_step acc (s.data.toList.drop j))
      rw [HGJ.out] at HST
      go_wp2_with fail
      refine (End_any _ s j wr hc4).mono ?_
      rintro e w5 ⟨rfl, n5, rfl⟩
      by_cases hend : s.size ≤ j
      · have hd : decide (s.size ≤ j) = true := decide_eq_true hend
        have HE := Lib.hid (show chasL s.data.toList = .ok acc by
          rw [HCL.out, HST.out, List.drop_eq_nil_of_le (by simpa using hend)]; rfl)
        have q2 := hr4.cell2
        rw [hd]
        go_wp2
        go_ret2
        exact ParsePost.ok HE.out (hfr.drewN _) (hv4.fr ((Fr.refl noB wr).drewN n5) (OffC.none _))
      · have hd : decide (s.size ≤ j) = false := decide_eq_false hend
        rw [hd]
        have hne : (s.data.toList.drop j).isEmpty = false := by
          cases e : s.data.toList.drop j with
          | nil =>
            have := congrArg List.length e
            simp at this; omega
          | cons a l => rfl
        rw [hne] at HST
        have hr5 := hr4.drewN (n := n5)
        have hc5 := hc4.drewN n5
        have hv5 := hv4.fr ((Fr.refl noB wr).drewN n5) (OffC.none _)
        have hfr5 := hfr.drewN n5
        have hbw : w.heap.size ≤ (wr.drewN n5).heap.size := hfr5.size
        generalize wr.drewN n5 = w5 at *
        go_wp2_with fail
        refine (one_any w.heap.size _ _ j s acc v w5 hr5 hc5 hv5 hbw (by omega) hj hl8).mono ?_
        intro e w6 hp
        obtain ⟨hf6, hm6⟩ := hp
        have hvb : ∀ k, v.ownBlock = some k → w.heap.size ≤ k := by
          obtain ⟨rs, h1, _⟩ := hv5
          exact h1.block
        have HF6 := Lib.hid (show Fr noB w w6 from hfr5.step hf6 (fun k hk hh => by
          rcases hh with hh | hh | hh
          · omega
          · omega
          · have := hvb k hh; omega))
        cases ho : oneR acc.length (s.data.toList.drop j) with
        | error n =>
          rw [ho] at hm6
          obtain ⟨p, g, rfl, hg⟩ := hm6
          have HE := Lib.hid (show chasL s.data.toList = .error n by rw [HCL.out, HST.out, ho]; rfl)
          clear ho
          go_wp2
          go_ret2
          exact ParsePost.bad HE.out HF6.out (Or.inr ⟨g, p, rfl, hg⟩)
        | ok q =>
          obtain ⟨x, z⟩ := q
          rw [ho] at hm6
          obtain ⟨rfl, j1, v', hj1, hc6, hd6, hr6, hv6⟩ := hm6
          simp only at hd6 hv6
          have hole := oneR_le ho
          have hk8 := (oneR_ok ho).2
          have hjj : j < j1 := by
            have e1 : z.length = s.size - j1 := by rw [← hd6]; simp
            have e2 : (s.data.toList.drop j).length = s.size - j := by simp
            omega
          have HS2 := Lib.hid (show chasL s.data.toList = parseN (z.length + 1) (acc ++ [x]) z by rw [HCL.out, HST.out, ho]; rfl)
          clear ho hole
          go_wp2_with fail
          refine (gaps_any _ _ j1 s v' w6 hr6 hc6 hm hj1).mono ?_
          rintro e w7 ⟨rfl, hc7, hf7⟩
          have hgl7 : spanEnd gapB s.data.toList j1 ≤ s.size := by simpa using spanEnd_le (p := gapB) (l := s.data.toList) (i := j1) (by simpa using hj1)
          have hgg : j1 ≤ spanEnd gapB s.data.toList j1 := spanEnd_ge
          have HG7 := Lib.hid (show s.data.toList.drop (spanEnd gapB s.data.toList j1) = gapsR z by rw [drop_spanEnd, hd6]; rfl)
          generalize spanEnd gapB s.data.toList j1 = j2 at *
          have hr7 := hr6.one hc6 hf7
          have hv7 := hv6.fr hf7 (OffC.cur hc6)
          have HF7 := Lib.hid (HF6.out.newOne hf7 (Nat.le_refl _))
          have HS7 := Lib.hid (show chasL s.data.toList = parseN ((s.data.toList.drop j2).length + 1) (acc ++ [x]) (s.data.toList.drop j2) by
            rw [HS2.out, parseN_gaps _ _ (show gapsR z = gapsR (s.data.toList.drop j2) by rw [HG7.out, gapsR_gapsR])]
            exact parseN_fuel _ _ _ (by rw [HG7.out]; have := gapsR_le z; omega))
          have HGG := Lib.hid (show gapsR (s.data.toList.drop j2) = s.data.toList.drop j2 by rw [HG7.out, gapsR_gapsR])
          go_wp2
          go_roundw
          case rel => exact ⟨acc ++ [x], v', j2, hgl7, hr7, hc7, hv7, HF7.out, by simp; omega, HGG.out, HS7.out⟩
          case measure => rw [hpos.out, hc7.pos]; omega
end Go.Proofs.YtkoobhgedoanhaaGreatDoor

namespace Go.Proofs.YtkoobhgedoanhaaGreatDoor
open Go.RowKit

/-- challenges of sizes that can be printed -/
structure Cha.Fit (x : Cha) : Prop where
  scheme : x.scheme.length ≤ 100000
  token : x.token.length ≤ 100000
  few : x.params.length ≤ 16
  pars : ∀ p ∈ x.params, p.1.length ≤ 99999 ∧ p.2.length ≤ 99999
def ParsAt (w : World) (v : Value) (ps : List Par) : Prop := RowsAt 2 w v (ps.map parC)
/-- a challenge's cells read as x -/
def ChaRd (w : World) (r : ChaV) (x : Cha) : Prop := r.1 = bA x.scheme ∧ r.2.1 = bA x.token ∧ ParsAt w r.2.2 x.params
/-- v reads as the challenges xs -/
def ChasAt (w : World) (v : Value) (xs : List Cha) : Prop := ∃ rs : List ChaV, RowsAt 3 w v (rs.map chaC) ∧ Both (ChaRd w) rs xs
theorem ChaIs.rd {base : Nat} {w : World} {r : ChaV} {x : Cha} (h : ChaIs base w r x) : ChaRd w r x := ⟨h.1, h.2.1, h.2.2.at⟩
theorem ChasOwn.at {base : Nat} {w : World} {v : Value} {xs : List Cha} (h : ChasOwn base w v xs) : ChasAt w v xs := by
  obtain ⟨rs, h1, h2⟩ := h
  exact ⟨rs, h1.at, h2.mono (fun _ _ h => h.rd)⟩
theorem ChaRd.frNone {w w' : World} {r : ChaV} {x : Cha} (h : ChaRd w r x) (hf : Fr noB w w') : ChaRd w' r x := ⟨h.1, h.2.1, RowsAt.frNone h.2.2 hf⟩
theorem ChasAt.frNone {w w' : World} {v : Value} {xs : List Cha} (h : ChasAt w v xs) (hf : Fr noB w w') : ChasAt w' v xs := by
  obtain ⟨rs, h1, h2⟩ := h
  exact ⟨rs, h1.frNone hf, h2.mono (fun _ _ h => h.frNone hf)⟩
theorem ChasAt.form {w : World} {v : Value} {xs : List Cha} (h : ChasAt w v xs) : ∃ a c, v = .slice a xs.length c := by
  obtain ⟨rs, h1, h2⟩ := h
  obtain ⟨a, c, e⟩ := h1.form
  exact ⟨a, c, by rw [e, List.length_map, h2.len]⟩
theorem ParsAt.form {w : World} {v : Value} {ps : List Par} (h : ParsAt w v ps) : ∃ a c, v = .slice a ps.length c := by
  obtain ⟨a, c, e⟩ := RowsAt.form h
  exact ⟨a, c, by rw [e, List.length_map]⟩
/-- the cells of the element k of parameters -/
theorem ParsAt.cells {w : World} {a : Option Addr} {n c k : Nat} {ps : List Par} {p : Par} (h : ParsAt w (.slice a n c) ps) (hk : ps[k]? = some p) :
    ∃ bk o, a = some ⟨bk, o, none⟩ ∧ n ≤ c ∧ c ≤ maxLen ∧ w.cell? ⟨bk, o + k * 2, none⟩ = some (.string (bA p.1)) ∧ w.cell? ⟨bk, o + k * 2 + 1, none⟩ = some (.string (bA p.2)) := by
  have hl := (List.getElem?_eq_some_iff.1 hk).1
  rcases h.2 with ⟨_, _, _, e, _⟩ | ⟨bk, o, c', hf, h1, h2, h3, h4⟩
  · have : ps.length = 0 := by have := congrArg List.length e; simpa using this
    omega
  · cases hf
    have hc := h4 k (parC p) (by rw [List.getElem?_map, hk]; rfl)
    exact ⟨bk, o, rfl, h1, h2, hc 0 _ rfl, hc 1 _ rfl⟩

/-! ### Get -/
def GetV (ps : List Par) (name : Bs) : Value := .tuple #[.string (bA ((getP ps name).getD [])), .bool (getP ps name).isSome]
theorem getP_hit {ps : List Par} {k : Nat} {p : Par} {n : Bs} (h : ps[k]? = some p) (hp : sameL p.1 n = true) (hn : (ps.take k).any (fun q => sameL q.1 n) = false) : getP ps n = some p.2 := by
  unfold getP
  have : ps.find? (fun q => sameL q.1 n) = some p := by
    induction ps generalizing k with
    | nil => simp at h
    | cons a l ih =>
      cases k with
      | zero => simp at h; subst h; simp [hp]
      | succ k =>
        simp only [List.take_succ_cons, List.any_cons, Bool.or_eq_false_iff] at hn
        rw [List.find?_cons, hn.1]
        exact ih (by simpa using h) hn.2
  rw [this]; rfl
theorem getP_none {ps : List Par} {n : Bs} (hn : ps.any (fun q => sameL q.1 n) = false) : getP ps n = none := by
  unfold getP
  have : ps.find? (fun q => sameL q.1 n) = none := by
    rw [List.find?_eq_none]; intro q hq
    rw [List.any_eq_false] at hn
    exact hn q hq
  rw [this]; rfl
def GtRel (ps : List Par) (n : Bs) (w : World) (t : Value) (wr : World) : Prop := ∃ k : Nat, k ≤ ps.length ∧ t = .int .i64 k ∧ (ps.take k).any (fun q => sameL q.1 n) = false ∧ Fr noB w wr
/-- parameters of sizes that can be -/
def ParsFit (ps : List Par) : Prop := ps.length ≤ 1000000 ∧ ∀ p ∈ ps, p.1.length < 17592186044416 ∧ p.2.length < 17592186044416
set_option maxRecDepth 100000 in
set_option maxHeartbeats 2000000 in
theorem Get_any (sc tok : ByteArray) (pv : Value) (ps : List Par) (name : ByteArray) (w : World) (h : ParsAt w pv ps) (hz : ParsFit ps) (hn : name.size < 17592186044416) :
    Calls Tryz.prog 20 #[.agg #[.string sc, .string tok, pv], .string name] w fun e w' => e = .returned (GetV ps name.data.toList) ∧ Fr noB w w' := by
  obtain ⟨av, cv, hv⟩ := h.form
  subst hv
  obtain ⟨w1, hw1⟩ : ∃ w1, w1 = w.alloc (.cells #[.string sc, .string tok, .slice av ps.length cv] 38) := ⟨_, rfl⟩
  have hf1 : Fr noB w w1 := by rw [hw1]; exact (Fr.refl _ _).alloc _
  have hp1 : ParsAt w1 (.slice av ps.length cv) ps := RowsAt.frNone h hf1
  have HW1 := Lib.hid hw1
  have HZ := Lib.hid hz
  have hlz := hz.1
  clear hw1 h hz
  go_enter Tryz.func20, Tryz.ntmps20
  go_wp2_with fail
  rw [← HW1.out]
  go_loopw [11] (GtRel ps name.data.toList w1) (fun t _ => ps.length - (intOf t).toNat)
  case atStart => exact ⟨0, Nat.zero_le _, rfl, rfl, Fr.refl _ _⟩
  case round =>
    obtain ⟨k, hk, rfl, hn1, hfr⟩ := hrel
    have HN := Lib.hid hn1
    clear hn1
    by_cases hks : k < ps.length
    · have hki : (k : Int) < (ps.length : Int) := by omega
      have hat := Lib.hid (List.getElem?_eq_getElem hks)
      have hzk := Lib.hid (HZ.out.2 _ (List.getElem_mem hks))
      generalize ps[k] = q at hat hzk
      obtain ⟨nm, vl⟩ := q
      obtain ⟨bk, of, rfl, h1, h2, c0, c1⟩ := ParsAt.cells (RowsAt.frNone hp1 hfr) hat.out
      unfold maxLen at h2
      simp only at c0 c1
      obtain ⟨wb, hwb⟩ : ∃ wb, wb = wr.alloc (.cells #[.string (bA nm), .string (bA vl)] 79) := ⟨_, rfl⟩
      have hfb : Fr noB wr wb := by rw [hwb]; exact (Fr.refl noB wr).alloc _
      have hbb : wb.heap[wr.heap.size]? = some (.cells #[.string (bA nm), .string (bA vl)] 79 (0, 0)) := by rw [hwb]; exact new_block _ _
      have HWB := Lib.hid hwb
      clear hwb
      go_wp2_with fail
      rw [← HWB.out]
      refine (Same_any (bA nm) name wb (by have h := hzk.out.1; exact h) hn).mono ?_
      rintro e w8 ⟨rfl, hf8⟩
      rw [bA_data]
      have HF8 := Lib.hid ((hfr.trans hfb).trans hf8)
      cases hsm : sameL nm name.data.toList
      · have hnx := Lib.hid (any_take_succP hat.out HN.out hsm)
        go_wp2
        go_roundw
        case rel => exact ⟨k + 1, by omega, by go_num, hnx.out, HF8.out⟩
        case measure => simp [intOf]; omega
      · have HE := Lib.hid (getP_hit hat.out hsm HN.out)
        have hb8 := hf8.keep hbb (fun h => h)
        have c1 : w8.cell? ⟨wr.heap.size, 1, none⟩ = some (.string (bA vl)) := by simp [World.cell?, hb8]
        go_wp2
        go_ret2
        refine ⟨?_, hf1.trans HF8.out⟩
        unfold GetV
        rw [HE.out]; rfl
    · have hki : ¬ (k : Int) < (ps.length : Int) := by omega
      have HE := Lib.hid (show getP ps name.data.toList = none from getP_none (by have h := HN.out; rw [List.take_of_length_le (by omega)] at h; exact h))
      go_wp2
      go_ret2
      refine ⟨?_, hf1.trans hfr⟩
      unfold GetV
      rw [HE.out]; rfl

/-- the cells of the challenge k -/
theorem ChasAt.cells {w : World} {a : Option Addr} {n c k : Nat} {xs : List Cha} {x : Cha} (h : ChasAt w (.slice a n c) xs) (hk : xs[k]? = some x) :
    ∃ bk o pv, a = some ⟨bk, o, none⟩ ∧ n ≤ c ∧ c ≤ maxLen ∧ w.cell? ⟨bk, o + k * 3, none⟩ = some (.string (bA x.scheme)) ∧ w.cell? ⟨bk, o + k * 3 + 1, none⟩ = some (.string (bA x.token)) ∧ w.cell? ⟨bk, o + k * 3 + 2, none⟩ = some pv ∧ ParsAt w pv x.params := by
  obtain ⟨rs, hr, hb⟩ := h
  have hl := (List.getElem?_eq_some_iff.1 hk).1
  have hrl := hb.len
  obtain ⟨r, hri⟩ : ∃ r, rs[k]? = some r := ⟨_, List.getElem?_eq_getElem (by omega)⟩
  obtain ⟨x', hx', e1, e2, e3⟩ := hb.get hri
  rw [hk] at hx'
  cases hx'
  rcases hr.2 with ⟨_, _, _, e, _⟩ | ⟨bk, o, c', hf, h1, h2, h3, h4⟩
  · have : rs.length = 0 := by have := congrArg List.length e; simpa using this
    omega
  · cases hf
    have hc := h4 k (chaC r) (by rw [List.getElem?_map, hri]; rfl)
    exact ⟨bk, o, r.2.2, rfl, h1, h2, by rw [← e1]; exact hc 0 _ rfl, by rw [← e2]; exact hc 1 _ rfl, hc 2 _ rfl, e3⟩

end Go.Proofs.YtkoobhgedoanhaaGreatDoor

namespace Go.Proofs.YtkoobhgedoanhaaGreatDoor

/-- the first place where p holds, or -1 -/
def idxP {α : Type} (p : α → Bool) : List α → Nat → Int
  | [], _ => -1
  | x :: l, i => if p x then i else idxP p l (i + 1)
theorem idxP_any {α : Type} (p : α → Bool) : ∀ (l : List α) (i : Nat), decide (0 ≤ idxP p l i) = l.any p
  | [], _ => rfl
  | x :: l, i => by
    rw [idxP, List.any_cons]
    cases h : p x
    · simp only [Bool.false_eq_true, if_false, Bool.false_or]; exact idxP_any p l (i + 1)
    · simp
theorem idxP_hit {α : Type} {p : α → Bool} {l : List α} {k i : Nat} {x : α} (h : l[k]? = some x) (hp : p x = true) (hn : (l.take k).any p = false) : idxP p l i = ((i + k : Nat) : Int) := by
  induction l generalizing k i with
  | nil => simp at h
  | cons a l ih =>
    cases k with
    | zero => simp at h; subst h; rw [idxP, if_pos hp]; rfl
    | succ k =>
      simp only [List.getElem?_cons_succ] at h
      simp only [List.take_succ_cons, List.any_cons, Bool.or_eq_false_iff] at hn
      rw [idxP, hn.1]
      simp only [Bool.false_eq_true, if_false]
      rw [ih h hn.2]; congr 1; omega
theorem idxP_none {α : Type} {p : α → Bool} {l : List α} {i : Nat} (hn : l.any p = false) : idxP p l i = -1 := by
  induction l generalizing i with
  | nil => rfl
  | cons a l ih =>
    simp only [List.any_cons, Bool.or_eq_false_iff] at hn
    rw [idxP, hn.1]
    simp only [Bool.false_eq_true, if_false]
    exact ih hn.2
theorem any_take_succ {α : Type} {p : α → Bool} {l : List α} {k : Nat} {x : α} (h : l[k]? = some x) (hn : (l.take k).any p = false) (hp : p x = false) : (l.take (k + 1)).any p = false := by
  rw [List.take_add_one, h]; simp only [List.any_append, hn, Option.toList_some, List.any_cons, hp, List.any_nil, Bool.or_false]

theorem take_snocG {α : Type} {l : List α} {k : Nat} {x : α} (h : l[k]? = some x) : l.take (k + 1) = l.take k ++ [x] := by rw [List.take_add_one, h]; rfl
end Go.Proofs.YtkoobhgedoanhaaGreatDoor

namespace Go.Proofs.YtkoobhgedoanhaaGreatDoor
open Go.RowKit

theorem Strs.up {base b' : Nat} {w : World} {v : Value} {ss : List ByteArray} (h : Strs b' w v ss) (hb : base ≤ b') : Strs base w v ss := by
  obtain ⟨h1, h2⟩ := h
  refine ⟨h1, ?_⟩
  rcases h2 with h2 | ⟨g, cap, cur, hv, hg, r⟩
  · exact Or.inl h2
  · exact Or.inr ⟨g, cap, cur, hv, Nat.le_trans hb hg, r⟩
/-- params of sizes that answers can have -/
def ParsSmall (ps : List Par) : Prop := ps.length ≤ 1000 ∧ ∀ p ∈ ps, p.1.length ≤ 100000 ∧ p.2.length ≤ 100000
theorem ParsSmall.fit {ps : List Par} (h : ParsSmall ps) : ParsFit ps := ⟨by have := h.1; omega, fun p hp => by have := h.2 p hp; omega⟩
def valsB (ps : List Par) (n : Bs) : List ByteArray := (allP ps n).map bA
theorem vals_data (ps : List Par) (n : Bs) : (valsB ps n).map (·.data.toList) = allP ps n := by
  unfold valsB
  rw [List.map_map]
  conv => rhs; rw [← List.map_id (allP ps n)]
  exact List.map_congr_left (fun x _ => by simp [bA])
theorem allP_len (ps : List Par) (n : Bs) : (allP ps n).length ≤ ps.length := by unfold allP; rw [List.length_map]; exact List.length_filter_le _ _
theorem allP_mem {ps : List Par} {n x : Bs} (h : x ∈ allP ps n) : ∃ p ∈ ps, x = p.2 := by
  unfold allP at h
  obtain ⟨p, hp, rfl⟩ := List.mem_map.1 h
  exact ⟨p, (List.mem_filter.1 hp).1, rfl⟩
theorem vals_hit {ps : List Par} {k : Nat} {p : Par} {n : Bs} (h : ps[k]? = some p) (hs : sameL p.1 n = true) : valsB (ps.take (k + 1)) n = valsB (ps.take k) n ++ [bA p.2] := by
  unfold valsB allP
  rw [take_snocG h, List.filter_append]
  simp [hs]
theorem vals_miss {ps : List Par} {k : Nat} {p : Par} {n : Bs} (h : ps[k]? = some p) (hs : sameL p.1 n = false) : valsB (ps.take (k + 1)) n = valsB (ps.take k) n := by
  unfold valsB allP
  rw [take_snocG h, List.filter_append]
  simp [hs]
theorem fjoin_le {sep : Bs} (hsep : sep.length = 2) : ∀ (l : List Bs) (M : Nat), (∀ x ∈ l, x.length + 2 ≤ M) → (Lib.join l sep).length ≤ l.length * M
  | [], M, _ => by simp [Lib.join]
  | [x], M, h => by have := h x (by simp); simp [Lib.join]; omega
  | x :: y :: l, M, h => by
    have ih := fjoin_le hsep (y :: l) M (fun z hz => h z (List.mem_cons_of_mem _ hz))
    have hx := h x (List.mem_cons_self ..)
    rw [join_cc]
    simp only [List.length_append, List.length_cons, hsep] at ih ⊢
    rw [Nat.succ_mul (l.length + 1)]
    omega
theorem field_len {ps : List Par} (n : Bs) (hz : ParsSmall ps) : (fieldT ps n).length ≤ 100002000 := by
  unfold fieldT
  have h := fjoin_le (sep := [44, 32]) rfl (allP ps n) 100002 (fun x hx => by obtain ⟨p, hp, rfl⟩ := allP_mem hx; have := (hz.2 p hp).2; omega)
  have h2 := allP_len ps n
  have h3 := hz.1
  have h4 : (allP ps n).length * 100002 ≤ 1000 * 100002 := Nat.mul_le_mul_right _ (by omega)
  omega
theorem JoinF_any (base : Nat) (v : Value) (ss : List ByteArray) (w : World) (hv : Strs base w v ss) (hn : ss.length ≤ 1000) (hlen : (Lib.join (ss.map (·.data.toList)) [44, 32]).length ≤ 140737488355328) :
    Calls Tryz.prog 72 #[v, .string ⟨#[44, 32]⟩] w fun e w' => e = .returned (.string (bA (Lib.join (ss.map (·.data.toList)) [44, 32]))) ∧ Fr noB w w' := by
  rcases hv.at with ⟨a, c, rfl, rfl, _⟩ | ⟨bk, o, c, rfl, h1, h2, h3, h4⟩
  · exact (Tryz.strings_Join_none _ _ _ _).mono (by rintro e w1 ⟨rfl, rfl⟩; exact ⟨rfl, Fr.refl _ _⟩)
  · exact (Tryz.strings_Join bk o c ss ⟨#[44, 32]⟩ w h4 h3 (by omega) h1 hlen).mono (by rintro e w1 ⟨rfl, hb⟩; exact ⟨rfl, Fr.of_below hb⟩)
def GeRel (ps : List Par) (n : Bs) (w : World) (out t : Value) (wr : World) : Prop :=
  ∃ k : Nat, k ≤ ps.length ∧ t = .int .i64 k ∧ Strs w.heap.size wr out (valsB (ps.take k) n) ∧ Fr noB w wr
def FieldV (ps : List Par) (n : Bs) : Value := .tuple #[.string (bA (fieldT ps n)), .bool (fieldB ps n)]
set_option maxRecDepth 100000 in
set_option maxHeartbeats 2000000 in
theorem Field_any (v : Value) (ps : List Par) (name : ByteArray) (w : World) (h : ParsAt w v ps) (hz : ParsSmall ps) (hn : name.size < 17592186044416) :
    Calls Tryz.prog 26 #[v, .string name] w fun e w' => e = .returned (FieldV ps name.data.toList) ∧ Fr noB w w' := by
  obtain ⟨av, cv, hv⟩ := h.form
  subst hv
  have HZ := Lib.hid hz
  have hlz := hz.1
  clear hz
  go_enter Tryz.func26, Tryz.ntmps26
  go_wp2
  go_loopw [6, 11] (GeRel ps name.data.toList w) (fun _ t _ => ps.length - (intOf t).toNat)
  case atStart => exact ⟨0, Nat.zero_le _, rfl, Strs.nil _ _, Fr.refl _ _⟩
  case round =>
    obtain ⟨k, hk, rfl, ho, hfr⟩ := hrel
    obtain ⟨ao, co, hoe⟩ := ho.form
    by_cases hks : k < ps.length
    · have hki : (k : Int) < (ps.length : Int) := by omega
      have hat := Lib.hid (List.getElem?_eq_getElem hks)
      have hzk := Lib.hid (HZ.out.2 _ (List.getElem_mem hks))
      generalize ps[k] = q at hat hzk
      obtain ⟨nm, vl⟩ := q
      obtain ⟨bk, of, rfl, h1, h2, c0, c1⟩ := ParsAt.cells (RowsAt.frNone h hfr) hat.out
      unfold maxLen at h2
      simp only at c0 c1
      obtain ⟨wb, hwb⟩ : ∃ wb, wb = wr.alloc (.cells #[.string (bA nm), .string (bA vl)] 79) := ⟨_, rfl⟩
      have hfb : Fr noB wr wb := by rw [hwb]; exact (Fr.refl noB wr).alloc _
      have hbb : wb.heap[wr.heap.size]? = some (.cells #[.string (bA nm), .string (bA vl)] 79 (0, 0)) := by rw [hwb]; exact new_block _ _
      have HWB := Lib.hid hwb
      clear hwb
      go_wp2_with fail
      rw [← HWB.out]
      refine (Same_any (bA nm) name wb (by have h := hzk.out.1; show nm.length < _; omega) hn).mono ?_
      rintro e w8 ⟨rfl, hf8⟩
      rw [bA_data]
      have HF8 := Lib.hid ((hfr.trans hfb).trans hf8)
      have ho8 := ho.fr (hfb.trans hf8) (fun _ h => h.elim)
      rw [hoe] at ho8
      have hol := Lib.hid (show (valsB (ps.take k) name.data.toList).length ≤ 1000 from by
        unfold valsB; rw [List.length_map]; have := allP_len (ps.take k) name.data.toList; rw [List.length_take] at this; omega)
      have hsz8 : w.heap.size ≤ w8.heap.size := HF8.out.size
      cases hsm : sameL nm name.data.toList
      · have hnx := Lib.hid (vals_miss hat.out hsm)
        go_wp2
        go_roundw
        case rel => exact ⟨k + 1, by omega, by go_num, by rw [hnx.out]; exact ho8, HF8.out⟩
        case measure => simp [intOf]; omega
      · have hnx := Lib.hid (vals_hit hat.out hsm)
        have hb8 := hf8.keep hbb (fun h => h)
        have k1 : w8.cell? ⟨wr.heap.size, 1, none⟩ = some (.string (bA vl)) := by simp [World.cell?, hb8]
        generalize valsB (ps.take k) name.data.toList = vs at *
        clear hsm
        go_wp2_with (at_builtin; refine wpList_str rfl _ _ rfl w.heap.size (.slice ao vs.length co) vs rfl (by apply Strs.alloc; exact ho8) ⟨w8.heap.size, 0, none⟩ 1 (bA vl) rfl (new_cell _ _ _ _) (by have := hol.out; omega) (by simp; omega) ?_; intro v' w9 hown9 hg9)
        have HF9 := Lib.hid ((HF8.out.alloc (.cells #[.string (bA vl)] 9)).grownNew hg9 (fun j hj => ho8.block j hj))
        go_roundw
        case rel => exact ⟨k + 1, by omega, by go_num, by rw [hnx.out]; exact hown9, HF9.out⟩
        case measure => simp [intOf]; omega
    · have hki : ¬ (k : Int) < (ps.length : Int) := by omega
      have htl : ps.take k = ps := List.take_of_length_le (by omega)
      rw [htl] at ho hoe
      subst hoe
      have hol := allP_len ps name.data.toList
      have hvl : (valsB ps name.data.toList).length = (allP ps name.data.toList).length := by unfold valsB; rw [List.length_map]
      have HJ := Lib.hid (show Lib.join ((valsB ps name.data.toList).map (·.data.toList)) [44, 32] = fieldT ps name.data.toList by rw [vals_data]; rfl)
      have HB := Lib.hid (show decide (0 < (valsB ps name.data.toList).length) = fieldB ps name.data.toList by
        unfold fieldB
        rw [hvl]
        cases allP ps name.data.toList with
        | nil => rfl
        | cons a l => simp)
      have hJ := Lib.hid (JoinF_any w.heap.size _ (valsB ps name.data.toList) wr ho (by omega) (by rw [HJ.out]; have := field_len name.data.toList HZ.out; omega))
      rw [HJ.out] at hJ
      clear hvl hol
      generalize hvs : valsB ps name.data.toList = vs at *
      have HVS := Lib.hid hvs
      clear hvs
      go_wp2_with fail
      refine hJ.out.mono ?_
      rintro e u ⟨rfl, hfu⟩
      go_wp2
      go_ret2
      refine ⟨?_, hfr.trans hfu⟩
      unfold FieldV
      rw [← HB.out]
      rfl

/-- Get, its text and its bool by name -/
theorem Field_is (v : Value) (ps : List Par) (n : Bs) (w : World) (h : ParsAt w v ps) (hz : ParsSmall ps) (hn : n.length < 1000) (s : ByteArray) (b : Bool) (hs : fieldT ps n = s.data.toList) (hb : fieldB ps n = b) :
    Calls Tryz.prog 26 #[v, .string (bA n)] w fun e w' => e = .returned (.tuple #[.string s, .bool b]) ∧ Fr noB w w' := by
  refine (Field_any v ps (bA n) w h hz (by show n.length < _; omega)).mono ?_
  rintro e u ⟨rfl, hf⟩
  refine ⟨?_, hf⟩
  unfold FieldV
  rw [bA_data, hs, hb, bA_of]
theorem field_get (ps : List Par) (n : Bs) (hz : ParsSmall ps) : ∃ s : ByteArray, fieldT ps n = s.data.toList ∧ s.size ≤ 100002000 := ⟨bA (fieldT ps n), by rw [bA_data], by show (fieldT ps n).length ≤ _; exact field_len n hz⟩

/-! ### Age -/
set_option maxRecDepth 100000 in
set_option maxHeartbeats 2000000 in
theorem Age_any (v : Value) (ps : List Par) (w : World) (h : ParsAt w v ps) (hz : ParsSmall ps) :
    Calls Tryz.prog 27 #[v] w fun e w' => e = .returned (.int .i64 (ageI ps)) ∧ Fr noB w w' := by
  obtain ⟨s, hs, hsz⟩ := field_get ps nAge hz
  cases hb : fieldB ps nAge
  · have HA := Lib.hid (show ageI ps = 5 by unfold ageI; rw [hb]; rfl)
    have hG := Lib.hid (Field_is v ps nAge w h hz (by decide) s false hs hb)
    clear hb hs
    go_enter Tryz.func27, Tryz.ntmps27
    go_wp2_with fail
    refine hG.out.mono ?_
    rintro e u ⟨rfl, hfu⟩
    go_wp2
    go_ret
    exact ⟨by rw [HA.out]; rfl, hfu⟩
  · have hG := Lib.hid (Field_is v ps nAge w h hz (by decide) s true hs hb)
    have HS := Lib.hid (fun u => Seconds_any s u (by omega))
    cases hd : digitsB s.data.toList
    · have HA := Lib.hid (show ageI ps = 5 by unfold ageI; rw [hb, hs, hd]; rfl)
      have HD := Lib.hid hd
      clear hb hs hd
      go_enter Tryz.func27, Tryz.ntmps27
      go_wp2_with fail
      refine hG.out.mono ?_
      rintro e u ⟨rfl, hfu⟩
      go_wp2_with fail
      refine (HS.out u).mono ?_
      intro e u2 hp
      obtain ⟨rfl, hf2⟩ := hp.no HD.out
      go_wp2
      go_ret
      exact ⟨by rw [HA.out]; rfl, hfu.trans hf2⟩
    · have HA := Lib.hid (show ageI ps = min (secL s.data.toList) 600 by unfold ageI; rw [hb, hs, hd]; rfl)
      have HD := Lib.hid hd
      have hE := Lib.hid (fun u => HS.out u)
      clear hb hs hd
      go_enter Tryz.func27, Tryz.ntmps27
      go_wp2_with fail
      refine hG.out.mono ?_
      rintro e u ⟨rfl, hfu⟩
      go_wp2_with fail
      refine (HS.out u).mono ?_
      intro e u2 hp
      obtain ⟨rfl, hf2⟩ := hp.ok HD.out
      go_wp2
      go_ret
      exact ⟨by rw [HA.out]; rfl, hfu.trans hf2⟩

/-! ### words -/
def WordsPost (ps : List Par) (n : Bs) (w : World) (e : Ending) (w' : World) : Prop :=
  Fr noB w w' ∧ match wordsP ps n with
  | some ws => ∃ v, e = .returned (.tuple #[v, .nilIface]) ∧ Strs w.heap.size w' v (wordsB ws)
  | none => e = .returned (.tuple #[.slice none 0 0, .iface 93 (.int .i64 3)])
set_option maxRecDepth 100000 in
set_option maxHeartbeats 2000000 in
theorem words_any (v : Value) (ps : List Par) (n : Bs) (w : World) (h : ParsAt w v ps) (hz : ParsSmall ps) (hn : n.length < 1000) :
    Calls Tryz.prog 74 #[v, .string (bA n)] w (WordsPost ps n w) := by
  obtain ⟨s, hs, hsz⟩ := field_get ps n hz
  have hG := Lib.hid (Field_is v ps n w h hz hn s _ hs rfl)
  have HW := Lib.hid (show wordsP ps n = match listAll s.data.toList with | .error _ => none | .ok l => if 40 < l.length then none else some l by unfold wordsP; rw [hs]; cases listAll s.data.toList <;> rfl)
  have HL := Lib.hid (fun u => List_any s u (by omega))
  clear hs
  generalize fieldB ps n = b at hG
  go_enter Tryz.func74, Tryz.ntmps74
  go_wp2_with fail
  refine hG.out.mono ?_
  rintro e u ⟨rfl, hfu⟩
  go_wp2_with fail
  refine (HL.out u).mono ?_
  rintro e u2 ⟨v2, er, rfl, hf2, hm⟩
  have HFU := Lib.hid (hfu.trans hf2)
  cases hl : listAll s.data.toList with
  | error m =>
    rw [hl] at hm
    obtain ⟨rfl, g, rfl, hg⟩ := hm
    have HN := Lib.hid (show wordsP ps n = none by rw [HW.out, hl])
    clear hl
    go_wp2
    go_ret2
    refine ⟨HFU.out, ?_⟩
    rw [HN.out]
    exact rfl
  | ok ws =>
    rw [hl] at hm
    by_cases h40 : 40 < ws.length
    · have HN := Lib.hid (show wordsP ps n = none by rw [HW.out, hl]; show (if _ then _ else _) = _; rw [if_pos h40])
      have hm' : if 40 < ws.length then v2 = .slice none 0 0 ∧ ErrIs u2 er (some (4, none)) else Strs u.heap.size u2 v2 (wordsB ws) ∧ er = .nilIface := hm
      rw [if_pos h40] at hm'
      obtain ⟨rfl, rfl⟩ := hm'
      clear hl hm
      go_wp2
      go_ret2
      refine ⟨HFU.out, ?_⟩
      rw [HN.out]
      exact rfl
    · have HN := Lib.hid (show wordsP ps n = some ws by rw [HW.out, hl]; show (if _ then _ else _) = _; rw [if_neg h40])
      have hm' : if 40 < ws.length then v2 = .slice none 0 0 ∧ ErrIs u2 er (some (4, none)) else Strs u.heap.size u2 v2 (wordsB ws) ∧ er = .nilIface := hm
      rw [if_neg h40] at hm'
      obtain ⟨hst, rfl⟩ := hm'
      clear hl hm
      have hsz2 := hfu.size
      go_wp2
      go_ret2
      refine ⟨HFU.out, ?_⟩
      rw [HN.out]
      exact ⟨_, rfl, hst.up hsz2⟩
end Go.Proofs.YtkoobhgedoanhaaGreatDoor

namespace Go.Proofs.YtkoobhgedoanhaaGreatDoor
open Go.RowKit

/-- a function value that answers p at each row of xs, whatever was done to the blocks of S since w -/
def AnswersK (S : Nat → Prop) (w : World) (g : Nat) (cap : Array Value) (p : List Value → Bool) (xs : List (List Value)) : Prop :=
  ∀ x, x ∈ xs → ∀ u, Fr S w u → Calls Tryz.prog g (#[.agg x.toArray] ++ cap) u fun e u' => e = .returned (.bool (p x)) ∧ Fr noB u u'
theorem AnswersK.none {S : Nat → Prop} {w : World} {g : Nat} {cap : Array Value} {p : List Value → Bool} {xs : List (List Value)} (h : AnswersK S w g cap p xs) : AnswersK noB w g cap p xs :=
  fun x hx u hu => h x hx u (hu.mono (fun _ _ h => absurd h (fun h => h)))
theorem AnswersK.fr {S : Nat → Prop} {w w' : World} {g : Nat} {cap : Array Value} {p : List Value → Bool} {xs : List (List Value)} (h : AnswersK S w g cap p xs) (hf : Fr noB w w') : AnswersK S w' g cap p xs :=
  fun x hx u hu => h x hx u (Fr.step (hf.mono (fun _ _ h => absurd h (fun h => h))) hu (fun _ _ h => h))

/-- 'clear(l)', l of n > 0 structs -/
theorem run_clear_rows {P : Program} (w : World) (t e ty : TypeId) (zs : Array Value) (ht : P.underlying t = some (.slice e)) (hv : ∀ w, (zeroValue e).run P w = .ok (.agg zs) w) (hs : 0 < zs.size) (h1 : ∀ v ∈ zs.toList, v.oneCell' = true) (b o n c : Nat) (hn : 0 < n)
    (hc : w.there b o (n * zs.size)) :
    (Builtin.clear_ #[t] ty #[.slice (some ⟨b, o, none⟩) n c]).run P w = .ok (.tuple #[]) (w.setCells b o (Builtin.zeroCells zs n).toList) := by
  have hl : (Builtin.zeroCells zs n).toList.length = n * zs.size := by simp [Builtin.zeroCells]
  have hst := run_storeCells_cells (P := P) b o (Builtin.zeroCells zs n).toList 0 w (by rw [hl]; intro j hj; exact (hc j hj).1) (by rw [hl]; intro j hj; exact (hc j hj).2) (by
    intro v hv'
    rw [Builtin.zeroCells, Array.mem_toList_iff, Array.mem_map] at hv'
    obtain ⟨i, _, rfl⟩ := hv'
    have hm := Nat.mod_lt i hs
    rw [getElem!_pos zs _ hm]
    exact h1 _ (by simp))
  simp only [Nat.add_zero] at hst
  obtain ⟨m, rfl⟩ : ∃ m, n = m + 1 := ⟨n - 1, by omega⟩
  have hcells : (Value.agg zs).cells = zs := rfl
  simp [Builtin.clear_, run_underlying ht, hv, hcells, hst]
end Go.Proofs.YtkoobhgedoanhaaGreatDoor
