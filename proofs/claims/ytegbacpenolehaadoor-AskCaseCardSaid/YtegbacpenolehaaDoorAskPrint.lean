/- Package ask: Print. -/
import Derived.Test.YtegbacpenolehaaDoorAskRead
namespace Go.Proofs.YtegbacpenolehaaDoor
open Go.RowKit

theorem bA_app (a b : Bs) : bA (a ++ b) = bA a ++ bA b := by
  apply Go.WideShapes.bytes_inj
  rw [bA_data]; simp [bA]
theorem bA_cons (c : UInt8) (b : Bs) : bA (c :: b) = ⟨#[c]⟩ ++ bA b := by
  rw [show c :: b = [c] ++ b from rfl, bA_app]; rfl
def preT (x : Cha) : Bs := x.scheme ++ (if x.token.isEmpty then [] else 32 :: x.token)
def tailT (ps : List Par) : Bs := if ps.isEmpty then [] else 32 :: parsT (ps.map fun p => (p, valueL p.2))
def partT (x : Cha) (k : Nat) : Bs := preT x ++ tailT (x.params.take k)
theorem partT_all (x : Cha) : partT x x.params.length = x.told.T := by
  unfold partT preT tailT Cha.told Told.T chaT
  rw [List.take_length, List.append_assoc]
  cases x.params <;> rfl
theorem parsT_snoc : ∀ (l : List (Par × Bs)) (p : Par × Bs), parsT (l ++ [p]) = parsT l ++ ((if l.isEmpty then [] else [44, 32]) ++ parT p.1 p.2)
  | [], p => rfl
  | [a], p => by simp [parsT]
  | a :: b :: l, p => by
    have ih := parsT_snoc (b :: l) p
    simp only [List.cons_append, parsT] at ih ⊢
    rw [ih]; simp
theorem tailT_snoc (ps : List Par) (p : Par) : tailT (ps ++ [p]) = tailT ps ++ ((if ps.isEmpty then [] else [44]) ++ (32 :: (p.1 ++ 61 :: valueL p.2))) := by
  unfold tailT
  rw [List.map_append]
  cases ps with
  | nil => rfl
  | cons a l =>
    have h := parsT_snoc ((a :: l).map fun p => (p, valueL p.2)) (p, valueL p.2)
    simp only [List.map_cons, List.map_nil, List.isEmpty_cons, Bool.false_eq_true, if_false] at h ⊢
    have e : ∀ z : List (Par × Bs), ((a :: l ++ [p]).isEmpty) = false := fun _ => rfl
    rw [e [], h]
    simp [parT]
theorem partT_succ {x : Cha} {k : Nat} {p : Par} (h : x.params[k]? = some p) : partT x (k + 1) = partT x k ++ ((if k = 0 then [] else [44]) ++ (32 :: (p.1 ++ 61 :: valueL p.2))) := by
  have hk := (List.getElem?_eq_some_iff.1 h).1
  unfold partT
  rw [take_snocP h, tailT_snoc, List.append_assoc]
  have : (x.params.take k).isEmpty = decide (k = 0) := by
    cases k with
    | zero => rfl
    | succ k =>
      cases hx : x.params with
      | nil => rw [hx] at hk; simp at hk
      | cons a l => simp
  rw [this]
  by_cases h0 : k = 0 <;> simp [h0]
where
  take_snocP {l : List Par} {k : Nat} {x : Par} (h : l[k]? = some x) : l.take (k + 1) = l.take k ++ [x] := by rw [List.take_add_one, h]; rfl
theorem valueL_le (v : Bs) : (valueL v).length ≤ 2 * v.length + 2 := by
  unfold valueL
  split
  · omega
  · have := escL_le v
    simp [quoteL]; omega
theorem partT_le {x : Cha} (h : x.Fit) : ∀ k, k ≤ x.params.length → (partT x k).length ≤ 200001 + k * 300010
  | 0, _ => by
    have h1 := h.scheme
    have h2 := h.token
    unfold partT preT tailT
    simp only [List.take_zero, List.isEmpty_nil, if_true, List.append_nil, List.length_append]
    split <;> simp <;> omega
  | k + 1, hk => by
    have ih := partT_le h k (by omega)
    have hat := List.getElem?_eq_getElem (show k < x.params.length by omega)
    have hp := h.pars _ (List.getElem_mem (show k < x.params.length by omega))
    rw [partT_succ hat]
    have hv := valueL_le (x.params[k]).2
    simp only [List.length_append, List.length_cons]
    split <;> simp <;> omega
theorem join_more (x y : Bs) (l : List Bs) (sep : Bs) : Lib.join (x :: y :: l) sep = x ++ (sep ++ Lib.join (y :: l) sep) := by
  rw [Lib.join_cons, Lib.join_cons]; simp [Lib.joinTail]
theorem toldsT_join : ∀ l : List Told, toldsT l = Lib.join (l.map Told.T) [44, 32]
  | [] => rfl
  | [x] => by rw [List.map_cons, List.map_nil, Lib.join_one]; rfl
  | x :: y :: l => by
    have ih := toldsT_join (y :: l)
    rw [List.map_cons] at ih
    rw [List.map_cons, List.map_cons, join_more, ← ih]; rfl
theorem joinC_le (M : Nat) : ∀ l : List Bs, (∀ x ∈ l, x.length ≤ M) → (Lib.join l [44, 32]).length ≤ l.length * (M + 2)
  | [], _ => by rw [Lib.join_nil]; simp
  | [x], h => by
    have := h x (by simp)
    rw [Lib.join_one]; simp; omega
  | x :: y :: l, h => by
    have ih := joinC_le M (y :: l) (fun z hz => h z (List.mem_cons_of_mem _ hz))
    have := h x (by simp)
    rw [join_more]
    have e : (x :: y :: l).length * (M + 2) = (y :: l).length * (M + 2) + (M + 2) := by rw [List.length_cons, Nat.succ_mul]
    rw [e]
    simp only [List.length_append, List.length_cons, List.length_nil] at ih ⊢
    omega
theorem ValuePost.good {s : ByteArray} {w w' : World} {e : Ending} (h : ValuePost s w e w') (hv : valueOk s.data.toList = true) :
    e = .returned (.tuple #[.string (bA (valueL s.data.toList)), .nilIface]) ∧ Fr noB w w' := by
  obtain ⟨he, hf⟩ := h
  rw [if_pos hv] at he
  exact ⟨he, hf⟩
theorem ValuePost.bad {s : ByteArray} {w w' : World} {e : Ending} (h : ValuePost s w e w') (hv : valueOk s.data.toList = false) :
    e = .returned (.tuple #[.string ⟨#[]⟩, .iface 46 (.int .i64 3)]) ∧ Fr noB w w' := by
  obtain ⟨he, hf⟩ := h
  rw [hv] at he
  exact ⟨he, hf⟩
def okC (x : Cha) : Bool := x.params.all fun p => valueOk p.2
def PrintPost (xs : List Cha) (w : World) (e : Ending) (w' : World) : Prop :=
  Fr noB w w' ∧ if xs.all okC then e = .returned (.tuple #[.string (bA (chasT xs)), .nilIface]) else ∃ er, e = .returned (.tuple #[.string ⟨#[]⟩, er]) ∧ ErrN 3 er w'
def PtRel (xs : List Cha) (w : World) (out i : Value) (wr : World) : Prop :=
  ∃ k : Nat, k ≤ xs.length ∧ i = .int .i64 k ∧ Strs w.heap.size wr out ((xs.take k).map fun x => bA x.told.T) ∧ (xs.take k).all okC = true ∧ Fr noB w wr
def PiRel (x : Cha) (w : World) (s i : Value) (wr : World) : Prop :=
  ∃ k : Nat, k ≤ x.params.length ∧ i = .int .i64 k ∧ s = .string (bA (partT x k)) ∧ (x.params.take k).all (fun p => valueOk p.2) = true ∧ Fr noB w wr
theorem JoinC_any (base : Nat) (v : Value) (ss : List ByteArray) (w : World) (hv : Strs base w v ss) (hn : ss.length ≤ 1000) (hlen : (Lib.join (ss.map (·.data.toList)) [44, 32]).length ≤ 140737488355328) :
    Calls Tryd.prog 89 #[v, .string ⟨#[44, 32]⟩] w fun e w' => e = .returned (.string (bA (Lib.join (ss.map (·.data.toList)) [44, 32]))) ∧ Fr noB w w' := by
  rcases hv.at with ⟨a, c, rfl, rfl, _⟩ | ⟨bk, o, c, rfl, h1, h2, h3, h4⟩
  · exact (Tryd.strings_Join_none _ _ _ _).mono (by rintro e w1 ⟨rfl, rfl⟩; exact ⟨rfl, Fr.refl _ _⟩)
  · exact (Tryd.strings_Join bk o c ss ⟨#[44, 32]⟩ w h4 h3 (by omega) h1 hlen).mono (by rintro e w1 ⟨rfl, hb⟩; exact ⟨rfl, Fr.of_below hb⟩)

set_option maxRecDepth 100000 in
set_option maxHeartbeats 4000000 in
theorem Print_ask (v : Value) (xs : List Cha) (w : World) (h : ChasAt w v xs) (hl : xs.length ≤ 8) (hz : ∀ x ∈ xs, x.Fit) :
    Calls Tryd.prog 31 #[v] w (PrintPost xs w) := by
  obtain ⟨av, cv, hv⟩ := h.form
  subst hv
  go_enter Tryd.func31, Tryd.ntmps31
  go_wp2
  go_loopw [4, 14] (PtRel xs w) (fun _ i _ => xs.length - (intOf i).toNat)
  case atStart => exact ⟨0, Nat.zero_le _, rfl, Strs.nil _ _, rfl, Fr.refl _ _⟩
  case round =>
    obtain ⟨k, hk, rfl, hos, hall, hfr⟩ := hrel
    have HALL := Lib.hid hall
    clear hall
    obtain ⟨ao, co, hoe⟩ := hos.form
    rw [List.length_map, List.length_take, Nat.min_eq_left hk] at hoe
    subst hoe
    by_cases hks : k < xs.length
    · have hki : (k : Int) < (xs.length : Int) := by omega
      have hat := Lib.hid (List.getElem?_eq_getElem hks)
      have HZ := Lib.hid (hz _ (List.getElem_mem hks))
      generalize xs[k] = x at hat HZ
      obtain ⟨bk, of, pv, rfl, h1, h2, c0, c1, c2, hp⟩ := (h.frNone hfr).cells hat.out
      unfold maxLen at h2
      obtain ⟨a1, c1', e1⟩ := hp.form
      subst e1
      obtain ⟨wb, hwb⟩ : ∃ wb, wb = wr.alloc (.cells #[.string (bA x.scheme), .string (bA x.token), .slice a1 x.params.length c1'] 61) := ⟨_, rfl⟩
      have hfb : Fr noB wr wb := by rw [hwb]; exact (Fr.refl noB wr).alloc _
      have hbb : wb.heap[wr.heap.size]? = some (.cells #[.string (bA x.scheme), .string (bA x.token), .slice a1 x.params.length c1'] 61 (0, 0)) := by rw [hwb]; exact new_block _ _
      have hpb : ParsAt wb (.slice a1 x.params.length c1') x.params := RowsAt.frNone hp hfb
      have hosb := hos.fr hfb (fun _ h => h.elim)
      have HWB := Lib.hid hwb
      have HFB := Lib.hid (hfr.trans hfb)
      have s1 : (bA x.scheme).size ≤ 100000 := HZ.out.scheme
      have s2 : (bA x.token).size ≤ 100000 := HZ.out.token
      have b0 : wb.cell? ⟨wr.heap.size, 0, none⟩ = some (.string (bA x.scheme)) := by simp [World.cell?, hbb]
      have b1 : wb.cell? ⟨wr.heap.size, 1, none⟩ = some (.string (bA x.token)) := by simp [World.cell?, hbb]
      have b2 : wb.cell? ⟨wr.heap.size, 2, none⟩ = some (.slice a1 x.params.length c1') := by simp [World.cell?, hbb]
      clear hwb
      have HPRE := Lib.hid (show bA (preT x) = if x.token.isEmpty then bA x.scheme else bA x.scheme ++ (⟨#[32]⟩ ++ bA x.token) by
        unfold preT
        rw [bA_app]
        split
        · rw [show bA [] = ByteArray.empty from rfl]; simp
        · rw [bA_cons])
      have HP0 := Lib.hid (show partT x 0 = preT x by unfold partT tailT; simp)
      have hzp := HZ.out.few
      have HPL := Lib.hid (partT_le HZ.out)
      cases hte : x.token.isEmpty
      case false =>
        have ht1 : ¬ (bA x.token).toList = [] := by rw [bA_toList]; intro e; rw [e] at hte; cases hte
        have ht2 : ((bA x.token).toList == []) = false := beq_eq_false_iff_ne.2 ht1
        have ht3 : (bA x.token).toList.isEmpty = false := by rw [bA_toList]; exact hte
        have HS0 := Lib.hid (show bA x.scheme ++ (⟨#[32]⟩ ++ bA x.token) = bA (partT x 0) by rw [HP0.out, HPRE.out, hte]; rfl)
        clear hte
        go_wp2_with fail
        rw [← HWB.out, HS0.out]
        go_loopw [7, 32] (PiRel x wb) (fun _ i _ => x.params.length - (intOf i).toNat)
        case atStart => exact ⟨0, Nat.zero_le _, rfl, rfl, rfl, Fr.refl _ _⟩
        case round =>
          obtain ⟨m, hm, rfl, rfl, hall2, hfr2⟩ := hrel
          have HAL2 := Lib.hid hall2
          clear hall2
          have hsz : (bA (partT x m)).size ≤ 5000201 := by
            have := HPL.out m hm
            show (partT x m).length ≤ _
            omega
          by_cases hms : m < x.params.length
          · have hmi : (m : Int) < (x.params.length : Int) := by omega
            have hat2 := Lib.hid (List.getElem?_eq_getElem hms)
            have hzq := HZ.out.pars _ (List.getElem_mem hms)
            generalize x.params[m] = q at hat2 hzq
            obtain ⟨nm, vl⟩ := q
            have n1 : (bA nm).size ≤ 99999 := hzq.1
            have n2 : (bA vl).size ≤ 99999 := hzq.2
            obtain ⟨bk2, of2, rfl, g1, g2, d0, d1⟩ := ParsAt.cells (RowsAt.frNone hpb hfr2) hat2.out
            unfold maxLen at g2
            simp only at d0 d1
            obtain ⟨wq, hwq⟩ : ∃ wq, wq = wr.alloc (.cells #[.string (bA nm), .string (bA vl)] 103) := ⟨_, rfl⟩
            have hfq : Fr noB wr wq := by rw [hwq]; exact (Fr.refl noB wr).alloc _
            have hqq : wq.heap[wr.heap.size]? = some (.cells #[.string (bA nm), .string (bA vl)] 103 (0, 0)) := by rw [hwq]; exact new_block _ _
            have HWQ := Lib.hid hwq
            clear hwq
            go_wp2_with fail
            rw [← HWQ.out]
            refine (Value_any (bA vl) wq (by omega)).mono ?_
            intro e w3 hvp
            cases hvo : valueOk vl
            case false =>
              obtain ⟨rfl, hf3⟩ := hvp.bad (by rw [bA_data]; exact hvo)
              have HNA := Lib.hid (show xs.all okC = false by
                rw [List.all_eq_false]
                refine ⟨x, List.mem_of_getElem? hat.out, ?_⟩
                unfold okC
                have : x.params.all (fun p => valueOk p.2) = false := by
                  rw [List.all_eq_false]; exact ⟨_, List.mem_of_getElem? hat2.out, by simp [hvo]⟩
                rw [this]; simp)
              have HFQ := Lib.hid (((HFB.out.trans hfr2).trans hfq).trans hf3)
              clear hvo hvp
              go_wp2
              go_ret2
              refine ⟨HFQ.out.alloc _, ?_⟩
              rw [HNA.out, if_neg (by simp)]
              exact ⟨_, rfl, Or.inr ⟨w3.heap.size, k, rfl, new_block w3 _⟩⟩
            case true =>
              obtain ⟨rfl, hf3⟩ := hvp.good (by rw [bA_data]; exact hvo)
              rw [bA_data]
              have hvl : (bA (valueL vl)).size ≤ 200002 := by
                have := valueL_le vl
                show (valueL vl).length ≤ _
                have : vl.length ≤ 99999 := n2
                omega
              have HAL3 := Lib.hid (show (x.params.take (m + 1)).all (fun p => valueOk p.2) = true by rw [List.take_add_one, hat2.out]; simp [List.all_append, HAL2.out, hvo])
              have HFQ := Lib.hid ((hfr2.trans hfq).trans hf3)
              have hq3 := hf3.keep hqq (fun h => h)
              have e0 : w3.cell? ⟨wr.heap.size, 0, none⟩ = some (.string (bA nm)) := by simp [World.cell?, hq3]
              have HSC := Lib.hid (partT_succ (x := x) hat2.out)
              clear hvo hvp
              by_cases hm0 : m = 0
              · subst hm0
                have HSX := Lib.hid (show bA (partT x 0) ++ (⟨#[32]⟩ ++ bA nm ++ ⟨#[61]⟩ ++ bA (valueL vl)) = bA (partT x (0 + 1)) by
                  rw [HSC.out]
                  simp only [if_true, List.nil_append, bA_app, bA_cons]
                  apply Go.WideShapes.bytes_inj
                  simp)
                go_wp2
                go_roundw
                case rel => exact ⟨0 + 1, by omega, by go_num, by rw [← HSX.out], HAL3.out, HFQ.out⟩
                case measure => simp [intOf]; omega
              · have hm0' : (0 : Int) < (m : Int) := by omega
                have HSX := Lib.hid (show bA (partT x m) ++ ⟨#[44]⟩ ++ (⟨#[32]⟩ ++ bA nm ++ ⟨#[61]⟩ ++ bA (valueL vl)) = bA (partT x (m + 1)) by
                  rw [HSC.out, if_neg hm0]
                  simp only [bA_app, bA_cons]
                  apply Go.WideShapes.bytes_inj
                  simp [bA])
                go_wp2
                go_roundw
                case rel => exact ⟨m + 1, by omega, by go_num, by rw [← HSX.out], HAL3.out, HFQ.out⟩
                case measure => simp [intOf]; omega
          · have hmi : ¬ (m : Int) < (x.params.length : Int) := by omega
            have hmm : m = x.params.length := by omega
            have HPT := Lib.hid (show partT x m = x.told.T by rw [hmm]; exact partT_all x)
            have HOK := Lib.hid (show okC x = true by have h := HAL2.out; rw [hmm, List.take_length] at h; exact h)
            have HALX := Lib.hid (show (xs.take (k + 1)).all okC = true by rw [List.take_add_one, hat.out]; simp [List.all_append, HALL.out, HOK.out])
            have HTK := Lib.hid (show (xs.take (k + 1)).map (fun x => bA x.told.T) = (xs.take k).map (fun x => bA x.told.T) ++ [bA x.told.T] by rw [List.take_add_one, hat.out]; simp)
            have hol := Lib.hid (show ((xs.take k).map (fun x => bA x.told.T)).length ≤ xs.length by rw [List.length_map, List.length_take]; omega)
            have hos2 := hosb.fr hfr2 (fun _ h => h.elim)
            have hbs : w.heap.size ≤ wr.heap.size := (HFB.out.trans hfr2).size
            rw [HPT.out] at hsz ⊢
            clear hmm
            go_wp2_with (at_builtin; refine wpList_str rfl _ _ rfl w.heap.size (.slice ao k co) ((xs.take k).map fun x => bA x.told.T) rfl (by apply Strs.alloc; exact hos2) ⟨wr.heap.size, 0, none⟩ 1 (bA x.told.T) rfl (new_cell _ _ _ _) (by have := hol.out; omega) (by simp; omega) ?_; intro v' w5 hown5 hg5)
            have HF5 := Lib.hid (((HFB.out.trans hfr2).alloc (.cells #[.string (bA x.told.T)] 9)).grownNew hg5 (fun j hj => hos2.block j hj))
            go_roundw
            case rel => exact ⟨k + 1, by omega, by go_num, by rw [HTK.out]; exact hown5, HALX.out, HF5.out⟩
            case measure => simp [intOf]; omega
      case true =>
        have ht1 : (bA x.token).toList = [] := by rw [bA_toList]; exact List.isEmpty_iff.1 hte
        have ht2 : ((bA x.token).toList == []) = true := beq_iff_eq.2 ht1
        have ht3 : (bA x.token).toList.isEmpty = true := by rw [bA_toList]; exact hte
        have HS0 := Lib.hid (show bA x.scheme = bA (partT x 0) by rw [HP0.out, HPRE.out, hte]; rfl)
        clear hte
        go_wp2_with fail
        rw [← HWB.out, HS0.out]
        go_loopw [7, 32] (PiRel x wb) (fun _ i _ => x.params.length - (intOf i).toNat)
        case atStart => exact ⟨0, Nat.zero_le _, rfl, rfl, rfl, Fr.refl _ _⟩
        case round =>
          obtain ⟨m, hm, rfl, rfl, hall2, hfr2⟩ := hrel
          have HAL2 := Lib.hid hall2
          clear hall2
          have hsz : (bA (partT x m)).size ≤ 5000201 := by
            have := HPL.out m hm
            show (partT x m).length ≤ _
            omega
          by_cases hms : m < x.params.length
          · have hmi : (m : Int) < (x.params.length : Int) := by omega
            have hat2 := Lib.hid (List.getElem?_eq_getElem hms)
            have hzq := HZ.out.pars _ (List.getElem_mem hms)
            generalize x.params[m] = q at hat2 hzq
            obtain ⟨nm, vl⟩ := q
            have n1 : (bA nm).size ≤ 99999 := hzq.1
            have n2 : (bA vl).size ≤ 99999 := hzq.2
            obtain ⟨bk2, of2, rfl, g1, g2, d0, d1⟩ := ParsAt.cells (RowsAt.frNone hpb hfr2) hat2.out
            unfold maxLen at g2
            simp only at d0 d1
            obtain ⟨wq, hwq⟩ : ∃ wq, wq = wr.alloc (.cells #[.string (bA nm), .string (bA vl)] 103) := ⟨_, rfl⟩
            have hfq : Fr noB wr wq := by rw [hwq]; exact (Fr.refl noB wr).alloc _
            have hqq : wq.heap[wr.heap.size]? = some (.cells #[.string (bA nm), .string (bA vl)] 103 (0, 0)) := by rw [hwq]; exact new_block _ _
            have HWQ := Lib.hid hwq
            clear hwq
            go_wp2_with fail
            rw [← HWQ.out]
            refine (Value_any (bA vl) wq (by omega)).mono ?_
            intro e w3 hvp
            cases hvo : valueOk vl
            case false =>
              obtain ⟨rfl, hf3⟩ := hvp.bad (by rw [bA_data]; exact hvo)
              have HNA := Lib.hid (show xs.all okC = false by
                rw [List.all_eq_false]
                refine ⟨x, List.mem_of_getElem? hat.out, ?_⟩
                unfold okC
                have : x.params.all (fun p => valueOk p.2) = false := by
                  rw [List.all_eq_false]; exact ⟨_, List.mem_of_getElem? hat2.out, by simp [hvo]⟩
                rw [this]; simp)
              have HFQ := Lib.hid (((HFB.out.trans hfr2).trans hfq).trans hf3)
              clear hvo hvp
              go_wp2
              go_ret2
              refine ⟨HFQ.out.alloc _, ?_⟩
              rw [HNA.out, if_neg (by simp)]
              exact ⟨_, rfl, Or.inr ⟨w3.heap.size, k, rfl, new_block w3 _⟩⟩
            case true =>
              obtain ⟨rfl, hf3⟩ := hvp.good (by rw [bA_data]; exact hvo)
              rw [bA_data]
              have hvl : (bA (valueL vl)).size ≤ 200002 := by
                have := valueL_le vl
                show (valueL vl).length ≤ _
                have : vl.length ≤ 99999 := n2
                omega
              have HAL3 := Lib.hid (show (x.params.take (m + 1)).all (fun p => valueOk p.2) = true by rw [List.take_add_one, hat2.out]; simp [List.all_append, HAL2.out, hvo])
              have HFQ := Lib.hid ((hfr2.trans hfq).trans hf3)
              have hq3 := hf3.keep hqq (fun h => h)
              have e0 : w3.cell? ⟨wr.heap.size, 0, none⟩ = some (.string (bA nm)) := by simp [World.cell?, hq3]
              have HSC := Lib.hid (partT_succ (x := x) hat2.out)
              clear hvo hvp
              by_cases hm0 : m = 0
              · subst hm0
                have HSX := Lib.hid (show bA (partT x 0) ++ (⟨#[32]⟩ ++ bA nm ++ ⟨#[61]⟩ ++ bA (valueL vl)) = bA (partT x (0 + 1)) by
                  rw [HSC.out]
                  simp only [if_true, List.nil_append, bA_app, bA_cons]
                  apply Go.WideShapes.bytes_inj
                  simp)
                go_wp2
                go_roundw
                case rel => exact ⟨0 + 1, by omega, by go_num, by rw [← HSX.out], HAL3.out, HFQ.out⟩
                case measure => simp [intOf]; omega
              · have hm0' : (0 : Int) < (m : Int) := by omega
                have HSX := Lib.hid (show bA (partT x m) ++ ⟨#[44]⟩ ++ (⟨#[32]⟩ ++ bA nm ++ ⟨#[61]⟩ ++ bA (valueL vl)) = bA (partT x (m + 1)) by
                  rw [HSC.out, if_neg hm0]
                  simp only [bA_app, bA_cons]
                  apply Go.WideShapes.bytes_inj
                  simp [bA])
                go_wp2
                go_roundw
                case rel => exact ⟨m + 1, by omega, by go_num, by rw [← HSX.out], HAL3.out, HFQ.out⟩
                case measure => simp [intOf]; omega
          · have hmi : ¬ (m : Int) < (x.params.length : Int) := by omega
            have hmm : m = x.params.length := by omega
            have HPT := Lib.hid (show partT x m = x.told.T by rw [hmm]; exact partT_all x)
            have HOK := Lib.hid (show okC x = true by have h := HAL2.out; rw [hmm, List.take_length] at h; exact h)
            have HALX := Lib.hid (show (xs.take (k + 1)).all okC = true by rw [List.take_add_one, hat.out]; simp [List.all_append, HALL.out, HOK.out])
            have HTK := Lib.hid (show (xs.take (k + 1)).map (fun x => bA x.told.T) = (xs.take k).map (fun x => bA x.told.T) ++ [bA x.told.T] by rw [List.take_add_one, hat.out]; simp)
            have hol := Lib.hid (show ((xs.take k).map (fun x => bA x.told.T)).length ≤ xs.length by rw [List.length_map, List.length_take]; omega)
            have hos2 := hosb.fr hfr2 (fun _ h => h.elim)
            have hbs : w.heap.size ≤ wr.heap.size := (HFB.out.trans hfr2).size
            rw [HPT.out] at hsz ⊢
            clear hmm
            go_wp2_with (at_builtin; refine wpList_str rfl _ _ rfl w.heap.size (.slice ao k co) ((xs.take k).map fun x => bA x.told.T) rfl (by apply Strs.alloc; exact hos2) ⟨wr.heap.size, 0, none⟩ 1 (bA x.told.T) rfl (new_cell _ _ _ _) (by have := hol.out; omega) (by simp; omega) ?_; intro v' w5 hown5 hg5)
            have HF5 := Lib.hid (((HFB.out.trans hfr2).alloc (.cells #[.string (bA x.told.T)] 9)).grownNew hg5 (fun j hj => hos2.block j hj))
            go_roundw
            case rel => exact ⟨k + 1, by omega, by go_num, by rw [HTK.out]; exact hown5, HALX.out, HF5.out⟩
            case measure => simp [intOf]; omega
    · have hki : ¬ (k : Int) < (xs.length : Int) := by omega
      have htk : xs.take k = xs := List.take_of_length_le (by omega)
      rw [htk] at HALL hos
      have hjl : (Lib.join ((xs.map fun x => bA x.told.T).map (·.data.toList)) [44, 32]).length ≤ 140737488355328 := by
        have := joinC_le 5000201 ((xs.map fun x => bA x.told.T).map (·.data.toList)) (fun y hy => by
          rw [List.map_map] at hy
          obtain ⟨x, hx, rfl⟩ := List.mem_map.1 hy
          show (bA x.told.T).data.toList.length ≤ _
          rw [bA_data, ← partT_all]
          have h1 := partT_le (hz x hx) x.params.length (Nat.le_refl _)
          have h2 := (hz x hx).few
          omega)
        rw [List.length_map, List.length_map] at this
        have : xs.length * 5000203 ≤ 8 * 5000203 := Nat.mul_le_mul_right _ hl
        omega
      have HJ := Lib.hid (JoinC_any w.heap.size _ (xs.map fun x => bA x.told.T) wr hos (by rw [List.length_map]; omega) hjl)
      have HE := Lib.hid (show Lib.join ((xs.map fun x => bA x.told.T).map (·.data.toList)) [44, 32] = chasT xs by
        unfold chasT
        rw [toldsT_join, List.map_map, List.map_map]
        congr 1)
      clear hjl hos
      go_wp2_with fail
      refine HJ.out.mono ?_
      rintro e w2 ⟨rfl, hf2⟩
      rw [HE.out]
      go_wp2
      go_ret2
      refine ⟨hfr.trans hf2, ?_⟩
      rw [if_pos HALL.out]
      rfl
end Go.Proofs.YtegbacpenolehaaDoor
