/- What challenges ask for: the best one, and great letters or small: plain laws. No program in sight. Package ask: Best. What ask.Parse gives, case by case. The laws' asked: a fact on challenges. The sizes of challenges that are read, and of the text that tells them: plain laws. The reading of an argument: origins, asks. The law DigestKnown: its walk. -/
import Derived.Test.YtkoobhgedoanhaaGreatDoorDigestKnownB4
import Derived.Test.YtkoobhgedoanhaaGreatDoorDigestKnownB15
import Derived.Deep.RegionLaw
import Derived.Test.YtkoobhgedoanhaaGreatDoorDigestKnownB13
import Derived.Test.YtkoobhgedoanhaaGreatDoorDigestKnownB3
import Derived.ProofKit
import Derived.OpenShut
import Derived.SizedLaws
import Derived.Deep.Strs
import Derived.Test.YtkoobhgedoanhaaGreatDoorDigestKnownB11
import Derived.Test.YtkoobhgedoanhaaGreatDoorDigestKnownB12
import Derived.Test.YtkoobhgedoanhaaGreatDoorDigestKnownB5
namespace Go.Proofs.YtkoobhgedoanhaaGreatDoor
open Go.RowKit

theorem algR_range {s : Bs} {k : Int} {b : Bool} (h : algR s = some (k, b)) : 2 ≤ k ∧ k ≤ 3 := by
  unfold algR at h
  split at h
  · cases h; omega
  split at h
  · cases h; omega
  split at h
  · cases h; omega
  split at h
  · cases h; omega
  · cases h
theorem knownL_range {x : Cha} {a : AskOf Texts} (h : knownL x = some a) : 1 ≤ a.scheme ∧ a.scheme ≤ 3 := by
  unfold knownL at h
  split at h
  · cases h
  split at h
  · cases h; simp
  split at h
  · cases h
  rename_i k b hk
  have := algR_range hk
  split at h
  · cases h
  split at h
  · cases h
  split at h
  · cases h
  · cases h; simp only; omega
theorem bestTo_ge (a : AskOf Texts) (x : Cha) : a.scheme ≤ (bestTo a x).scheme := by
  unfold bestTo
  split
  · exact Int.le_refl _
  · split
    · omega
    · exact Int.le_refl _
theorem bestTo_known {a b : AskOf Texts} {x : Cha} (h : knownL x = some b) : b.scheme ≤ (bestTo a x).scheme := by
  unfold bestTo
  rw [h]
  simp only
  split <;> omega
theorem fold_ge : ∀ (l : List Cha) (a : AskOf Texts), a.scheme ≤ (l.foldl bestTo a).scheme
  | [], _ => Int.le_refl _
  | x :: l, a => Int.le_trans (bestTo_ge a x) (fold_ge l (bestTo a x))
theorem fold_known : ∀ (l : List Cha) (a : AskOf Texts) (x : Cha) (b : AskOf Texts), x ∈ l → knownL x = some b → b.scheme ≤ (l.foldl bestTo a).scheme
  | y :: l, a, x, b, hx, hb => by
    rcases List.mem_cons.1 hx with rfl | h
    · exact Int.le_trans (bestTo_known hb) (fold_ge l _)
    · exact fold_known l _ x b h hb
theorem fold_is : ∀ (l : List Cha) (a : AskOf Texts), l.foldl bestTo a = a ∨ ∃ x ∈ l, knownL x = some (l.foldl bestTo a)
  | [], _ => Or.inl rfl
  | x :: l, a => by
    rw [List.foldl_cons]
    rcases fold_is l (bestTo a x) with h | ⟨y, hy, h⟩
    · rw [h]
      unfold bestTo
      split
      · exact Or.inl rfl
      · rename_i b hb
        split
        · exact Or.inr ⟨x, List.mem_cons_self .., hb⟩
        · exact Or.inl rfl
    · exact Or.inr ⟨y, List.mem_cons_of_mem _ hy, h⟩
theorem bestL_known {l : List Cha} {x : Cha} {b : AskOf Texts} (hx : x ∈ l) (hb : knownL x = some b) : b.scheme ≤ (bestL l).scheme := fold_known l noAsk x b hx hb
theorem bestL_is (l : List Cha) : bestL l = noAsk ∨ ∃ x ∈ l, knownL x = some (bestL l) := fold_is l noAsk
theorem bestL_pos (l : List Cha) : 0 ≤ (bestL l).scheme := fold_ge l noAsk
theorem bestL_ok {l : List Cha} {x : Cha} {b : AskOf Texts} (hx : x ∈ l) (hb : knownL x = some b) : 0 < (bestL l).scheme := by
  have := bestL_known hx hb
  have := knownL_range hb
  omega
theorem bestL_le {l m : List Cha} (h : ∀ x ∈ l, x ∈ m) : (bestL l).scheme ≤ (bestL m).scheme := by
  rcases bestL_is l with e | ⟨x, hx, e⟩
  · rw [e]; exact bestL_pos m
  · exact bestL_known (h x hx) e
theorem bestL_rev (l : List Cha) : (bestL l.reverse).scheme = (bestL l).scheme :=
  Int.le_antisymm (bestL_le fun x hx => by simpa using hx) (bestL_le fun x hx => by simpa using hx)
/-- a challenge that asks for what is asked for best -/
def asksB (a : AskOf Texts) (x : Cha) : Bool :=
  match knownL x with
  | none => false
  | some b => b.scheme == a.scheme && (b.realm.toList == a.realm.toList && b.nonce.toList == a.nonce.toList)
theorem asks_best (l : List Cha) : l.any (asksB (bestL l)) = decide (0 < (bestL l).scheme) := by
  rcases bestL_is l with e | ⟨x, hx, e⟩
  · have h0 : (bestL l).scheme = 0 := by rw [e]; rfl
    rw [h0, decide_eq_false (by omega), List.any_eq_false]
    intro x hx
    unfold asksB
    cases hk : knownL x with
    | none => simp
    | some b =>
      have := bestL_ok hx hk
      omega
  · rw [decide_eq_true (bestL_ok hx e), List.any_eq_true]
    refine ⟨x, hx, ?_⟩
    unfold asksB
    rw [e]; simp

/-! great letters or small -/
def lowC (x : Cha) : Cha := ⟨lowL x.scheme, x.token, x.params.map fun p => (lowL p.1, p.2)⟩
theorem sameL_lowl (a b : Bs) : sameL (lowL a) b = sameL a b := by unfold sameL; rw [lowL_lowL]
theorem getP_low (ps : List Par) (n : Bs) : getP (ps.map fun p => (lowL p.1, p.2)) n = getP ps n := by
  unfold getP
  induction ps with
  | nil => rfl
  | cons p ps ih =>
    rw [List.map_cons, List.find?_cons, List.find?_cons]
    simp only [sameL_lowl]
    cases sameL p.1 n
    · exact ih
    · rfl
theorem knownL_low (x : Cha) : knownL (lowC x) = knownL x := by
  unfold knownL lowC qopP
  simp only [getP_low, sameL_lowl]
end Go.Proofs.YtkoobhgedoanhaaGreatDoor

namespace Go.Proofs.YtkoobhgedoanhaaGreatDoor
open Go.RowKit

/-- a struct's value into a block that lies, in a region that draws its order -/
theorem step_store_row {P : Program} {ops : Array Oper} {a : Act} {w : World} {K : Act → World → Prop} {Q : Exit → Act → World → Prop} {E : Prop} {o : Oper} (hgd : o.guard = none) (ty : TypeId) (x y : Operand) (ho : o.op = .store ty x y)
    (g : Nat) (cells : Array Value) (hx : a.eval x = .pointer (some ⟨g, 0, none⟩)) (hy : a.eval y = .agg cells)
    (t : TypeId) (old : Array Value) (hg : w.heap[g]? = some (.cells old t (0, 0))) (hi : (P.info? ty).map (·.size) = some cells.size)
    (hold : old.size = cells.size) (h1 : cells.all (·.oneCell') = true) (h : K (a.put o.dst undef) (w.setRow g cells)) : if Region.wanted o (yielded ops a.tmps) = true then Oper.wp P o a w K Q else E := by
  have hw : Region.wanted o (yielded ops a.tmps) = true := by simp [Region.wanted, hgd]
  rw [if_pos hw]
  exact wp_store_row ty x y ho g cells hx hy t old hg hi hold h1 h
/-- an ask's cells read as an ask whose texts are the call's own -/
def BestPost (xs : List Cha) (w : World) (e : Ending) (w' : World) : Prop :=
  Fr noB w w' ∧ ∃ r : AskOf Value, r.Reads (Strs w.heap.size w') (bestL xs) ∧ e = .returned (.tuple #[.agg r.cells.toArray, .bool (decide (0 < (bestL xs).scheme))])
def BeRel (w : World) (xs : List Cha) (t : Value) (wr : World) : Prop :=
  ∃ (k : Nat) (r : AskOf Value), k ≤ xs.length ∧ t = .int .i64 k ∧ wr.heap[w.heap.size]? = some (.cells zAskA 24 (0, 0)) ∧ AskBlk wr (w.heap.size + 1) r ∧ r.Reads (Strs w.heap.size wr) (bestL (xs.take k)) ∧ Fr noB w wr
theorem Reads.dom1 {base : Nat} {w : World} {r : AskOf Value} {a : AskOf Texts} (h : r.Reads (Strs base w) a) : r.dom.oneCell' = true := by
  obtain ⟨x, c, e⟩ := h.2.2.2.2.2.2.2.form
  rw [e]; rfl
theorem zAsk_reads (base : Nat) (w : World) : zAsk.Reads (Strs base w) noAsk := ⟨rfl, rfl, rfl, rfl, rfl, rfl, rfl, Strs.nil _ _⟩
theorem Strs.upS {b b' : Nat} {w : World} {v : Value} {ss : List ByteArray} (h : Strs b' w v ss) (hb : b ≤ b') : Strs b w v ss := ownsRow_up h hb
set_option maxRecDepth 100000 in
set_option maxHeartbeats 8000000 in
theorem Best_any (v : Value) (xs : List Cha) (w : World) (h : ChasAt w v xs) (_hl : xs.length ≤ 1000000) (hz : ∀ x ∈ xs, x.Fit) :
    Calls Tryz.prog 43 #[v] w (BestPost xs w) := by
  obtain ⟨av, cv, hv⟩ := h.form
  subst hv
  obtain ⟨w2, hw2⟩ : ∃ w2, w2 = (w.alloc (.cells zAskA 24)).alloc (.cells zAskA 24) := ⟨_, rfl⟩
  have hf1 : Fr noB (w.alloc (.cells zAskA 24)) w2 := by rw [hw2]; exact (Fr.refl _ _).alloc _
  have hr2 : w2.heap[w.heap.size]? = some (.cells zAskA 24 (0, 0)) := hf1.keep (new_block w _) (fun h => h)
  have hb2 : AskBlk w2 (w.heap.size + 1) zAsk := by
    rw [hw2]
    have := new_block (w.alloc (.cells zAskA 24)) (.cells zAskA 24)
    rw [show (w.alloc (.cells zAskA 24)).heap.size = w.heap.size + 1 from by simp] at this
    exact this
  have hf2 : Fr noB w w2 := ((Fr.refl noB w).alloc _).trans hf1
  have HW2 := Lib.hid hw2
  clear hw2 hf1
  go_enter Tryz.func43, Tryz.ntmps43
  go_wp2_with fail
  rw [← HW2.out]
  go_loopw [11] (BeRel w xs) (fun t _ => xs.length - (intOf t).toNat)
  case atStart => exact ⟨0, zAsk, Nat.zero_le _, rfl, hr2, hb2, zAsk_reads _ _, hf2⟩
  case round =>
    obtain ⟨k, r, hk, rfl, hres, hbb, hrd, hfr⟩ := hrel
    by_cases hks : k < xs.length
    case pos =>
      have hki : (k : Int) < (xs.length : Int) := by omega
      have hat := Lib.hid (List.getElem?_eq_getElem hks)
      have HZ := Lib.hid (hz _ (List.getElem_mem hks))
      generalize xs[k] = x at hat HZ
      obtain ⟨bk, of, pv, rfl, h1, h2, c0, c1, c2, hp⟩ := (h.frNone hfr).cells hat.out
      unfold maxLen at h2
      have HBT := Lib.hid (show bestL (xs.take (k + 1)) = bestTo (bestL (xs.take k)) x by rw [List.take_add_one, hat.out]; exact bestL_snoc _ _)
      obtain ⟨a1, c1', e1⟩ := hp.form
      subst e1
      obtain ⟨wb, hwb⟩ : ∃ wb, wb = wr.alloc (.cells #[.string (bA x.scheme), .string (bA x.token), .slice a1 x.params.length c1'] 38) := ⟨_, rfl⟩
      have hfb : Fr noB wr wb := by rw [hwb]; exact (Fr.refl noB wr).alloc _
      have hxb : ChaAt wb wr.heap.size (bA x.scheme) (bA x.token) (.slice a1 x.params.length c1') := by rw [hwb]; exact new_block _ _
      have x0 := hxb.cell0
      have x1 := hxb.cell1
      have x2 := hxb.cell2
      have KN := Lib.hid (Known_any x _ wb (RowsAt.frNone hp hfb) HZ.out)
      have HWB := Lib.hid hwb
      have hsb : w.heap.size + 1 < wb.heap.size := by have := lt_of_some (hfb.keep hbb (fun h => h)); exact this
      clear hwb hp
      go_wp2_with fail
      rw [← HWB.out]
      refine KN.out.mono ?_
      intro e w3 hkp
      obtain ⟨hf3, hkm⟩ := hkp
      have hres3 := (hfb.trans hf3).keep hres (fun h => h)
      have hbb3 : AskBlk w3 (w.heap.size + 1) r := (hfb.trans hf3).keep hbb (fun h => h)
      have hrd3 : r.Reads (Strs w.heap.size w3) (bestL (xs.take k)) := hrd.mono (fun u l hu => hu.fr (hfb.trans hf3) (fun _ h => h.elim))
      have HF3 := Lib.hid ((hfr.trans hfb).trans hf3)
      have hs3 : w.heap.size + 1 < w3.heap.size := Nat.lt_of_lt_of_le hsb hf3.size
      clear x0 x1 x2 c0 c1 c2 hxb hres hbb hrd
      cases hkn : knownL x with
      | none =>
        rw [hkn] at hkm
        subst hkm
        have HB2 := Lib.hid (show bestL (xs.take (k + 1)) = bestL (xs.take k) by rw [HBT.out]; unfold bestTo; rw [hkn])
        have hst := fun W => run_storeCells_new (P := Tryz.prog) W 24 zAskA zAskA.toList rfl zAskA_one
        have hf4 : Fr noB w3 (w3.alloc (.cells zAskA 24)) := (Fr.refl _ _).alloc _
        have hres4 := hf4.keep hres3 (fun h => h)
        have hbb4 : AskBlk (w3.alloc (.cells zAskA 24)) (w.heap.size + 1) r := hf4.keep hbb3 (fun h => h)
        have hrd4 : r.Reads (Strs w.heap.size (w3.alloc (.cells zAskA 24))) (bestL (xs.take k)) := hrd3.mono (fun u l hu => hu.fr hf4 (fun _ h => h.elim))
        have HF4 := Lib.hid (HF3.out.trans hf4)
        clear hkn
        go_wp2
        go_roundw
        case rel => exact ⟨k + 1, r, by omega, by go_num, hres4, hbb4, by rw [HB2.out]; exact hrd4, HF4.out⟩
        case measure => simp [intOf]; omega
      | some a =>
        rw [hkn] at hkm
        obtain ⟨r2, hr2d, rfl⟩ := hkm
        have hone := Lib.hid (ask_all r2 (Reads.dom1 hr2d))
        obtain ⟨y, hy⟩ : ∃ y, y = r2.cells.toArray := ⟨_, rfl⟩
        have hyk : y.size = 8 := by rw [hy]; rfl
        have HY := Lib.hid hy
        have hro : y.all (·.oneCell') = true := by rw [hy]; exact hone.out
        have hri : (Tryz.prog.info? 24).map (·.size) = some y.size := by rw [hyk]; kernel_rfl
        have hyz : zAskA.size = y.size := by rw [hyk]; rfl
        have hrz : r.cells.toArray.size = y.size := by rw [hyk]; rfl
        obtain ⟨w4, hw4⟩ : ∃ w4, w4 = w3.alloc (.cells y 24) := ⟨_, rfl⟩
        have hf4 : Fr noB w3 w4 := by rw [hw4]; exact (Fr.refl _ _).alloc _
        have hnb4 : AskBlk w4 w3.heap.size r2 := by rw [hw4, hy]; exact new_block _ _
        have hres4 := hf4.keep hres3 (fun h => h)
        have hbb4 : AskBlk w4 (w.heap.size + 1) r := hf4.keep hbb3 (fun h => h)
        have hrd4 : r.Reads (Strs w.heap.size w4) (bestL (xs.take k)) := hrd3.mono (fun u l hu => hu.fr hf4 (fun _ h => h.elim))
        have hr24 : r2.Reads (Strs w.heap.size w4) a := hr2d.mono (fun u l hu => (hu.upS (by omega)).fr hf4 (fun _ h => h.elim))
        have HF4 := Lib.hid (HF3.out.trans hf4)
        have HW4 := Lib.hid hw4
        have n0 : w4.cell? ⟨w3.heap.size, 0, none⟩ = some (.int .i64 a.scheme) := by rw [← hr2d.1]; exact hnb4.cell rfl
        have m0 : w4.cell? ⟨w.heap.size + 1, 0, none⟩ = some (.int .i64 (bestL (xs.take k)).scheme) := by rw [← hrd3.1]; exact hbb4.cell rfl
        have HBT2 := Lib.hid (show bestL (xs.take (k + 1)) = if (bestL (xs.take k)).scheme < a.scheme then a else bestL (xs.take k) by rw [HBT.out]; unfold bestTo; rw [hkn])
        have hs4 : w3.heap.size < w4.heap.size := by rw [hw4]; simp
        rw [← hy]
        clear hkn hy hw4 hres3 hbb3 hrd3 hr2d
        by_cases hlt : (bestL (xs.take k)).scheme < a.scheme
        case pos =>
          have HB2 := Lib.hid (show bestL (xs.take (k + 1)) = a by rw [HBT2.out, if_pos hlt])
          obtain ⟨w5, hw5⟩ : ∃ w5, w5 = w4.setRow (w.heap.size + 1) y := ⟨_, rfl⟩
          have hf5 : Fr (one (w.heap.size + 1)) w4 w5 := by rw [hw5]; exact (Fr.refl (one (w.heap.size + 1)) w4).setRow (fun _ => rfl) y
          have HW5 := Lib.hid hw5
          have hres5 := hf5.keep hres4 (fun h => by have h' : w.heap.size = w.heap.size + 1 := h; omega)
          have hbb5 : AskBlk w5 (w.heap.size + 1) r2 := by rw [hw5, HY.out]; unfold AskBlk; simp [World.setRow, Array.getElem?_modify, show w4.heap[w.heap.size + 1]? = _ from hbb4]
          have hr25 : r2.Reads (Strs w.heap.size w5) a := hr24.mono (fun u l hu => hu.off1 hf5 hbb4 (by decide))
          have HF5 := Lib.hid (HF4.out.step hf5 (fun k hk h => by have h' : k = w.heap.size + 1 := h; omega))
          clear hw5 hf5
          go_wp2_with (first | ((with_reducible refine wpList_at ⟨none, .store 24 (.tmp 7) (.tmp 18), _, _, _, _⟩ ?_); go_must (refine wpList_store_new rfl 24 (.tmp 7) (.tmp 18) rfl zAskA y rfl rfl hri hyz hro ?_); rw [← HW4.out]) | ((with_reducible refine wpList_at ⟨some 28, _, _, _, _, _⟩ ?_); go_must (refine wpList_load_row rfl 24 (.tmp 7) rfl w3.heap.size rfl 24 y (0, 0) _ (by rw [HY.out]; exact hnb4) Tryz.underlying24 rfl hri ?_)) | ((with_reducible refine wpList_at ⟨none, .store 24 (.tmp 4) (.tmp 28), _, _, _, _⟩ ?_); go_must (refine wpList_store_row rfl 24 (.tmp 4) (.tmp 28) rfl (w.heap.size + 1) y rfl rfl 24 r.cells.toArray hbb4 hri hrz hro ?_); rw [← HW5.out]) | fail)
          go_roundw
          case rel => exact ⟨k + 1, r2, by omega, by go_num, hres5, hbb5, by rw [HB2.out]; exact hr25, HF5.out⟩
          case measure => simp [intOf]; omega
        case neg =>
          have HB2 := Lib.hid (show bestL (xs.take (k + 1)) = bestL (xs.take k) by rw [HBT2.out, if_neg hlt])
          go_wp2_with (first | ((with_reducible refine wpList_at ⟨none, .store 24 (.tmp 7) (.tmp 18), _, _, _, _⟩ ?_); go_must (refine wpList_store_new rfl 24 (.tmp 7) (.tmp 18) rfl zAskA y rfl rfl hri hyz hro ?_); rw [← HW4.out]) | fail)
          go_roundw
          case rel => exact ⟨k + 1, r, by omega, by go_num, hres4, hbb4, by rw [HB2.out]; exact hrd4, HF4.out⟩
          case measure => simp [intOf]; omega
    case neg =>
      have hki : ¬ (k : Int) < (xs.length : Int) := by omega
      have hall : xs.take k = xs := List.take_of_length_le (by omega)
      rw [hall] at hrd
      have b0 := hbb.cell (i := 0) rfl
      have b1 := hbb.cell (i := 1) rfl
      have b2 := hbb.cell (i := 2) rfl
      have b3 := hbb.cell (i := 3) rfl
      have b4 := hbb.cell (i := 4) rfl
      have b5 := hbb.cell (i := 5) rfl
      have b6 := hbb.cell (i := 6) rfl
      have b7 := hbb.cell (i := 7) rfl
      obtain ⟨da, dc, hd⟩ := hrd.2.2.2.2.2.2.2.form
      rw [hd] at b7
      have HRD := Lib.hid hrd
      have HD := Lib.hid hd
      have HFR := Lib.hid hfr
      have z : ∀ i u, zAskA[i]? = some u → wr.cell? ⟨w.heap.size, i, none⟩ = some u := fun i u hu => by simp only [World.cell?, hres]; simpa using hu
      have zf : ∀ i, wr.frozen? ⟨w.heap.size, i, none⟩ = false := fun i => by simp [World.frozen?, hres]
      have z0 := z 0 _ rfl
      have f0 := zf 0
      have z1 := z 1 _ rfl
      have f1 := zf 1
      have z2 := z 2 _ rfl
      have f2 := zf 2
      have z3 := z 3 _ rfl
      have f3 := zf 3
      have z4 := z 4 _ rfl
      have f4 := zf 4
      have z5 := z 5 _ rfl
      have f5 := zf 5
      have z6 := z 6 _ rfl
      have f6 := zf 6
      have z7 := z 7 _ rfl
      have f7 := zf 7
      clear z zf
      have HRES := Lib.hid hres
      clear hd hres hbb hrd hfr
      go_wp2_with fail
      go_region
      all_goals
        have hz0 : AskBlk wr w.heap.size zAsk := HRES.out
        have hb6 := ((((((((hz0.set 0 (.int .i64 r.scheme) (r' := { zAsk with scheme := r.scheme }) rfl).set 1 (.string r.realm) (r' := { zAsk with scheme := r.scheme, realm := r.realm }) rfl).set 2 (.string r.nonce) (r' := { zAsk with scheme := r.scheme, realm := r.realm, nonce := r.nonce }) rfl).set 3 (.string r.opaq) (r' := { zAsk with scheme := r.scheme, realm := r.realm, nonce := r.nonce, opaq := r.opaq }) rfl).set 4 (.bool r.sess) (r' := { zAsk with scheme := r.scheme, realm := r.realm, nonce := r.nonce, opaq := r.opaq, sess := r.sess }) rfl).set 5 (.string r.qop) (r' := { zAsk with scheme := r.scheme, realm := r.realm, nonce := r.nonce, opaq := r.opaq, sess := r.sess, qop := r.qop }) rfl).set 6 (.bool r.stale) (r' := { zAsk with scheme := r.scheme, realm := r.realm, nonce := r.nonce, opaq := r.opaq, sess := r.sess, qop := r.qop, stale := r.stale }) rfl).set 7 (.slice da (bestL xs).dom.length dc) (r' := { zAsk with scheme := r.scheme, realm := r.realm, nonce := r.nonce, opaq := r.opaq, sess := r.sess, qop := r.qop, stale := r.stale, dom := .slice da (bestL xs).dom.length dc }) rfl)
        have hf6 := (((((((((Fr.refl (one w.heap.size) wr).setCell (p := ⟨w.heap.size, 0, none⟩) (fun _ => rfl) (.int .i64 r.scheme)).setCell (p := ⟨w.heap.size, 1, none⟩) (fun _ => rfl) (.string r.realm)).setCell (p := ⟨w.heap.size, 2, none⟩) (fun _ => rfl) (.string r.nonce)).setCell (p := ⟨w.heap.size, 3, none⟩) (fun _ => rfl) (.string r.opaq)).setCell (p := ⟨w.heap.size, 4, none⟩) (fun _ => rfl) (.bool r.sess)).setCell (p := ⟨w.heap.size, 5, none⟩) (fun _ => rfl) (.string r.qop)).setCell (p := ⟨w.heap.size, 6, none⟩) (fun _ => rfl) (.bool r.stale)).setCell (p := ⟨w.heap.size, 7, none⟩) (fun _ => rfl) (.slice da (bestL xs).dom.length dc))
        generalize ((((((((wr.setCell ⟨w.heap.size, 0, none⟩ (.int .i64 r.scheme)).setCell ⟨w.heap.size, 1, none⟩ (.string r.realm)).setCell ⟨w.heap.size, 2, none⟩ (.string r.nonce)).setCell ⟨w.heap.size, 3, none⟩ (.string r.opaq)).setCell ⟨w.heap.size, 4, none⟩ (.bool r.sess)).setCell ⟨w.heap.size, 5, none⟩ (.string r.qop)).setCell ⟨w.heap.size, 6, none⟩ (.bool r.stale)).setCell ⟨w.heap.size, 7, none⟩ (.slice da (bestL xs).dom.length dc)) = w6 at hb6 hf6 ⊢
        have hrr : ({ zAsk with scheme := r.scheme, realm := r.realm, nonce := r.nonce, opaq := r.opaq, sess := r.sess, qop := r.qop, stale := r.stale, dom := .slice da (bestL xs).dom.length dc } : AskOf Value) = r := by rw [← HD.out]
        rw [hrr] at hb6
        have hrd6 : r.Reads (Strs w.heap.size w6.drew) (bestL xs) := HRD.out.mono (fun u l hu => (hu.off1 hf6 HRES.out (by decide)).drew)
        have HF6 := Lib.hid (HFR.out.step hf6 (fun k hk h => by have h' : k = w.heap.size := h; omega))
        have hb7 : AskBlk w6.drew w.heap.size r := hb6
        have d0 := hb7.cell (i := 0) rfl
        have d1 := hb7.cell (i := 1) rfl
        have d2 := hb7.cell (i := 2) rfl
        have d3 := hb7.cell (i := 3) rfl
        have d4 := hb7.cell (i := 4) rfl
        have d5 := hb7.cell (i := 5) rfl
        have d6 := hb7.cell (i := 6) rfl
        have d7 := hb7.cell (i := 7) rfl
        have hsc : r.scheme = (bestL xs).scheme := HRD.out.1
        clear hb6 hf6 hz0
        go_wp2
        refine bodyPost_ret (results_cell_tmp (by rfl) _ _ w.heap.size 24 r.cells.toArray (0, 0) _ rfl hb7 Tryz.underlying24 rfl (by kernel_rfl)) rfl ?_
        exact ⟨HF6.out.drewN 1, r, hrd6, by rw [← hsc]; rfl⟩
end Go.Proofs.YtkoobhgedoanhaaGreatDoor

namespace Go.Proofs.YtkoobhgedoanhaaGreatDoor
open Go.RowKit

theorem ErrN.form {n : Nat} {er : Value} {w : World} (h : ErrN n er w) : ∃ t x, er = .iface t x := by
  rcases h with rfl | ⟨g, p, rfl, _⟩
  · exact ⟨_, _, rfl⟩
  · exact ⟨_, _, rfl⟩
theorem Parse_ok {s : ByteArray} {w : World} {l : List Cha} (hs : s.size ≤ 140737488351232) (h : chasL s.data.toList = .ok l) :
    Calls Tryz.prog 17 #[.string s] w fun e w' => ∃ a c, e = .returned (.tuple #[.slice a l.length c, .nilIface]) ∧ ChasAt w' (.slice a l.length c) l ∧ Fr noB w w' := by
  refine (Parse_ask s w hs).mono ?_
  rintro e w' ⟨hf, hm⟩
  rw [h] at hm
  obtain ⟨v, rfl, hv⟩ := hm
  obtain ⟨a, c, rfl⟩ := hv.form
  exact ⟨a, c, rfl, hv.at, hf⟩
theorem Parse_bad {s : ByteArray} {w : World} {n : Nat} (hs : s.size ≤ 140737488351232) (h : chasL s.data.toList = .error n) :
    Calls Tryz.prog 17 #[.string s] w fun e w' => ∃ t x, e = .returned (.tuple #[.slice none 0 0, .iface t x]) ∧ ErrN n (.iface t x) w' ∧ Fr noB w w' := by
  refine (Parse_ask s w hs).mono ?_
  rintro e w' ⟨hf, hm⟩
  rw [h] at hm
  obtain ⟨er, rfl, he⟩ := hm
  obtain ⟨t, x, rfl⟩ := he.form
  exact ⟨t, x, rfl, he, hf⟩
end Go.Proofs.YtkoobhgedoanhaaGreatDoor

namespace Go.Proofs.YtkoobhgedoanhaaGreatDoor
open Go.RowKit

def askedT : Bs := [66, 97, 115, 105, 99, 32, 114, 101, 97, 108, 109, 61, 34, 114, 34, 44, 32, 44, 32, 68, 105, 103, 101, 115, 116, 32, 110, 111, 110, 99, 101, 32, 61, 32, 110, 44, 114, 101, 97, 108, 109, 61, 115, 44, 78, 101, 103, 111, 116, 105, 97, 116, 101, 32, 97, 98, 99, 61, 61]
def askedC : List Cha := [⟨[66, 97, 115, 105, 99], [], [(nRealm, [114])]⟩, ⟨[68, 105, 103, 101, 115, 116], [], [(nNonce, [110]), (nRealm, [115])]⟩, ⟨[78, 101, 103, 111, 116, 105, 97, 116, 101], [97, 98, 99, 61, 61], []⟩]
theorem asked_chas : chasL askedT = .ok askedC := by kernel_rfl
theorem asked_bestS : (bestL askedC).scheme = 2 := by kernel_rfl
theorem asked_bestR : (bestL askedC).realm = ⟨#[115]⟩ := by kernel_rfl
theorem asked_bestN : (bestL askedC).nonce = ⟨#[110]⟩ := by kernel_rfl
theorem asked_fit : ∀ x ∈ askedC, x.Fit := by
  intro x hx
  simp only [askedC, List.mem_cons, List.not_mem_nil, or_false] at hx
  rcases hx with rfl | rfl | rfl <;> exact ⟨by decide, by decide, by decide, by decide⟩
set_option maxRecDepth 100000 in
set_option maxHeartbeats 4000000 in
theorem asked_any (w : World) : Calls Tryz.prog 13 #[] w fun e w' => e = .returned (.bool true) ∧ Fr noB w w' := by
  go_enter Tryz.func13, Tryz.ntmps13
  go_wp2_with fail
  refine (Parse_ok (s := ⟨askedT.toArray⟩) (l := askedC) (by decide) asked_chas).mono ?_
  rintro e w1 ⟨a, c, rfl, hc, hf1⟩
  go_wp2_with fail
  refine (Best_any _ askedC w1 hc (by decide) asked_fit).mono ?_
  rintro e w2 ⟨hf2, r, hr, rfl⟩
  have hone := ask_all r (Reads.dom1 hr)
  have e0 : r.scheme = 2 := hr.1.trans asked_bestS
  have e1 : r.realm = ⟨#[115]⟩ := hr.2.1.trans asked_bestR
  have e2 : r.nonce = ⟨#[110]⟩ := hr.2.2.1.trans asked_bestN
  obtain ⟨y, hy⟩ : ∃ y, y = r.cells.toArray := ⟨_, rfl⟩
  have hyk : y.size = 8 := by rw [hy]; rfl
  have hro : y.all (·.oneCell') = true := by rw [hy]; exact hone
  have hri : (Tryz.prog.info? 24).map (·.size) = some y.size := by rw [hyk]; kernel_rfl
  have hyz : zAskA.size = y.size := by rw [hyk]; rfl
  obtain ⟨w3, hw3⟩ : ∃ w3, w3 = w2.alloc (.cells y 24) := ⟨_, rfl⟩
  have hb3 : AskBlk w3 w2.heap.size r := by rw [hw3, hy]; exact new_block _ _
  have hf3 : Fr noB w1 w3 := by rw [hw3]; exact hf2.alloc _
  have HF3 := Lib.hid (hf1.trans hf3)
  have n0 : w3.cell? ⟨w2.heap.size, 0, none⟩ = some (.int .i64 2) := by rw [← e0]; exact hb3.cell rfl
  have n1 : w3.cell? ⟨w2.heap.size, 1, none⟩ = some (.string ⟨#[115]⟩) := by rw [← e1]; exact hb3.cell rfl
  have n2 : w3.cell? ⟨w2.heap.size, 2, none⟩ = some (.string ⟨#[110]⟩) := by rw [← e2]; exact hb3.cell rfl
  obtain ⟨bk, of, pv, rfl, g1, g2, _, _, c2, hp⟩ := (hc.frNone hf3).cells (k := 0) (x := ⟨[66, 97, 115, 105, 99], [], [(nRealm, [114])]⟩) rfl
  obtain ⟨bk', of', pv', hbk, _, _, _, d1, _, _⟩ := (hc.frNone hf3).cells (k := 2) (x := ⟨[78, 101, 103, 111, 116, 105, 97, 116, 101], [97, 98, 99, 61, 61], []⟩) rfl
  injection hbk with hbk
  injection hbk with hb1 hb2
  subst hb1 hb2
  obtain ⟨pa, pc, rfl⟩ := hp.form
  unfold maxLen at g2
  have g1' : (3 : Int) ≤ (c : Int) := by have : 3 ≤ c := g1; omega
  have HW3 := Lib.hid hw3
  have c2' : w3.cell? ⟨bk, of + 2, none⟩ = some (.slice pa 1 pc) := by simpa using c2
  have d1' : w3.cell? ⟨bk, of + 7, none⟩ = some (.string ⟨#[97, 98, 99, 61, 61]⟩) := d1
  have d1'' : w3.cell? ⟨bk, of + 6 + 1, none⟩ = some (.string ⟨#[97, 98, 99, 61, 61]⟩) := d1
  rw [show askedC.length = 3 from rfl]
  rw [show (bestL askedC).scheme = 2 from asked_bestS]
  rw [← hy]
  clear hy hw3 hr hf2 hf3 hb3 hc hone e0 e1 e2 hp d1
  go_wp2_with (first | ((with_reducible refine wpList_at ⟨none, .store 24 (.tmp 3) (.tmp 19), _, _, _, _⟩ ?_); go_must (refine wpList_store_new rfl 24 (.tmp 3) (.tmp 19) rfl zAskA y rfl rfl hri hyz hro ?_); rw [← HW3.out]) | fail)
  go_ret
  exact ⟨rfl, HF3.out⟩
end Go.Proofs.YtkoobhgedoanhaaGreatDoor

namespace Go.Proofs.YtkoobhgedoanhaaGreatDoor
open Go.RowKit

/-- parts no longer than M -/
def PartsLe (M : Nat) (ps : List Par) : Prop := ∀ p ∈ ps, p.1.length ≤ M ∧ p.2.length ≤ M
theorem paramsN_sizes (M : Nat) : ∀ (f : Nat) (ps : List Par) (r : Bs) (q : List Par × Bs), r.length ≤ M → PartsLe M ps → paramsN f ps r = .ok q → PartsLe M q.1
  | 0, ps, r, q, _, hp, h => by rw [paramsN] at h; cases h; exact hp
  | f + 1, ps, r, q, hr, hp, h => by
    rw [paramsN] at h
    cases hq : paramR ps r with
    | error e => rw [hq] at h; cases h
    | ok p =>
      obtain ⟨p, r1⟩ := p
      rw [hq] at h
      have hle := paramR_le hq
      have hg := gapsR_le r1
      have hn : PartsLe M (ps ++ [p]) := by
        intro a ha
        rcases List.mem_append.1 ha with g | g
        · exact hp a g
        · simp at g; subst g; exact ⟨by omega, by omega⟩
      simp only at h
      split at h
      · split at h
        · exact paramsN_sizes M f _ _ q (by omega) hn h
        · cases h; exact hn
      · cases h
structure Cha.Le (M : Nat) (x : Cha) : Prop where
  scheme : x.scheme.length ≤ M
  token : x.token.length ≤ M
  pars : PartsLe M x.params
theorem oneR_sizes {M k : Nat} {r : Bs} {x : Cha} {z : Bs} (hr : r.length ≤ M) (h : oneR k r = .ok (x, z)) : x.Le M := by
  have hw := wordR_len r
  have hb := blanksR_le (afterW r)
  unfold oneR at h
  split at h
  · cases h
  split at h
  · cases h
  split at h
  · cases h; exact ⟨by show (wordR r).length ≤ M; omega, Nat.zero_le _, fun p hp => by cases hp⟩
  split at h
  · cases h
  split at h
  · rename_i q hq
    obtain ⟨t, z'⟩ := q
    have := singleR_le hq
    cases h; exact ⟨by show (wordR r).length ≤ M; omega, by show t.length ≤ M; omega, fun p hp => by cases hp⟩
  · split at h
    · cases h
    · rename_i q hq
      have := paramsN_sizes M _ _ _ _ (by omega) (fun p hp => by cases hp) hq
      cases h; exact ⟨by show (wordR r).length ≤ M; omega, Nat.zero_le _, this⟩
theorem parseN_sizes (M : Nat) : ∀ (f : Nat) (acc : List Cha) (r : Bs) (l : List Cha), r.length ≤ M → (∀ x ∈ acc, x.Le M) → parseN f acc r = .ok l → ∀ x ∈ l, x.Le M
  | 0, acc, r, l, _, ha, h => by rw [parseN] at h; cases h; exact ha
  | f + 1, acc, r, l, hr, ha, h => by
    rw [parseN] at h
    split at h
    · cases h; exact ha
    · cases ho : oneR acc.length (gapsR r) with
      | error e => rw [ho] at h; cases h
      | ok q =>
        obtain ⟨x, r1⟩ := q
        rw [ho] at h
        have h1 := oneR_le ho
        have h2 := gapsR_le r
        have hx := oneR_sizes (M := M) (by omega) ho
        refine parseN_sizes M f _ _ l (by omega) (fun y hy => ?_) h
        rcases List.mem_append.1 hy with g | g
        · exact ha y g
        · simp at g; subst g; exact hx
theorem chasL_sizes {r : Bs} {l : List Cha} (h : chasL r = .ok l) : ∀ x ∈ l, x.Le r.length := by
  unfold chasL at h
  split at h
  · cases h
  · exact parseN_sizes _ _ _ _ _ (Nat.le_refl _) (fun x hx => by cases hx) h
theorem chasL_short {r : Bs} {l : List Cha} (h : chasL r = .ok l) : r.length ≤ 3000 := by
  unfold chasL at h
  split at h
  · cases h
  · omega
theorem chasL_fit {r : Bs} {l : List Cha} (h : chasL r = .ok l) : ∀ x ∈ l, x.Fit := by
  intro x hx
  have h1 := chasL_sizes h x hx
  have h2 := chasL_short h
  have h3 := (chasL_ok h).1 x hx
  exact ⟨by have := h1.scheme; omega, by have := h1.token; omega, h3.few, fun p hp => by have := h1.pars p hp; omega⟩
end Go.Proofs.YtkoobhgedoanhaaGreatDoor

namespace Go.Proofs.YtkoobhgedoanhaaGreatDoor
open Go.ChangeShapes Go.WideShapes Go.ChangeAt Go.RowKit Go.Deep

section
variable {H : Type} {enc : TypeId × Value → H} {P : Program} {W : World}
theorem weightsAll_in {e : TypeId} : ∀ {l : List (DataW H)} {d : DataW H}, d ∈ l → ∀ n ∈ d.weights P e, n ∈ DataW.weightsAll P e l
  | d' :: r, d, hd, n, hn => by
    simp only [DataW.weightsAll, List.mem_append]
    rcases List.mem_cons.1 hd with rfl | h
    · exact Or.inl hn
    · exact Or.inr (weightsAll_in h n hn)
/-- what a datum weighs lies within the reach -/
def Light (P : Program) (t : TypeId) (d : DataW H) : Prop := ∀ n ∈ d.weights P t, n ≤ reachBytes
theorem open_field {t : TypeId} {fs : Array Field} {fuel : Nat} {cs : List Value} {x : DataW H × List MemPlace} (ht : P.underlying t = some (.struct fs)) (h : DataW.trod enc P W 0 (fun _ => true) true fuel t cs = some x) :
    cs.length = P.cellsOf t ∧ ∃ n, ∀ (i : Nat) (t' : TypeId) (o k : Nat), fs[i]?.map (fun f => (f.type, f.offset)) = some (t', o) → P.cellsOf t' = k → ∃ y, DataW.trod enc P W 0 (fun _ => true) true n t' ((cs.drop o).take k) = some y ∧ (Light P t x.1 → Light P t' y.1) := by
  obtain ⟨xs, n, _, rfl, hl, hxl, hf⟩ := DataW.trod_struct ht h
  refine ⟨hl, n, fun i t' o k he hk => ?_⟩
  obtain ⟨f, hi, e⟩ := Option.map_eq_some_iff.1 he
  injection e with e1 e2
  subst e1 e2 hk
  have hlt : i < fs.size := (Array.getElem?_eq_some_iff.1 hi).1
  refine ⟨xs[i], by rw [hf i f hi]; exact List.getElem?_eq_getElem _, fun hL m hm => hL m ?_⟩
  simp only [DataW.weights, ht]
  refine DataW.weights_mem_each (j := i) (t := f.type) (d := xs[i].1) ?_ ?_ m hm
  · rw [List.getElem?_map, Array.getElem?_toList, hi]; rfl
  · rw [List.getElem?_map, List.getElem?_eq_getElem (by omega)]; rfl
theorem open_bool_field {t : TypeId} {fuel : Nat} {cs : List Value} {x : DataW H × List MemPlace} (ht : P.underlying t = some .bool) (h : DataW.trod enc P W 0 (fun _ => true) true fuel t cs = some x) : ∃ b, cs = [.bool b] := by
  obtain ⟨b, e, _⟩ := DataW.trod_bool ht h; exact ⟨b, e⟩
theorem open_int_field {t : TypeId} {k : IntKind} {fuel : Nat} {cs : List Value} {x : DataW H × List MemPlace} (ht : P.underlying t = some (.int k)) (h : DataW.trod enc P W 0 (fun _ => true) true fuel t cs = some x) : ∃ n, cs = [.int k n] ∧ (Lit.int k n).wf = true := by
  obtain ⟨b, e, _, hw⟩ := DataW.trod_int ht h; exact ⟨b, e, hw⟩
theorem open_string_field {t : TypeId} {fuel : Nat} {cs : List Value} {x : DataW H × List MemPlace} (ht : P.underlying t = some .string) (h : DataW.trod enc P W 0 (fun _ => true) true fuel t cs = some x) :
    ∃ s : ByteArray, cs = [.string s] ∧ (Light P t x.1 → s.size ≤ reachBytes) := by
  obtain ⟨s, e, hx, _⟩ := DataW.trod_string ht h
  refine ⟨s, e, fun hL => ?_⟩
  have := hL s.data.toList.length (by rw [hx]; simp [DataW.weights])
  simpa using this
end
variable {H : Type} {enc : TypeId × Value → H} {W : World}
set_option maxRecDepth 100000 in
theorem open_strs_field {fuel : Nat} {cs : List Value} {x : DataW H × List MemPlace} (h : DataW.trod enc Tryz.prog W 0 (fun _ => true) true fuel 22 cs = some x) :
    ∃ v ss, cs = [v] ∧ StrsArg W v ss ∧ (Light Tryz.prog 22 x.1 → ss.length * 16 ≤ reachBytes ∧ ∀ s ∈ ss, s.size ≤ reachBytes) := by
  rcases open_strs Tryz.underlying22 Tryz.underlying9 (by kernel_rfl) h with ⟨rfl, rfl⟩ | ⟨a, len, cap, m, Sx, rfl, _, hl, hm, hme, rfl, hc⟩
  · exact ⟨_, [], rfl, StrsAt.nil _, fun _ => ⟨by simp, by simp⟩⟩
  simp only [if_true] at hme
  subst hme
  have hlight : Light Tryz.prog 22 (DataW.slice ((List.range len).map fun i => (DataW.lit (.string (Sx i).data.toList) : DataW H)) ((List.range (m - len)).map fun j => .lit (.string (Sx (len + j)).data.toList))) → len * 16 ≤ reachBytes ∧ ∀ s ∈ (List.range len).map Sx, s.size ≤ reachBytes := by
    intro hL
    unfold Light at hL
    simp only [DataW.weights, Tryz.underlying22] at hL
    refine ⟨?_, fun s hs => ?_⟩
    · have := hL _ (List.mem_cons_self ..)
      simp only [List.length_map, List.length_range, show Tryz.prog.bytesOf 9 = 16 from by kernel_rfl] at this
      have e : (len + (m - len)) * 16 = m * 16 := by congr 1; omega
      rw [e] at this
      have : len * 16 ≤ m * 16 := Nat.mul_le_mul_right _ hl
      omega
    · obtain ⟨i, hi, rfl⟩ := List.mem_map.1 hs
      have := hL (Sx i).data.toList.length (List.mem_cons_of_mem _ (List.mem_append_left _ (weightsAll_in (d := .lit (.string (Sx i).data.toList)) (List.mem_map.2 ⟨i, hi, rfl⟩) _ (by simp [DataW.weights]))))
      simpa using this
  by_cases h0 : len = 0
  · subst h0
    refine ⟨_, [], rfl, Or.inl ⟨_, _, rfl, rfl, fun e => by cases e⟩, fun hL => ⟨by simp, by simp⟩⟩
  · obtain ⟨b, off, spot⟩ := a
    have hc0 := (hc 0 (by omega)).1
    have hspot : spot = none := by simpa [Addr.add] using World.cell?_spot hc0
    subst hspot
    have hadd : ∀ j, (Addr.add ⟨b, off, none⟩ j) = ⟨b, off + j, none⟩ := by intro j; unfold Addr.add; split <;> simp_all
    have hbl : b < W.heap.size := World.block_lt_of_cell? _ _ hc0
    refine ⟨_, (List.range len).map Sx, rfl, Or.inr ⟨b, off, m, by simp, by simpa using hl, hm, hbl, fun j y hj => ?_⟩, fun hL => by simpa using hlight hL⟩
    · rw [List.getElem?_map] at hj
      obtain ⟨i, hi, rfl⟩ := Option.map_eq_some_iff.1 hj
      obtain ⟨hj1, rfl⟩ := List.getElem?_eq_some_iff.1 hi
      simp at hj1 ⊢
      have := (hc j (by omega)).1
      rwa [hadd] at this

theorem cells_bool : Tryz.prog.cellsOf 4 = 1 := by kernel_rfl
theorem cells_int : Tryz.prog.cellsOf 3 = 1 := by kernel_rfl
theorem cells_string : Tryz.prog.cellsOf 9 = 1 := by kernel_rfl
theorem cells_strs : Tryz.prog.cellsOf 22 = 1 := by kernel_rfl
theorem cells_ori : Tryz.prog.cellsOf 49 = 3 := by kernel_rfl
theorem cells_creds : Tryz.prog.cellsOf 26 = 2 := by kernel_rfl
theorem cells_ask : Tryz.prog.cellsOf 24 = 8 := by kernel_rfl

def Ori.Sized (o : Ori) : Prop := o.host.size ≤ reachBytes
def AskOf.Sized (a : AskOf Texts) : Prop := a.realm.size ≤ reachBytes ∧ a.nonce.size ≤ reachBytes ∧ a.opaq.size ≤ reachBytes ∧ a.qop.size ≤ reachBytes ∧ a.dom.length * 16 ≤ reachBytes ∧ ∀ s ∈ a.dom, s.size ≤ reachBytes
theorem len3 {α : Type} {l : List α} (h : l.length = 3) : ∃ a b c, l = [a, b, c] := by
  match l, h with
  | [a, b, c], _ => exact ⟨a, b, c, rfl⟩
theorem len2 {α : Type} {l : List α} (h : l.length = 2) : ∃ a b, l = [a, b] := by
  match l, h with
  | [a, b], _ => exact ⟨a, b, rfl⟩
theorem len8 {α : Type} {l : List α} (h : l.length = 8) : ∃ a b c d e f g i, l = [a, b, c, d, e, f, g, i] := by
  match l, h with
  | [a, b, c, d, e, f, g, i], _ => exact ⟨a, b, c, d, e, f, g, i, rfl⟩
theorem open_ori {fuel : Nat} {cs : List Value} {x : DataW H × List MemPlace} (h : DataW.trod enc Tryz.prog W 0 (fun _ => true) true fuel 49 cs = some x) :
    ∃ o : Ori, cs = o.cells ∧ (Lit.int .i64 o.port).wf = true ∧ (Light Tryz.prog 49 x.1 → o.Sized) := by
  obtain ⟨hl, n, hf⟩ := open_field Tryz.underlying49 h
  rw [cells_ori] at hl
  obtain ⟨c0, c1, c2, rfl⟩ := len3 hl
  obtain ⟨y0, h0, l0⟩ := hf 0 4 0 _ rfl cells_bool
  obtain ⟨y1, h1, l1⟩ := hf 1 9 1 _ rfl cells_string
  obtain ⟨y2, h2, l2⟩ := hf 2 3 2 _ rfl cells_int
  simp only [List.drop, List.take] at h0 h1 h2
  obtain ⟨b0, e0⟩ := open_bool_field Tryz.underlying4 h0
  obtain ⟨b1, e1, w1⟩ := open_string_field Tryz.underlying9 h1
  obtain ⟨b2, e2, w2⟩ := open_int_field Tryz.underlying3 h2
  simp at e0 e1 e2
  subst e0 e1 e2
  exact ⟨⟨b0, b1, b2⟩, rfl, w2, fun hL => w1 (l1 hL)⟩
theorem open_ask {fuel : Nat} {cs : List Value} {x : DataW H × List MemPlace} (h : DataW.trod enc Tryz.prog W 0 (fun _ => true) true fuel 24 cs = some x) :
    ∃ (r : AskOf Value) (a : AskOf Texts), cs = r.cells ∧ r.Reads (StrsArg W) a ∧ (Lit.int .i64 a.scheme).wf = true ∧ (Light Tryz.prog 24 x.1 → a.Sized) := by
  obtain ⟨hl, n, hf⟩ := open_field Tryz.underlying24 h
  rw [cells_ask] at hl
  obtain ⟨c0, c1, c2, c3, c4, c5, c6, c7, rfl⟩ := len8 hl
  obtain ⟨y0, h0, l0⟩ := hf 0 3 0 _ rfl cells_int
  obtain ⟨y1, h1, l1⟩ := hf 1 9 1 _ rfl cells_string
  obtain ⟨y2, h2, l2⟩ := hf 2 9 2 _ rfl cells_string
  obtain ⟨y3, h3, l3⟩ := hf 3 9 3 _ rfl cells_string
  obtain ⟨y4, h4, l4⟩ := hf 4 4 4 _ rfl cells_bool
  obtain ⟨y5, h5, l5⟩ := hf 5 9 5 _ rfl cells_string
  obtain ⟨y6, h6, l6⟩ := hf 6 4 6 _ rfl cells_bool
  obtain ⟨y7, h7, l7⟩ := hf 7 22 7 _ rfl cells_strs
  simp only [List.drop, List.take] at h0 h1 h2 h3 h4 h5 h6 h7
  obtain ⟨b0, e0, w0⟩ := open_int_field Tryz.underlying3 h0
  obtain ⟨b1, e1, w1⟩ := open_string_field Tryz.underlying9 h1
  obtain ⟨b2, e2, w2⟩ := open_string_field Tryz.underlying9 h2
  obtain ⟨b3, e3, w3⟩ := open_string_field Tryz.underlying9 h3
  obtain ⟨b4, e4⟩ := open_bool_field Tryz.underlying4 h4
  obtain ⟨b5, e5, w5⟩ := open_string_field Tryz.underlying9 h5
  obtain ⟨b6, e6⟩ := open_bool_field Tryz.underlying4 h6
  obtain ⟨v7, ss7, e7, s7, w7⟩ := open_strs_field h7
  simp at e0 e1 e2 e3 e4 e5 e6 e7
  subst e0 e1 e2 e3 e4 e5 e6 e7
  exact ⟨⟨b0, b1, b2, b3, b4, b5, b6, c7⟩, ⟨b0, b1, b2, b3, b4, b5, b6, ss7⟩, rfl, ⟨rfl, rfl, rfl, rfl, rfl, rfl, rfl, s7⟩, w0, fun hL => ⟨w1 (l1 hL), w2 (l2 hL), w3 (l3 hL), w5 (l5 hL), w7 (l7 hL)⟩⟩
theorem light_of {P : Program} {ts : List TypeId} {ds : List (DataW H)} (hsz : (DataW.weightsEach P ts ds).all (· ≤ reachBytes) = true) {j : Nat} {t : TypeId} {d : DataW H} (ht : ts[j]? = some t) (hd : ds[j]? = some d) : Light P t d := fun n hn => by
  have := List.all_eq_true.1 hsz n (DataW.weights_mem_each ht hd n hn); simpa using this
set_option maxRecDepth 100000 in
theorem open_oriArg {base : Nat} {v : Value} {d : DataW H} {p : List MemPlace} (hv : Value.okWide Tryz.prog W .any base 49 v) (h : DataW.Trod enc Tryz.prog W 0 (fun _ => true) true 49 v d p) (hL : Light Tryz.prog 49 d) :
    ∃ o : Ori, v = .agg o.cells.toArray ∧ o.Sized ∧ (Lit.int .i64 o.port).wf = true := by
  obtain ⟨cs, rfl, _⟩ := okWide_struct Tryz.underlying49 hv
  obtain ⟨fuel, hf⟩ := h
  obtain ⟨o, e, hw, hs⟩ := open_ori hf
  simp only [Value.cells] at e
  exact ⟨o, by rw [← e], hs hL, hw⟩
set_option maxRecDepth 100000 in
theorem open_askArg {base : Nat} {v : Value} {d : DataW H} {p : List MemPlace} (hv : Value.okWide Tryz.prog W .any base 24 v) (h : DataW.Trod enc Tryz.prog W 0 (fun _ => true) true 24 v d p) (hL : Light Tryz.prog 24 d) :
    ∃ (r : AskOf Value) (a : AskOf Texts), v = .agg r.cells.toArray ∧ r.Reads (StrsArg W) a ∧ a.Sized ∧ (Lit.int .i64 a.scheme).wf = true := by
  obtain ⟨cs, rfl, _⟩ := okWide_struct Tryz.underlying24 hv
  obtain ⟨fuel, hf⟩ := h
  obtain ⟨r, a, e, hr, hw, hs⟩ := open_ask hf
  simp only [Value.cells] at e
  exact ⟨r, a, by rw [← e], hr, hs hL, hw⟩
set_option maxRecDepth 100000 in
theorem open_credsArg {base : Nat} {v : Value} {d : DataW H} {p : List MemPlace} (hv : Value.okWide Tryz.prog W .any base 26 v) (h : DataW.Trod enc Tryz.prog W 0 (fun _ => true) true 26 v d p) (hL : Light Tryz.prog 26 d) :
    ∃ user pass : ByteArray, v = .agg #[.string user, .string pass] ∧ user.size ≤ reachBytes ∧ pass.size ≤ reachBytes := by
  obtain ⟨cs, rfl, _⟩ := okWide_struct Tryz.underlying26 hv
  obtain ⟨fuel, hf⟩ := h
  simp only [Value.cells] at hf
  obtain ⟨hl, n2, hf2⟩ := open_field Tryz.underlying26 hf
  rw [cells_creds] at hl
  obtain ⟨c0, c1, e⟩ := len2 hl
  rw [e] at hf2
  obtain ⟨z0, j0, m0⟩ := hf2 0 9 0 _ rfl cells_string
  obtain ⟨z1, j1, m1⟩ := hf2 1 9 1 _ rfl cells_string
  simp only [List.drop, List.take] at j0 j1
  obtain ⟨u, eu, wu⟩ := open_string_field Tryz.underlying9 j0
  obtain ⟨q, eq, wq⟩ := open_string_field Tryz.underlying9 j1
  simp only [List.cons.injEq, and_true] at eu eq
  subst eu eq
  refine ⟨u, q, ?_, wu (m0 hL), wq (m1 hL)⟩
  congr 1
  apply Array.ext'
  rw [e]
end Go.Proofs.YtkoobhgedoanhaaGreatDoor

namespace Go.Proofs.YtkoobhgedoanhaaGreatDoor
open Go.RowKit

set_option maxRecDepth 100000 in
set_option maxHeartbeats 8000000 in
theorem DigestKnown_walk (r : AskOf Value) (a : AskOf Texts) (user pass method target cnonce : ByteArray) (n : Int) (z2 : method.size ≤ 140737488351232) (z3 : target.size ≤ 140737488351232) (z4 : cnonce.size ≤ 140737488351232)
    (w : World) (st0 : r.Reads (StrsArg w) a ∧ a.Sized ∧ (Lit.int .i64 a.scheme).wf = true) (st1 : user.size ≤ reachBytes ∧ pass.size ≤ reachBytes) (ht : MdTabs w) (hs : ShTabs w) (hdb : TabAt w 12 .u8 dbL) :
    Calls Tryz.prog 4 #[.agg r.cells.toArray, .agg #[.string user, .string pass], .string method, .string target, .string cnonce, .int .i64 n] w fun e w' => e = .returned (.bool true) ∧ Below w.heap.size w w' := by
  obtain ⟨⟨e0, e1, e2, e3, e4, e5, e6, hdom⟩, ⟨y1, y2, y3, y5, y7⟩, y8⟩ := st0
  have hone : r.dom.oneCell' = true := by obtain ⟨a', c', h⟩ := StrsAt.form hdom; rw [h]; rfl
  have x1 : r.realm.size ≤ 140737488351232 := by rw [e1]; exact y1
  have x2 : r.nonce.size ≤ 140737488351232 := by rw [e2]; exact y2
  have x3 : r.opaq.size ≤ 140737488351232 := by rw [e3]; exact y3
  have x5 : r.qop.size ≤ 140737488351232 := by rw [e5]; exact y5
  have x6 : user.size ≤ 140737488351232 := st1.1
  have x7 : pass.size ≤ 140737488351232 := st1.2
  clear e0 e1 e2 e3 e4 e5 e6 hdom y1 y2 y3 y5 y7 y8 st1
  obtain ⟨sch, realm, nonce, opaq, sess, qop, stale, dom⟩ := r
  simp only at hone x1 x2 x3 x5
  show Calls Tryz.prog 4 #[.agg #[.int .i64 sch, .string realm, .string nonce, .string opaq, .bool sess, .string qop, .bool stale, dom], .agg #[.string user, .string pass], .string method, .string target, .string cnonce, .int .i64 n] w _
  obtain ⟨wb, hwb⟩ : ∃ wb, wb = (w.alloc (.cells #[.int .i64 sch, .string realm, .string nonce, .string opaq, .bool sess, .string qop, .bool stale, dom] 24)).alloc (.cells #[.string user, .string pass] 26) := ⟨_, rfl⟩
  have hfb : Fr noB w wb := by rw [hwb]; exact ((Fr.refl noB w).alloc _).alloc _
  have hsb : wb.heap.size = w.heap.size + 2 := by rw [hwb]; simp
  have hk1 : wb.heap[w.heap.size]? = some (.cells #[.int .i64 sch, .string realm, .string nonce, .string opaq, .bool sess, .string qop, .bool stale, dom] 24 (0, 0)) := by rw [hwb]; exact ((Fr.refl noB _).alloc _).keep (new_block _ _) (fun h => h)
  have hk2 : wb.heap[w.heap.size + 1]? = some (.cells #[.string user, .string pass] 26 (0, 0)) := by
    have h := new_block (w.alloc (.cells #[.int .i64 sch, .string realm, .string nonce, .string opaq, .bool sess, .string qop, .bool stale, dom] 24)) (.cells #[.string user, .string pass] 26)
    rw [World.size_alloc] at h
    rw [hwb]; exact h
  have HC := Lib.hid (show ∀ U, Fr noB wb U → (U.cell? ⟨w.heap.size, 0, none⟩ = some (.int .i64 sch) ∧ U.cell? ⟨w.heap.size, 1, none⟩ = some (.string realm) ∧ U.cell? ⟨w.heap.size, 2, none⟩ = some (.string nonce) ∧ U.cell? ⟨w.heap.size, 3, none⟩ = some (.string opaq) ∧ U.cell? ⟨w.heap.size, 4, none⟩ = some (.bool sess) ∧ U.cell? ⟨w.heap.size, 5, none⟩ = some (.string qop) ∧ U.cell? ⟨w.heap.size, 6, none⟩ = some (.bool stale) ∧ U.cell? ⟨w.heap.size, 7, none⟩ = some dom) ∧ U.cell? ⟨w.heap.size + 1, 0, none⟩ = some (.string user) ∧ U.cell? ⟨w.heap.size + 1, 1, none⟩ = some (.string pass) from fun U hU => by
    have j1 := hU.keep hk1 (fun h => h)
    have j2 := hU.keep hk2 (fun h => h)
    exact ⟨by simp [World.cell?, j1], by simp [World.cell?, j2]⟩)
  have HT := Lib.hid (And.intro (ht.fr hfb) (And.intro (hs.fr hfb) (hdb.fr hfb)))
  have HFB := Lib.hid hfb
  have HWB := Lib.hid hwb
  clear ht hs hdb hfb hwb hk1 hk2
  go_enter Tryz.func4, Tryz.ntmps4
  go_wp2_with fail
  rw [← HWB.out]
  refine (proved_any wb HT.out.1 HT.out.2.2).mono ?_
  rintro e u1 ⟨rfl, hf1⟩
  go_wp2_with fail
  refine (asked_any u1).mono ?_
  rintro e u2 ⟨rfl, hf2⟩
  go_wp2_with fail
  refine (worded_any u2).mono ?_
  rintro e u3 ⟨rfl, hf3⟩
  have hf := (hf1.trans hf2).trans hf3
  have HF1 := Lib.hid hf
  obtain ⟨⟨c0, c1, c2, c3, c4, c5, c6, c7⟩, d0, d1⟩ := HC.out u3 hf
  have HSM := Lib.hid (small_any ⟨sch, realm, nonce, opaq, sess, qop, stale, dom⟩ user pass u3.heap.size 0 3 [method, target, cnonce] (u3.alloc (.cells #[.string method, .string target, .string cnonce] 9)) hone x1 x2 x3 x5 x6 x7 (by simp)
    (fun j x hj => by
      have h := new_block u3 (.cells ([method, target, cnonce].map Value.string).toArray 9)
      show (u3.alloc (.cells ([method, target, cnonce].map Value.string).toArray 9)).cell? ⟨u3.heap.size, 0 + j, none⟩ = _
      rw [Nat.zero_add]
      have e : ([method, target, cnonce].map Value.string)[j]? = some (.string x) := by rw [List.getElem?_map, hj]; rfl
      simp only [World.cell?, h]
      simpa using e) (Nat.le_of_ble_eq_true rfl) (fun s hs => by
      simp only [List.mem_cons, List.not_mem_nil, or_false] at hs
      rcases hs with rfl | rfl | rfl <;> assumption))
  have HSZ := Lib.hid (show askSize realm nonce opaq qop user pass + sizes [method, target, cnonce] ≤ 500 → realm.size + nonce.size + opaq.size + qop.size + user.size + pass.size + method.size + target.size + cnonce.size ≤ 500 from fun h => by
    simp [askSize, sizes] at h; omega)
  clear hf hf1 hf2 hf3
  go_wp2_with fail
  refine HSM.out.mono ?_
  rintro e v1 ⟨rfl, hg1⟩
  have HF2 := Lib.hid (HF1.out.trans (((Fr.refl noB u3).alloc _).trans hg1))
  clear HSM hg1 c0 c1 c2 c3 c4 c5 c6 c7 d0 d1
  by_cases hsm : askSize realm nonce opaq qop user pass + sizes [method, target, cnonce] ≤ 500
  · have hsum := HSZ.out hsm
    rw [decide_eq_true hsm]
    clear hsm HSZ x1 x2 x3 x5 x6 x7 z2 z3 z4
    obtain ⟨⟨c0, c1, c2, c3, c4, c5, c6, c7⟩, d0, d1⟩ := HC.out v1 HF2.out
    obtain ⟨x, hx⟩ : ∃ x : RespIn, x = ⟨decide (sch = 3), sess, realm, nonce, qop, user, pass, method, target, ⟨#[]⟩, cnonce, n.toNat⟩ := ⟨_, rfl⟩
    have hdig := Digest_any sch realm nonce opaq qop user pass method target ⟨#[]⟩ cnonce sess stale dom n v1 hone (by omega) (by omega) (by omega) (by omega) (by omega) (by omega) (by omega) (by decide) (by omega) (HT.out.2.2.fr HF2.out) (hash_any sch v1 (HT.out.1.fr HF2.out) (HT.out.2.1.fr HF2.out))
    rw [← hx] at hdig
    have HDIG := Lib.hid hdig
    have HX := Lib.hid hx
    clear hdig hx
    go_wp2_with fail
    refine HDIG.out.mono ?_
    rintro e v2 ⟨hg2, hm⟩
    have HF3 := Lib.hid (HF2.out.trans hg2)
    clear c0 c1 c2 c3 c4 c5 c6 c7 d0 d1 hg2 HDIG
    rcases hm with ⟨t, v, rfl⟩ | ⟨hok, _, _, rfl⟩
    · go_wp2
      go_ret
      exact ⟨rfl, (HFB.out.trans HF3.out).none_below⟩
    · have hlen : (digOf sch opaq x).text.length ≤ 3000 := by
        refine dig_len hok.fair (by have := respB_size x; exact this) (by show (countL _).length ≤ 8; unfold countL; rw [hexFix_len]; exact Nat.le_refl _) ?_
        rw [HX.out]
        show user.size + realm.size + nonce.size + target.size + qop.size + cnonce.size + opaq.size ≤ 500
        omega
      have hpar := parse_digest hok hlen
      have hkn := Lib.hid (known_digest hok)
      have hfits := chasL_fit hpar
      have HFT := Lib.hid (hfits _ (List.mem_cons_self ..))
      clear hfits
      have hz : (bA (digOf sch opaq x).text).size ≤ 140737488351232 := by show (digOf sch opaq x).text.length ≤ _; omega
      have HP := Lib.hid (fun U => Parse_ok (w := U) hz (by rw [bA_data]; exact hpar))
      have HR := Lib.hid (show bA (digOf sch opaq x).realm = realm ∧ bA (digOf sch opaq x).nonce = nonce ∧ bA (digOf sch opaq x).opaq = opaq ∧ (digOf sch opaq x).sess = sess ∧ bA (digOf sch opaq x).qop = qop ∧ (digOf sch opaq x).scheme = sch by
        rw [HX.out]; exact ⟨bA_of _, bA_of _, bA_of _, rfl, bA_of _, rfl⟩)
      clear hpar hz hok hlen
      go_wp2_with fail
      refine (HP.out v2).mono ?_
      rintro e v3 ⟨ra, rc, rfl, hch, hg3⟩
      have HF4 := Lib.hid (HF3.out.trans hg3)
      clear hg3
      obtain ⟨bk, of, pv, he, g1, g2, k0, k1, k2, hp⟩ := hch.cells (k := 0) rfl
      unfold maxLen at g2
      simp only [Nat.zero_mul, Nat.add_zero] at k0 k1 k2
      cases he
      obtain ⟨a1, c1', e1⟩ := hp.form
      subst e1
      obtain ⟨⟨c0, c1, c2, c3, c4, c5, c6, c7⟩, d0, d1⟩ := HC.out v3 HF4.out
      have KN := Lib.hid (Known_any (digOf sch opaq x).cha _ v3 hp HFT.out)
      generalize (digOf sch opaq x).cha = ch at *
      go_wp2_with fail
      refine KN.out.mono ?_
      rintro e v4 ⟨hg4, hm⟩
      rw [hkn.out] at hm
      clear c0 c1 c2 c3 c4 c5 c6 c7 d0 d1
      obtain ⟨r, hr, rfl⟩ := hm
      obtain ⟨r0, r1, r2, r3, r4, r5, r6, dv⟩ := r
      obtain ⟨f0, f1, f2, f3, f4, f5, f6, f7⟩ := hr
      obtain ⟨i1, i2, i3, i4, i5, i6⟩ := HR.out
      simp only at f0 f1 f2 f3 f4 f5 f6 f7
      obtain rfl : r0 = sch := f0.trans i6
      obtain rfl : r1 = realm := f1.trans i1
      obtain rfl : r2 = nonce := f2.trans i2
      obtain rfl : r3 = opaq := f3.trans i3
      obtain rfl : r4 = sess := f4.trans i4
      obtain rfl : r5 = qop := f5.trans i5
      subst f6
      obtain ⟨a2, c2', e2⟩ := f7.form
      subst e2
      clear f0 f1 f2 f3 f4 f5 f7 i1 i2 i3 i4 i5 i6
      have HF5 := Lib.hid (HF4.out.trans hg4)
      obtain ⟨⟨c0, c1, c2, c3, c4, c5, c6, c7⟩, d0, d1⟩ := HC.out (v4.alloc (.cells #[.int .i64 r0, .string r1, .string r2, .string r3, .bool r4, .string r5, .bool false, .slice a2 0 c2'] 24)) (HF5.out.alloc _)
      dsimp only [AskOf.cells]
      clear hg4 KN k0 k1 k2 hp

      go_wp2
      go_ret
      exact ⟨rfl, (HFB.out.trans (HF5.out.alloc _)).none_below⟩
  · rw [decide_eq_false hsm]
    go_wp2
    go_ret
    exact ⟨rfl, (HFB.out.trans HF2.out).none_below⟩
end Go.Proofs.YtkoobhgedoanhaaGreatDoor
