/- Package ask: Best. -/
import Derived.Test.YtegbacpenolehaaGreatDoorKnown2
import Derived.Test.YtegbacpenolehaaGreatDoorBestLaw
import Derived.Deep.RegionLaw
namespace Go.Proofs.YtegbacpenolehaaGreatDoor
open Go.RowKit

/-- a struct's value into a block that lies, in a region that draws its order -/
theorem step_store_row {P : Program} {ops : Array Oper} {a : Act} {w : World} {K : Act → World → Prop} {Q : Exit → Act → World → Prop} {E : Prop} {o : Oper} (hgd : o.guard = none) (ty : TypeId) (x y : Operand) (ho : o.op = .store ty x y)
    (g : Nat) (cells : Array Value) (hx : a.eval x = .pointer (some ⟨g, 0, none⟩)) (hy : a.eval y = .agg cells)
    (t : TypeId) (old : Array Value) (hg : w.heap[g]? = some (.cells old t (0, 0))) (hi : (P.info? ty).map (·.size) = some cells.size)
    (hold : old.size = cells.size) (h1 : cells.all (·.oneCell') = true) (h : K (a.put o.dst undef) (w.setRow g cells)) : if Region.wanted o (yielded ops a.tmps) = true then Oper.wp P o a w K Q else E := by
  have hw : Region.wanted o (yielded ops a.tmps) = true := by simp [Region.wanted, hgd]
  rw [if_pos hw]
  exact wp_store_row ty x y ho g cells hx hy t old hg hi hold h1 h
/-- an ask's cells read as an ask whose texts are the call's own -/
def BestPost (xs : List Cha) (w : World) (e : Ending) (w' : World) : Prop :=
  Fr noB w w' ∧ ∃ r : AskOf Value, r.Reads (Strs w.heap.size w') (bestL xs) ∧ e = .returned (.tuple #[.agg r.cells.toArray, .bool (decide (0 < (bestL xs).scheme))])
def BeRel (w : World) (xs : List Cha) (t : Value) (wr : World) : Prop :=
  ∃ (k : Nat) (r : AskOf Value), k ≤ xs.length ∧ t = .int .i64 k ∧ wr.heap[w.heap.size]? = some (.cells zAskA 40 (0, 0)) ∧ AskBlk wr (w.heap.size + 1) r ∧ r.Reads (Strs w.heap.size wr) (bestL (xs.take k)) ∧ Fr noB w wr
theorem Reads.dom1 {base : Nat} {w : World} {r : AskOf Value} {a : AskOf Texts} (h : r.Reads (Strs base w) a) : r.dom.oneCell' = true := by
  obtain ⟨x, c, e⟩ := h.2.2.2.2.2.2.2.form
  rw [e]; rfl
theorem zAsk_reads (base : Nat) (w : World) : zAsk.Reads (Strs base w) noAsk := ⟨rfl, rfl, rfl, rfl, rfl, rfl, rfl, Strs.nil _ _⟩
theorem Strs.upS {b b' : Nat} {w : World} {v : Value} {ss : List ByteArray} (h : Strs b' w v ss) (hb : b ≤ b') : Strs b w v ss := ownsRow_up h hb
set_option maxRecDepth 100000 in
set_option maxHeartbeats 8000000 in
theorem Best_any (v : Value) (xs : List Cha) (w : World) (h : ChasAt w v xs) (_hl : xs.length ≤ 1000000) (hz : ∀ x ∈ xs, x.Fit) :
    Calls Tryz.prog 41 #[v] w (BestPost xs w) := by
  obtain ⟨av, cv, hv⟩ := h.form
  subst hv
  obtain ⟨w2, hw2⟩ : ∃ w2, w2 = (w.alloc (.cells zAskA 40)).alloc (.cells zAskA 40) := ⟨_, rfl⟩
  have hf1 : Fr noB (w.alloc (.cells zAskA 40)) w2 := by rw [hw2]; exact (Fr.refl _ _).alloc _
  have hr2 : w2.heap[w.heap.size]? = some (.cells zAskA 40 (0, 0)) := hf1.keep (new_block w _) (fun h => h)
  have hb2 : AskBlk w2 (w.heap.size + 1) zAsk := by
    rw [hw2]
    have := new_block (w.alloc (.cells zAskA 40)) (.cells zAskA 40)
    rw [show (w.alloc (.cells zAskA 40)).heap.size = w.heap.size + 1 from by simp] at this
    exact this
  have hf2 : Fr noB w w2 := ((Fr.refl noB w).alloc _).trans hf1
  have HW2 := Lib.hid hw2
  clear hw2 hf1
  go_enter Tryz.func41, Tryz.ntmps41
  go_wp2_with fail
  rw [← HW2.out]
  go_loopw [11] (BeRel w xs) (fun t _ => xs.length - (intOf t).toNat)
  case atStart => exact ⟨0, zAsk, Nat.zero_le _, rfl, hr2, hb2, zAsk_reads _ _, hf2⟩
  case round =>
    obtain ⟨k, r, hk, rfl, hres, hbb, hrd, hfr⟩ := hrel
    by_cases hks : k < xs.length
    case pos =>
      have hki : (k : Int) < (xs.length : Int) := by omega
      have hat := Lib.hid (List.getElem?_eq_getElem hks)
      have HZ := Lib.hid (hz _ (List.getElem_mem hks))
      generalize xs[k] = x at hat HZ
      obtain ⟨bk, of, pv, rfl, h1, h2, c0, c1, c2, hp⟩ := (h.frNone hfr).cells hat.out
      unfold maxLen at h2
      have HBT := Lib.hid (show bestL (xs.take (k + 1)) = bestTo (bestL (xs.take k)) x by rw [List.take_add_one, hat.out]; exact bestL_snoc _ _)
      obtain ⟨a1, c1', e1⟩ := hp.form
      subst e1
      obtain ⟨wb, hwb⟩ : ∃ wb, wb = wr.alloc (.cells #[.string (bA x.scheme), .string (bA x.token), .slice a1 x.params.length c1'] 35) := ⟨_, rfl⟩
      have hfb : Fr noB wr wb := by rw [hwb]; exact (Fr.refl noB wr).alloc _
      have hxb : ChaAt wb wr.heap.size (bA x.scheme) (bA x.token) (.slice a1 x.params.length c1') := by rw [hwb]; exact new_block _ _
      have x0 := hxb.cell0
      have x1 := hxb.cell1
      have x2 := hxb.cell2
      have KN := Lib.hid (Known_any x _ wb (RowsAt.frNone hp hfb) HZ.out)
      have HWB := Lib.hid hwb
      have hsb : w.heap.size + 1 < wb.heap.size := by have := lt_of_some (hfb.keep hbb (fun h => h)); exact this
      clear hwb hp
      go_wp2_with fail
      rw [← HWB.out]
      refine KN.out.mono ?_
      intro e w3 hkp
      obtain ⟨hf3, hkm⟩ := hkp
      have hres3 := (hfb.trans hf3).keep hres (fun h => h)
      have hbb3 : AskBlk w3 (w.heap.size + 1) r := (hfb.trans hf3).keep hbb (fun h => h)
      have hrd3 : r.Reads (Strs w.heap.size w3) (bestL (xs.take k)) := hrd.mono (fun u l hu => hu.fr (hfb.trans hf3) (fun _ h => h.elim))
      have HF3 := Lib.hid ((hfr.trans hfb).trans hf3)
      have hs3 : w.heap.size + 1 < w3.heap.size := Nat.lt_of_lt_of_le hsb hf3.size
      clear x0 x1 x2 c0 c1 c2 hxb hres hbb hrd
      cases hkn : knownL x with
      | none =>
        rw [hkn] at hkm
        subst hkm
        have HB2 := Lib.hid (show bestL (xs.take (k + 1)) = bestL (xs.take k) by rw [HBT.out]; unfold bestTo; rw [hkn])
        have hst := fun W => run_storeCells_new (P := Tryz.prog) W 40 zAskA zAskA.toList rfl zAskA_one
        have hf4 : Fr noB w3 (w3.alloc (.cells zAskA 40)) := (Fr.refl _ _).alloc _
        have hres4 := hf4.keep hres3 (fun h => h)
        have hbb4 : AskBlk (w3.alloc (.cells zAskA 40)) (w.heap.size + 1) r := hf4.keep hbb3 (fun h => h)
        have hrd4 : r.Reads (Strs w.heap.size (w3.alloc (.cells zAskA 40))) (bestL (xs.take k)) := hrd3.mono (fun u l hu => hu.fr hf4 (fun _ h => h.elim))
        have HF4 := Lib.hid (HF3.out.trans hf4)
        clear hkn
        go_wp2
        go_roundw
        case rel => exact ⟨k + 1, r, by omega, by go_num, hres4, hbb4, by rw [HB2.out]; exact hrd4, HF4.out⟩
        case measure => simp [intOf]; omega
      | some a =>
        rw [hkn] at hkm
        obtain ⟨r2, hr2d, rfl⟩ := hkm
        have hone := Lib.hid (ask_all r2 (Reads.dom1 hr2d))
        obtain ⟨y, hy⟩ : ∃ y, y = r2.cells.toArray := ⟨_, rfl⟩
        have hyk : y.size = 8 := by rw [hy]; rfl
        have HY := Lib.hid hy
        have hro : y.all (·.oneCell') = true := by rw [hy]; exact hone.out
        have hri : (Tryz.prog.info? 40).map (·.size) = some y.size := by rw [hyk]; kernel_rfl
        have hyz : zAskA.size = y.size := by rw [hyk]; rfl
        have hrz : r.cells.toArray.size = y.size := by rw [hyk]; rfl
        obtain ⟨w4, hw4⟩ : ∃ w4, w4 = w3.alloc (.cells y 40) := ⟨_, rfl⟩
        have hf4 : Fr noB w3 w4 := by rw [hw4]; exact (Fr.refl _ _).alloc _
        have hnb4 : AskBlk w4 w3.heap.size r2 := by rw [hw4, hy]; exact new_block _ _
        have hres4 := hf4.keep hres3 (fun h => h)
        have hbb4 : AskBlk w4 (w.heap.size + 1) r := hf4.keep hbb3 (fun h => h)
        have hrd4 : r.Reads (Strs w.heap.size w4) (bestL (xs.take k)) := hrd3.mono (fun u l hu => hu.fr hf4 (fun _ h => h.elim))
        have hr24 : r2.Reads (Strs w.heap.size w4) a := hr2d.mono (fun u l hu => (hu.upS (by omega)).fr hf4 (fun _ h => h.elim))
        have HF4 := Lib.hid (HF3.out.trans hf4)
        have HW4 := Lib.hid hw4
        have n0 : w4.cell? ⟨w3.heap.size, 0, none⟩ = some (.int .i64 a.scheme) := by rw [← hr2d.1]; exact hnb4.cell rfl
        have m0 : w4.cell? ⟨w.heap.size + 1, 0, none⟩ = some (.int .i64 (bestL (xs.take k)).scheme) := by rw [← hrd3.1]; exact hbb4.cell rfl
        have HBT2 := Lib.hid (show bestL (xs.take (k + 1)) = if (bestL (xs.take k)).scheme < a.scheme then a else bestL (xs.take k) by rw [HBT.out]; unfold bestTo; rw [hkn])
        have hs4 : w3.heap.size < w4.heap.size := by rw [hw4]; simp
        rw [← hy]
        clear hkn hy hw4 hres3 hbb3 hrd3 hr2d
        by_cases hlt : (bestL (xs.take k)).scheme < a.scheme
        case pos =>
          have HB2 := Lib.hid (show bestL (xs.take (k + 1)) = a by rw [HBT2.out, if_pos hlt])
          obtain ⟨w5, hw5⟩ : ∃ w5, w5 = w4.setRow (w.heap.size + 1) y := ⟨_, rfl⟩
          have hf5 : Fr (one (w.heap.size + 1)) w4 w5 := by rw [hw5]; exact (Fr.refl (one (w.heap.size + 1)) w4).setRow (fun _ => rfl) y
          have HW5 := Lib.hid hw5
          have hres5 := hf5.keep hres4 (fun h => by have h' : w.heap.size = w.heap.size + 1 := h; omega)
          have hbb5 : AskBlk w5 (w.heap.size + 1) r2 := by rw [hw5, HY.out]; unfold AskBlk; simp [World.setRow, Array.getElem?_modify, show w4.heap[w.heap.size + 1]? = _ from hbb4]
          have hr25 : r2.Reads (Strs w.heap.size w5) a := hr24.mono (fun u l hu => hu.off1 hf5 hbb4 (by decide))
          have HF5 := Lib.hid (HF4.out.step hf5 (fun k hk h => by have h' : k = w.heap.size + 1 := h; omega))
          clear hw5 hf5
          go_wp2_with (first | ((with_reducible refine wpList_at ⟨none, .store 40 (.tmp 7) (.tmp 18), _, _, _, _⟩ ?_); go_must (refine wpList_store_new rfl 40 (.tmp 7) (.tmp 18) rfl zAskA y rfl rfl hri hyz hro ?_); rw [← HW4.out]) | ((with_reducible refine wpList_at ⟨some 28, _, _, _, _, _⟩ ?_); go_must (refine wpList_load_row rfl 40 (.tmp 7) rfl w3.heap.size rfl 40 y (0, 0) _ (by rw [HY.out]; exact hnb4) Tryz.underlying40 rfl hri ?_)) | ((with_reducible refine wpList_at ⟨none, .store 40 (.tmp 4) (.tmp 28), _, _, _, _⟩ ?_); go_must (refine wpList_store_row rfl 40 (.tmp 4) (.tmp 28) rfl (w.heap.size + 1) y rfl rfl 40 r.cells.toArray hbb4 hri hrz hro ?_); rw [← HW5.out]) | fail)
          go_roundw
          case rel => exact ⟨k + 1, r2, by omega, by go_num, hres5, hbb5, by rw [HB2.out]; exact hr25, HF5.out⟩
          case measure => simp [intOf]; omega
        case neg =>
          have HB2 := Lib.hid (show bestL (xs.take (k + 1)) = bestL (xs.take k) by rw [HBT2.out, if_neg hlt])
          go_wp2_with (first | ((with_reducible refine wpList_at ⟨none, .store 40 (.tmp 7) (.tmp 18), _, _, _, _⟩ ?_); go_must (refine wpList_store_new rfl 40 (.tmp 7) (.tmp 18) rfl zAskA y rfl rfl hri hyz hro ?_); rw [← HW4.out]) | fail)
          go_roundw
          case rel => exact ⟨k + 1, r, by omega, by go_num, hres4, hbb4, by rw [HB2.out]; exact hrd4, HF4.out⟩
          case measure => simp [intOf]; omega
    case neg =>
      have hki : ¬ (k : Int) < (xs.length : Int) := by omega
      have hall : xs.take k = xs := List.take_of_length_le (by omega)
      rw [hall] at hrd
      have b0 := hbb.cell (i := 0) rfl
      have b1 := hbb.cell (i := 1) rfl
      have b2 := hbb.cell (i := 2) rfl
      have b3 := hbb.cell (i := 3) rfl
      have b4 := hbb.cell (i := 4) rfl
      have b5 := hbb.cell (i := 5) rfl
      have b6 := hbb.cell (i := 6) rfl
      have b7 := hbb.cell (i := 7) rfl
      obtain ⟨da, dc, hd⟩ := hrd.2.2.2.2.2.2.2.form
      rw [hd] at b7
      have HRD := Lib.hid hrd
      have HD := Lib.hid hd
      have HFR := Lib.hid hfr
      have z : ∀ i u, zAskA[i]? = some u → wr.cell? ⟨w.heap.size, i, none⟩ = some u := fun i u hu => by simp only [World.cell?, hres]; simpa using hu
      have zf : ∀ i, wr.frozen? ⟨w.heap.size, i, none⟩ = false := fun i => by simp [World.frozen?, hres]
      have z0 := z 0 _ rfl
      have f0 := zf 0
      have z1 := z 1 _ rfl
      have f1 := zf 1
      have z2 := z 2 _ rfl
      have f2 := zf 2
      have z3 := z 3 _ rfl
      have f3 := zf 3
      have z4 := z 4 _ rfl
      have f4 := zf 4
      have z5 := z 5 _ rfl
      have f5 := zf 5
      have z6 := z 6 _ rfl
      have f6 := zf 6
      have z7 := z 7 _ rfl
      have f7 := zf 7
      clear z zf
      have HRES := Lib.hid hres
      clear hd hres hbb hrd hfr
      go_wp2_with fail
      go_region
      all_goals
        have hz0 : AskBlk wr w.heap.size zAsk := HRES.out
        have hb6 := ((((((((hz0.set 0 (.int .i64 r.scheme) (r' := { zAsk with scheme := r.scheme }) rfl).set 1 (.string r.realm) (r' := { zAsk with scheme := r.scheme, realm := r.realm }) rfl).set 2 (.string r.nonce) (r' := { zAsk with scheme := r.scheme, realm := r.realm, nonce := r.nonce }) rfl).set 3 (.string r.opaq) (r' := { zAsk with scheme := r.scheme, realm := r.realm, nonce := r.nonce, opaq := r.opaq }) rfl).set 4 (.bool r.sess) (r' := { zAsk with scheme := r.scheme, realm := r.realm, nonce := r.nonce, opaq := r.opaq, sess := r.sess }) rfl).set 5 (.string r.qop) (r' := { zAsk with scheme := r.scheme, realm := r.realm, nonce := r.nonce, opaq := r.opaq, sess := r.sess, qop := r.qop }) rfl).set 6 (.bool r.stale) (r' := { zAsk with scheme := r.scheme, realm := r.realm, nonce := r.nonce, opaq := r.opaq, sess := r.sess, qop := r.qop, stale := r.stale }) rfl).set 7 (.slice da (bestL xs).dom.length dc) (r' := { zAsk with scheme := r.scheme, realm := r.realm, nonce := r.nonce, opaq := r.opaq, sess := r.sess, qop := r.qop, stale := r.stale, dom := .slice da (bestL xs).dom.length dc }) rfl)
        have hf6 := (((((((((Fr.refl (one w.heap.size) wr).setCell (p := ⟨w.heap.size, 0, none⟩) (fun _ => rfl) (.int .i64 r.scheme)).setCell (p := ⟨w.heap.size, 1, none⟩) (fun _ => rfl) (.string r.realm)).setCell (p := ⟨w.heap.size, 2, none⟩) (fun _ => rfl) (.string r.nonce)).setCell (p := ⟨w.heap.size, 3, none⟩) (fun _ => rfl) (.string r.opaq)).setCell (p := ⟨w.heap.size, 4, none⟩) (fun _ => rfl) (.bool r.sess)).setCell (p := ⟨w.heap.size, 5, none⟩) (fun _ => rfl) (.string r.qop)).setCell (p := ⟨w.heap.size, 6, none⟩) (fun _ => rfl) (.bool r.stale)).setCell (p := ⟨w.heap.size, 7, none⟩) (fun _ => rfl) (.slice da (bestL xs).dom.length dc))
        generalize ((((((((wr.setCell ⟨w.heap.size, 0, none⟩ (.int .i64 r.scheme)).setCell ⟨w.heap.size, 1, none⟩ (.string r.realm)).setCell ⟨w.heap.size, 2, none⟩ (.string r.nonce)).setCell ⟨w.heap.size, 3, none⟩ (.string r.opaq)).setCell ⟨w.heap.size, 4, none⟩ (.bool r.sess)).setCell ⟨w.heap.size, 5, none⟩ (.string r.qop)).setCell ⟨w.heap.size, 6, none⟩ (.bool r.stale)).setCell ⟨w.heap.size, 7, none⟩ (.slice da (bestL xs).dom.length dc)) = w6 at hb6 hf6 ⊢
        have hrr : ({ zAsk with scheme := r.scheme, realm := r.realm, nonce := r.nonce, opaq := r.opaq, sess := r.sess, qop := r.qop, stale := r.stale, dom := .slice da (bestL xs).dom.length dc } : AskOf Value) = r := by rw [← HD.out]
        rw [hrr] at hb6
        have hrd6 : r.Reads (Strs w.heap.size w6.drew) (bestL xs) := HRD.out.mono (fun u l hu => (hu.off1 hf6 HRES.out (by decide)).drew)
        have HF6 := Lib.hid (HFR.out.step hf6 (fun k hk h => by have h' : k = w.heap.size := h; omega))
        have hb7 : AskBlk w6.drew w.heap.size r := hb6
        have d0 := hb7.cell (i := 0) rfl
        have d1 := hb7.cell (i := 1) rfl
        have d2 := hb7.cell (i := 2) rfl
        have d3 := hb7.cell (i := 3) rfl
        have d4 := hb7.cell (i := 4) rfl
        have d5 := hb7.cell (i := 5) rfl
        have d6 := hb7.cell (i := 6) rfl
        have d7 := hb7.cell (i := 7) rfl
        have hsc : r.scheme = (bestL xs).scheme := HRD.out.1
        clear hb6 hf6 hz0
        go_wp2
        refine bodyPost_ret (results_cell_tmp (by rfl) _ _ w.heap.size 40 r.cells.toArray (0, 0) _ rfl hb7 Tryz.underlying40 rfl (by kernel_rfl)) rfl ?_
        exact ⟨HF6.out.drewN 1, r, hrd6, by rw [← hsc]; rfl⟩
end Go.Proofs.YtegbacpenolehaaGreatDoor
