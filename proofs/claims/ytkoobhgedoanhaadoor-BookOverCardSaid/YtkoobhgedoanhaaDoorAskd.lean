/- Package fetch: Asked. -/
import Derived.Test.YtkoobhgedoanhaaDoorPlain2
import Derived.Test.YtkoobhgedoanhaaDoorSortS
import Derived.Test.YtkoobhgedoanhaaDoorRowK
import Derived.Test.YtkoobhgedoanhaaDoorSep

namespace Go.Proofs.YtkoobhgedoanhaaDoor
open Go.RowKit Go.Sort

abbrev Prm := ByteArray × ByteArray
def Prm.cells (p : Prm) : List Value := [.string p.1, .string p.2]
/-- v reads as the params ps -/
def PrmsAt (w : World) (v : Value) (ps : List Prm) : Prop := RowsAt 2 w v (ps.map Prm.cells)
def lowA (s : ByteArray) : ByteArray := ⟨(lowL s.data.toList).toArray⟩
/-- the names of those that are not plain -/
def outB (ps : List Prm) : List ByteArray := (ps.filter fun p => !plainB p.1 p.2).map fun p => lowA p.1
def plB (ps : List Prm) : List ByteArray := (ps.filter fun p => plainB p.1 p.2).map fun p => lowA p.1
def nB (ps : List Prm) : Nat := ((ps.filter fun p => plainB p.1 p.2).map fun p => p.2.size).sum
def rawB (ps : List Prm) : List ByteArray := outB ps ++ (if 1024 < nB ps then plB ps else [])
/-- fetch.Asked -/
def askedL (ps : List Prm) : List (List UInt8) := Lib.compact (sortLs ((rawB ps).map fun s => s.data.toList))
def askedB (ps : List Prm) : List ByteArray := (askedL ps).map fun l => ⟨l.toArray⟩

theorem outB_snoc_no (ps : List Prm) (p : Prm) (h : plainB p.1 p.2 = false) : outB (ps ++ [p]) = outB ps ++ [lowA p.1] ∧ plB (ps ++ [p]) = plB ps ∧ nB (ps ++ [p]) = nB ps := by
  unfold outB plB nB; simp [List.filter_append, h]
theorem outB_snoc_yes (ps : List Prm) (p : Prm) (h : plainB p.1 p.2 = true) : outB (ps ++ [p]) = outB ps ∧ plB (ps ++ [p]) = plB ps ++ [lowA p.1] ∧ nB (ps ++ [p]) = nB ps + p.2.size := by
  unfold outB plB nB; simp [List.filter_append, h]
theorem outB_le (ps : List Prm) : (outB ps).length ≤ ps.length := by unfold outB; rw [List.length_map]; exact List.length_filter_le _ _
theorem plB_le (ps : List Prm) : (plB ps).length ≤ ps.length := by unfold plB; rw [List.length_map]; exact List.length_filter_le _ _
theorem plain_le {a b : ByteArray} (h : plainB a b = true) : b.size ≤ 128 := by
  unfold plainB at h
  split at h
  · cases h
  · omega
theorem nB_le : ∀ ps : List Prm, nB ps ≤ 128 * ps.length
  | [] => by simp [nB]
  | p :: ps => by
    have ih := nB_le ps
    unfold nB at ih ⊢
    rw [List.filter_cons]
    split
    · rename_i h
      have := plain_le h
      simp only [List.map_cons, List.sum_cons, List.length_cons]
      omega
    · simp only [List.length_cons]; omega
theorem take_step {α : Type} {l : List α} {k : Nat} {x : α} (h : l[k]? = some x) : l.take (k + 1) = l.take k ++ [x] := by
  rw [List.take_add_one, h]; rfl

/-- the rows of out and of plain lie apart -/
def Apart (u v : Value) : Prop := ∀ k, u.ownBlock = some k → v.ownBlock ≠ some k
def AsRel (ps : List Prm) (w : World) (out plain n i : Value) (wr : World) : Prop :=
  ∃ k : Nat, k ≤ ps.length ∧ i = .int .i64 k ∧ n = .int .i64 (nB (ps.take k)) ∧ Strs w.heap.size wr out (outB (ps.take k)) ∧ Strs w.heap.size wr plain (plB (ps.take k)) ∧ Apart out plain ∧ Fr noB w wr
theorem Strs.lt {base : Nat} {w : World} {v : Value} {ss : List ByteArray} (h : Strs base w v ss) : ∀ k, v.ownBlock = some k → base ≤ k ∧ k < w.heap.size := World.ownsRow.lt h
theorem Strs.kept {base : Nat} {w w' : World} {v : Value} {ss : List ByteArray} {row : Option Nat} (h : Strs base w v ss) (hg : w.grownBy w' row) (hne : ∀ k, row = some k → v.ownBlock ≠ some k) : Strs base w' v ss := by
  refine World.ownsRow.kept h hg ?_
  cases hv : v.ownBlock with
  | none => exact Or.inl rfl
  | some k => exact Or.inr fun e => hne k e.symm hv
/-- the row of v is apart from v2's behind an append as before -/
theorem Apart.sep {base : Nat} {w : World} {u v v2 : Value} {ss : List ByteArray} (h : Apart u v) (hs : Sep w v v2) (hu : Strs base w u ss) : Apart u v2 := by
  intro k hk e
  rcases hs with hs | hs
  · rw [hs] at e; exact h k hk e
  · have h1 := hs k e
    have h2 := (hu.lt k hk).2
    omega
theorem Apart.symm {u v : Value} (h : Apart u v) : Apart v u := fun k hv hu => h k hu hv
theorem strs_enc (ss : List ByteArray) : ss.map Value.string = (ss.map fun s => s.data.toList).map encStr := by
  rw [List.map_map]; rfl
def ofL (ls : List (List UInt8)) : List ByteArray := ls.map fun l => ⟨l.toArray⟩
theorem ofL_enc (ls : List (List UInt8)) : (ofL ls).map Value.string = ls.map encStr := by unfold ofL; rw [List.map_map]; rfl
theorem SortS_any (base : Nat) (v : Value) (ss : List ByteArray) (w : World) (h : Strs base w v ss) (hl : ss.length < 1000000) :
    Calls Tryd.prog 72 #[v] w fun e w' => e = .returned (.tuple #[]) ∧ Strs base w' v (ofL (sortLs (ss.map fun s => s.data.toList))) ∧ w.grownBy w' v.ownBlock := by
  have h2 : w.ownsRow base 9 1 v (ss.map fun s => s.data.toList).length ((ss.map fun s => s.data.toList).map encStr) := by
    rw [← strs_enc, List.length_map]; exact h
  refine (Sort_any base v _ w h2 (by rw [List.length_map]; exact hl)).mono ?_
  rintro e w' ⟨he, ho, hg⟩
  refine ⟨he, ?_, hg⟩
  unfold Strs
  rw [ofL_enc, show (ofL (sortLs (ss.map fun s => s.data.toList))).length = (ss.map fun s => s.data.toList).length from by unfold ofL sortLs; simp]
  exact ho
theorem CompactS_any (base : Nat) (v : Value) (ls : List (List UInt8)) (w : World) (h : Strs base w v (ofL ls)) (hl : ls.length < 1000000) :
    Calls Tryd.prog 73 #[v] w fun e w' => ∃ u, e = .returned u ∧ Strs base w' u (ofL (Lib.compact ls)) ∧ w.grownBy w' v.ownBlock := by
  have e1 : (ofL ls).length = ls.length := by unfold ofL; simp
  have h2 : w.ownsRow base 9 1 v ls.length (ls.map encStr) := by
    rw [← ofL_enc, ← e1]; exact h
  refine (compact_any base v ls w h2 hl).mono ?_
  rintro e w' ⟨u, he, ho, hg⟩
  refine ⟨u, he, ?_, hg⟩
  unfold Strs
  rw [ofL_enc, show (ofL (Lib.compact ls)).length = (Lib.compact ls).length from by unfold ofL; simp]
  exact ho
set_option maxRecDepth 100000 in
set_option maxHeartbeats 4000000 in
theorem Asked_any (ps : List Prm) (v : Value) (w : World) (h : PrmsAt w v ps) (hl : ps.length < 100000) (hz : ∀ p ∈ ps, p.1.size < 100000 ∧ p.2.size < 100000) :
    Calls Tryd.prog 38 #[v] w fun e w' => ∃ u, e = .returned u ∧ Strs w.heap.size w' u (askedB ps) ∧ Fr noB w w' := by
  obtain ⟨av, cv, hv⟩ := h.form
  rw [List.length_map] at hv
  have HZ := Lib.hid hz
  clear hz
  subst hv
  go_enter Tryd.func38, Tryd.ntmps38
  go_wp2
  go_loopw [3, 4, 5, 11] (AsRel ps w) (fun _ _ _ i _ => ps.length - (intOf i).toNat)
  case atStart => exact ⟨0, Nat.zero_le _, rfl, rfl, Strs.nil _ _, Strs.nil _ _, fun k e => by simp [Value.ownBlock] at e, Fr.refl _ _⟩
  case round =>
    obtain ⟨k, hk, rfl, rfl, ho, hp, hap, hfr⟩ := hrel
    obtain ⟨ao, co, hoe⟩ := ho.form
    obtain ⟨ap, cp, hpe⟩ := hp.form
    have hn := nB_le (ps.take k)
    rw [List.length_take] at hn
    have hol := outB_le (ps.take k)
    have hpl := plB_le (ps.take k)
    rw [List.length_take] at hol hpl
    by_cases hks : k < ps.length
    · have hki : (k : Int) < (ps.length : Int) := by omega
      have hat := Lib.hid (List.getElem?_eq_getElem hks)
      have hsz := HZ.out _ (List.getElem_mem hks)
      generalize ps[k] = p at hat hsz
      obtain ⟨nm, vl⟩ := p
      obtain ⟨hz1, hz2⟩ := hsz
      have HTK := Lib.hid (take_step hat.out)
      have hrow : RowsAt 2 wr (.slice av ps.length cv) (ps.map Prm.cells) := RowsAt.frNone h hfr
      rcases hrow.2 with ⟨_, _, _, e, _⟩ | ⟨bk, of, c, hf1, h1, h2, h3, h4⟩
      · have : ps.length = 0 := by have := congrArg List.length e; simpa using this
        omega
      rw [List.length_map] at hf1 h1
      cases hf1
      unfold maxLen at h2
      have hcell := h4 k (Prm.cells (nm, vl)) (by rw [List.getElem?_map, hat.out]; rfl)
      have c0 : wr.cell? ⟨bk, of + k * 2, none⟩ = some (.string nm) := hcell 0 (.string nm) rfl
      have c1 := hcell 1 (.string vl) rfl
      clear hcell h4 hrow
      obtain ⟨wb, hwb⟩ : ∃ wb, wb = wr.alloc (.cells #[.string nm, .string vl] 110) := ⟨_, rfl⟩
      have hfb : Fr noB wr wb := by rw [hwb]; exact (Fr.refl noB wr).alloc _
      have hk1 : wb.heap[wr.heap.size]? = some (.cells #[.string nm, .string vl] 110 (0, 0)) := by rw [hwb]; exact new_block _ _
      have HC := Lib.hid (show ∀ U, Fr noB wb U → U.cell? ⟨wr.heap.size, 0, none⟩ = some (.string nm) ∧ U.cell? ⟨wr.heap.size, 1, none⟩ = some (.string vl) from fun U hU => by
        have j1 := hU.keep hk1 (fun h => h)
        simp [World.cell?, j1])
      have HWB := Lib.hid hwb
      have HFB := Lib.hid (hfr.trans hfb)
      have HO := Lib.hid (ho.fr hfb (fun _ h => h.elim))
      have HP := Lib.hid (hp.fr hfb (fun _ h => h.elim))
      have HAPL := Lib.hid (show ∀ j, (Value.slice ap (plB (ps.take k)).length cp).ownBlock = some j → j < wr.heap.size from fun j hj => (hp.lt j (by rw [hpe]; exact hj)).2)
      clear hwb hfb hk1 ho hp hfr
      go_wp2_with fail
      rw [← HWB.out]
      refine (Lower_any nm wb (by omega)).mono ?_
      rintro e u1 ⟨rfl, hf1⟩
      obtain ⟨k0, k1⟩ := HC.out u1 hf1
      have HF1 := Lib.hid hf1
      clear hf1 c0 c1
      go_wp2_with fail
      refine (Plain_any nm vl u1 (by omega) (by omega)).mono ?_
      rintro e u2 ⟨rfl, hf2⟩
      obtain ⟨k2, k3⟩ := HC.out u2 (HF1.out.trans hf2)
      have HF2 := Lib.hid ((HFB.out.trans HF1.out).trans hf2)
      have hf12 := HF1.out.trans hf2
      have K3A := Lib.hid (show ∀ o : Obj, (u2.alloc o).cell? ⟨wr.heap.size, 1, none⟩ = some (.string vl) from fun o => (HC.out _ (hf12.alloc o)).2)
      have ho2 := HO.out.fr hf12 (fun _ h => h.elim)
      have hp2 := HP.out.fr hf12 (fun _ h => h.elim)
      have hsz2 : w.heap.size ≤ u2.heap.size := HF2.out.size
      rw [hoe] at ho2 hap
      rw [hpe] at hp2 hap
      clear hf2 hf12 k0 k1
      have HLA := Lib.hid (show (⟨(lowL nm.data.toList).toArray⟩ : ByteArray) = lowA nm from rfl)
      rw [HLA.out]
      generalize hla : lowA nm = la at *
      have HE := Lib.hid hla
      clear hla
      cases hpl2 : plainB nm vl
      · obtain ⟨s1, s2, s3⟩ := outB_snoc_no (ps.take k) (nm, vl) hpl2
        rw [← HTK.out, HE.out] at s1
        rw [← HTK.out] at s2 s3
        have S1 := Lib.hid s1
        have S2 := Lib.hid s2
        have S3 := Lib.hid s3
        clear s1 s2 s3 hpl2
        go_wp2_with (at_builtin; refine wpList_str2 rfl _ _ rfl w.heap.size (.slice ao _ co) (outB (ps.take k)) rfl (by apply Strs.alloc; exact ho2) ⟨u2.heap.size, 0, none⟩ 1 la rfl (new_cell _ _ _ _) (by omega) (by simp; omega) ?_; intro v' w3 hown3 hg3 hsep3)
        have hp3 : Strs w.heap.size w3 (.slice ap (plB (ps.take k)).length cp) (plB (ps.take k)) := (hp2.alloc _).kept hg3 (fun j hj => hap j hj)
        have hap3 : Apart v' (.slice ap (plB (ps.take k)).length cp) := (Apart.sep hap.symm hsep3 (hp2.alloc _)).symm
        have HF3 := Lib.hid ((HF2.out.alloc (.cells #[.string la] 9)).grownNew hg3 (fun j hj => (ho2.block j hj)))
        go_roundw
        case rel => exact ⟨k + 1, by omega, by go_num, by rw [S3.out], by rw [S1.out]; exact hown3, by rw [S2.out]; exact hp3, hap3, HF3.out⟩
        case measure => simp [intOf]; omega
      · obtain ⟨s1, s2, s3⟩ := outB_snoc_yes (ps.take k) (nm, vl) hpl2
        have hvl := plain_le hpl2
        rw [← HTK.out, HE.out] at s2
        rw [← HTK.out] at s1 s3
        have S1 := Lib.hid s1
        have S2 := Lib.hid s2
        have S3 := Lib.hid s3
        clear s1 s2 s3 hpl2
        go_wp2_with (at_builtin; refine wpList_str2 rfl _ _ rfl w.heap.size (.slice ap _ cp) (plB (ps.take k)) rfl (by apply Strs.alloc; exact hp2) ⟨u2.heap.size, 0, none⟩ 1 la rfl (new_cell _ _ _ _) (by omega) (by simp; omega) ?_; intro v' w3 hown3 hg3 hsep3; have k4 : w3.cell? ⟨wr.heap.size, 1, none⟩ = some (.string vl) := hg3.cell (K3A.out _) (fun e => absurd (HAPL.out _ e.symm) (Nat.lt_irrefl _)))
        have ho3 : Strs w.heap.size w3 (.slice ao (outB (ps.take k)).length co) (outB (ps.take k)) := (ho2.alloc _).kept hg3 (fun j hj hj2 => hap j hj2 hj)
        have hap3 : Apart (.slice ao (outB (ps.take k)).length co) v' := Apart.sep hap hsep3 (ho2.alloc _)
        have HF3 := Lib.hid ((HF2.out.alloc (.cells #[.string la] 9)).grownNew hg3 (fun j hj => (hp2.block j hj)))
        go_roundw
        case rel => exact ⟨k + 1, by omega, by go_num, by rw [S3.out]; go_num, by rw [S1.out]; exact ho3, by rw [S2.out]; exact hown3, hap3, HF3.out⟩
        case measure => simp [intOf]; omega
    · have hki : ¬ (k : Int) < (ps.length : Int) := by omega
      have htl : ps.take k = ps := List.take_of_length_le (by omega)
      rw [htl] at ho hp hoe hpe hn hol hpl ⊢
      clear htl
      subst hoe hpe
      have hs0 : w.heap.size ≤ wr.heap.size := hfr.size
      obtain ⟨N, hN⟩ : ∃ N, N = nB ps := ⟨_, rfl⟩
      have HR1 := Lib.hid (show 1024 < N → rawB ps = outB ps ++ plB ps from fun e => by unfold rawB; rw [← hN, if_pos e])
      have HR2 := Lib.hid (show ¬ 1024 < N → rawB ps = outB ps from fun e => by unfold rawB; rw [← hN, if_neg e, List.append_nil])
      rw [← hN] at hn ⊢
      clear hN
      by_cases hnb : 1024 < N
      · have HR := Lib.hid (HR1.out hnb)
        have hnb' : (1024 : Int) < (N : Int) := by omega
        go_wp2_with (at_builtin; refine wpList_strs rfl _ _ rfl w.heap.size _ (outB ps) rfl ho (.slice ap (plB ps).length cp) (plB ps) rfl hp.at (by omega) (by omega) ?_; intro v2 w2 ho2 hg2)
        rw [← HR.out] at ho2
        have HF2 := Lib.hid (hfr.grownNew hg2 (fun j hj => ho.block j hj))
        have hrl : (rawB ps).length < 1000000 := by rw [HR.out, List.length_append]; omega
        clear hg2 ho hp hap
        go_wp2_with fail
        refine (SortS_any w.heap.size v2 (rawB ps) w2 ho2 hrl).mono ?_
        rintro e w3 ⟨rfl, ho3, hg3⟩
        have HF3 := Lib.hid (HF2.out.grownNew hg3 (fun j hj => ho2.block j hj))
        go_wp2_with fail
        refine (CompactS_any w.heap.size v2 _ w3 ho3 (by unfold sortLs; simpa using hrl)).mono ?_
        rintro e w4 ⟨u, rfl, ho4, hg4⟩
        have HF4 := Lib.hid (HF3.out.grownNew hg4 (fun j hj => ho3.block j hj))
        go_wp2
        go_ret
        exact ⟨u, rfl, ho4, HF4.out⟩
      · have HR := Lib.hid (HR2.out hnb)
        have hnb' : ¬ (1024 : Int) < (N : Int) := by omega
        rw [← HR.out] at ho
        have hrl : (rawB ps).length < 1000000 := by rw [HR.out]; omega
        rw [← HR.out]
        go_wp2_with fail
        refine (SortS_any w.heap.size _ (rawB ps) wr ho hrl).mono ?_
        rintro e w3 ⟨rfl, ho3, hg3⟩
        have HF3 := Lib.hid (hfr.grownNew hg3 (fun j hj => ho.block j hj))
        go_wp2_with fail
        refine (CompactS_any w.heap.size _ _ w3 ho3 (by unfold sortLs; simpa using hrl)).mono ?_
        rintro e w4 ⟨u, rfl, ho4, hg4⟩
        have HF4 := Lib.hid (HF3.out.grownNew hg4 (fun j hj => ho3.block j hj))
        go_wp2
        go_ret
        exact ⟨u, rfl, ho4, HF4.out⟩
end Go.Proofs.YtkoobhgedoanhaaDoor
