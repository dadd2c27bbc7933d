/- The law GrantCovers: its walk. -/
import Derived.Test.YtkoobhgedoanhaaGreatDoorCB13
import Derived.Test.YtkoobhgedoanhaaGreatDoorCB3
import Derived.Deep.RegionHeld3
namespace Go.Proofs.YtkoobhgedoanhaaGreatDoor
open Go.RowKit

theorem run_neq_urlS (o : Ori) (pa qu : ByteArray) (w : World) : (binOp .neq 51 (.agg #[.bool o.secure, .string o.host, .int .i64 o.port, .string pa, .string qu]) (.agg #[.bool o.secure, .string o.host, .int .i64 o.port, .string pa, .string qu])).run Tryz.prog w = .ok (.bool false) w := by
  go_simp
theorem run_neq_oriS (a : Ori) (w : World) : (binOp .neq 49 (.agg #[.bool a.secure, .string a.host, .int .i64 a.port]) (.agg #[.bool a.secure, .string a.host, .int .i64 a.port])).run Tryz.prog w = .ok (.bool false) w := by
  go_simp
theorem size_nil {s : ByteArray} (h : s.size = 0) : (s.toList == []) = true := by
  rw [ByteArray.toList_eq, byteArray_nil.2 h]; rfl
theorem size_cons {s : ByteArray} (h : 0 < s.size) : (s.toList == []) = false := by
  rw [beq_eq_false_iff_ne, ByteArray.toList_eq]
  intro e
  have := byteArray_nil.1 e
  omega
def GcRel (u : World) (n : Nat) (t : Value) (wr : World) : Prop := ∃ k : Nat, k ≤ n ∧ t = .int .i64 k ∧ Fr noB u wr
set_option maxHeartbeats 8000000 in
set_option maxRecDepth 100000 in
theorem GrantCovers_walk (r : ReqOf Value) (hs : List Prm) (v : Value) (ps : List Prm) (a : Int) (w : World) (st0 : ReqFit w r hs) (st1 : PrmsFit w v ps) (ht : PwTab w) :
    Calls Tryz.prog 7 #[.agg r.cells.toArray, v, .int .i64 a] w fun e w' => e = .returned (.bool true) ∧ Below w.heap.size w w' := by
  obtain ⟨h2, l2, z2, z3, _, _, hpf, _⟩ := st0
  have hp2 := Go.bounds_i64 hpf
  obtain ⟨w1, hw1⟩ : ∃ w1, w1 = w.alloc (.cells r.cells.toArray 53) := ⟨_, rfl⟩
  have hfb : Fr noB w w1 := by rw [hw1]; exact (Fr.refl noB w).alloc _
  have hk1 : w1.heap[w.heap.size]? = some (.cells r.cells.toArray 53 (0, 0)) := by rw [hw1]; exact new_block _ _
  have HK1 := Lib.hid (show ∀ U, Fr noB w1 U → U.heap[w.heap.size]? = some (.cells r.cells.toArray 53 (0, 0)) from fun U hU => hU.keep hk1 (fun h => h))
  have HRF := Lib.hid (show ∀ U, Fr noB w1 U → Calls Tryz.prog 23 #[.agg r.cells.toArray] U fun e w' => e = .returned (.bool (rightfulB r hs)) ∧ Fr noB U w' from fun U hU => rightful_any r hs U (RowsAt.frNone h2 (hfb.trans hU)) l2 z2 z3)
  have HFW := Lib.hid (show ∀ U, Fr noB w1 U → Calls Tryz.prog 24 #[v] U fun e w' => e = .returned (.bool (fewB ps)) ∧ Fr noB U w' from fun U hU => PrmsFit.few st1 (hfb.trans hU))
  have hhost : rightfulB r hs = true → r.frm.host.size < 100000 := fun hz => by
    unfold rightfulB at hz
    simp only [Bool.and_eq_true, decide_eq_true_eq] at hz
    omega
  have hpick := pickI_range a 1099511627776 (by decide)
  have HMY := Lib.hid (show rightfulB r hs = true → fewB ps = true → ∀ U, Fr noB w1 U → Calls Tryz.prog 25 #[.agg r.cells.toArray, v] U fun e w' => e = .returned (.bool (mayB (oriB r.frm).data.toList r.wth (ps.map parP))) ∧ Fr noB U w' from fun hz hf U hU => May_any r v _ U (RowsAt.frNone (PrmsAt.pars st1.1) (hfb.trans hU)) (few_small hf) (ht.fr (hfb.trans hU)) hp2.1 hp2.2 (hhost hz))
  have HGR := Lib.hid (show rightfulB r hs = true → fewB ps = true → ∀ U, Fr noB w1 U → Calls Tryz.prog 29 #[.agg r.cells.toArray, v, .int .i64 (pickI a 1099511627776)] U (GrRes (grantL (r.toL hs) (oriB r.frm).data.toList (ps.map parP) (pickI a 1099511627776)) U) from fun hz hf U hU => Grant_any r hs v _ _ U (RowsAt.frNone h2 (hfb.trans hU)) (RowsAt.frNone (PrmsAt.pars st1.1) (hfb.trans hU)) (few_small hf) (ReqOk.ofR hz) (ht.fr (hfb.trans hU)) hp2.1 hp2.2 (hhost hz) hpick.1 (by omega))
  have HAG := Lib.hid (show fewB ps = true → ∀ U, Fr noB w1 U → Calls Tryz.prog 27 #[v] U fun e w' => e = .returned (.int .i64 (ageI (ps.map parP))) ∧ Fr noB U w' from fun hf U hU => Age_any v _ U (RowsAt.frNone (PrmsAt.pars st1.1) (hfb.trans hU)) (few_small hf))
  have HCV := Lib.hid (show rightfulB r hs = true → ∀ U, Fr noB w1 U → ∀ (pv : Value) (m : List Pas), PasAt U pv m → Calls Tryz.prog 30 #[.agg r.cells.toArray, pv] U fun e w' => e = .returned (.bool ((r.toL hs).covers m)) ∧ Fr noB U w' from fun hz U hU pv m hpv => Covers_any r hs pv m U (RowsAt.frNone h2 (hfb.trans hU)) hpv (ReqOk.ofR hz))
  have LAW := Lib.hid (show 0 < r.method.size → ∀ m, grantL (r.toL hs) (oriB r.frm).data.toList (ps.map parP) (pickI a 1099511627776) = .ok m → (∀ x ∈ m, (x.frm = r.frm ∧ x.o = r.o ∧ x.path = r.path ∧ x.query = r.query ∧ x.wth = r.wth ∧ x.til = pickI a 1099511627776 + ageI (ps.map parP)) ∧ ((x.method.size = 0 ∧ 0 < x.head.size) ∨ (0 < x.method.size ∧ x.head.size = 0))) ∧ mayB (oriB r.frm).data.toList r.wth (ps.map parP) = true ∧ (r.toL hs).covers m = true from fun hm m h => grant_law h hm)
  have HAR := Lib.hid (ageI_range (ps.map parP))
  have HPK := Lib.hid hpick
  obtain ⟨ah, ch, hhf⟩ := RowsAt.form h2
  rw [List.length_map] at hhf
  obtain ⟨av, cv, hv⟩ := RowsAt.form st1.1
  rw [List.length_map] at hv
  have HFB := Lib.hid hfb
  clear h2 l2 z2 z3 hk1 hfb st1 hpf hp2 hhost hpick
  subst hv
  generalize rightfulB r hs = rf at *
  generalize (oriB r.frm).data.toList = ot at *
  obtain ⟨part, ⟨fs, fh, fp⟩, ⟨os, oh, op⟩, path, query, method, heads, wth, body⟩ := r
  simp only at hhf
  subst hhf
  generalize hrl : (ReqOf.mk part ⟨fs, fh, fp⟩ ⟨os, oh, op⟩ path query method (Value.slice ah hs.length ch) wth body).toL hs = rl at *
  clear hrl
  generalize hnw : pickI a 1099511627776 = now at *
  have HNW := Lib.hid hnw
  clear hnw
  generalize ageI (ps.map parP) = age at *
  unfold ReqOf.cells at hw1 HRF HMY HK1 HGR HCV ⊢
  dsimp only at hw1 HRF HMY HK1 HGR HCV LAW ⊢
  generalize mayB ot wth (ps.map parP) = my at *
  generalize grantL rl ot (ps.map parP) now = res at *
  go_enter Tryz.func7, Tryz.ntmps7
  go_wp2_with fail
  rw [← hw1]
  clear hw1
  refine (granted_any w1 (ht.fr HFB.out)).mono ?_
  rintro e u1 ⟨rfl, hu1⟩
  have HU1 := Lib.hid hu1
  obtain ⟨e0, e1, e2, e3, e4, e5, e6, e7, e8, e9, e10, e11, e12⟩ := cells13 (HK1.out u1 hu1)
  clear hu1
  go_wp2_with fail
  refine (HRF.out u1 HU1.out).mono ?_
  rintro e u2 ⟨rfl, hu2⟩
  have HU2 := Lib.hid (HU1.out.trans hu2)
  clear hu2 e0 e1 e2 e3 e4 e5 e6 e7 e8 e9 e10 e11 e12
  cases rf
  · go_wp2
    go_ret
    exact ⟨rfl, (HFB.out.trans HU2.out).none_below⟩
  go_wp2_with fail
  refine (HFW.out u2 HU2.out).mono ?_
  rintro e u3 ⟨rfl, hu3⟩
  have HU3 := Lib.hid (HU2.out.trans hu3)
  clear hu3
  cases hfw : fewB ps
  · clear hfw
    go_wp2
    go_ret
    exact ⟨rfl, (HFB.out.trans HU3.out).none_below⟩
  replace HMY := Lib.hid (HMY.out (by simp) hfw)
  replace HGR := Lib.hid (HGR.out (by simp) hfw)
  replace HAG := Lib.hid (HAG.out hfw)
  replace HCV := Lib.hid (HCV.out (by simp))
  clear hfw
  obtain ⟨e0, e1, e2, e3, e4, e5, e6, e7, e8, e9, e10, e11, e12⟩ := cells13 (HK1.out u3 HU3.out)
  by_cases hm0 : method.size = 0
  · have hmt := size_nil hm0
    clear hm0 LAW
    go_wp2
    go_ret
    exact ⟨rfl, (HFB.out.trans HU3.out).none_below⟩
  have hmt := size_cons (show 0 < method.size by omega)
  replace LAW := Lib.hid (LAW.out (by omega))
  clear hm0
  go_wp2_with fail
  refine (pick_any a 1099511627776 u3 (by decide) (by decide)).mono ?_
  rintro e u3' ⟨rfl, rfl⟩
  rw [HNW.out]
  go_wp2_with fail
  refine (HGR.out u3 HU3.out).mono ?_
  rintro e u4 ⟨hu4, hres⟩
  have HU4 := Lib.hid (HU3.out.trans hu4)
  clear hu4 e0 e1 e2 e3 e4 e5 e6 e7 e8 e9 e10 e11 e12
  cases res with
  | error n =>
    have hres' : e = .returned (.tuple #[.slice none 0 0, .iface 93 (.int .i64 n)]) := hres
    subst hres'
    clear hres LAW
    go_wp2
    go_ret
    exact ⟨rfl, (HFB.out.trans HU4.out).none_below⟩
  | ok G =>
    obtain ⟨pv, rfl, hown⟩ := hres
    obtain ⟨hx, hmy, hcov⟩ := LAW.out G rfl
    have LX := Lib.hid hx
    subst hmy
    have HCO := Lib.hid hcov
    obtain ⟨ap, cp, hpv⟩ := hown.form
    rw [List.length_map] at hpv
    subst hpv
    have HPA := Lib.hid (show PasAt u4 (.slice ap G.length cp) G from hown.at)
    clear hx hcov hown LAW
    go_wp2
    go_loopw [39] (GcRel u4 G.length) (fun t _ => G.length - (intOf t).toNat)
    case atStart => exact ⟨0, Nat.zero_le _, rfl, Fr.refl _ _⟩
    case round =>
      obtain ⟨k, hk, rfl, hfr⟩ := hrel
      by_cases hks : k < G.length
      · have hki : (k : Int) < (G.length : Int) := by omega
        have hki0 : (0 : Int) ≤ (k : Int) := by omega
        obtain ⟨bk, of, hap, hnn, g2, g3, g4, g5⟩ := PasAt.lie (RowsAt.frNone HPA.out hfr) (by intro e; rw [e] at hks; cases hks)
        subst hap
        clear hnn g4
        unfold maxLen at g3
        have hat := List.getElem?_eq_getElem hks
        have hmem := List.getElem_mem hks
        generalize G[k] = x at hat hmem
        obtain ⟨⟨q1, q2, q3, q4, q5, q6⟩, q7⟩ := LX.out x hmem
        have hl := g5 k x hat
        clear g5
        obtain ⟨xf, xo, xp, xq, xw, xm, xh, xt⟩ := x
        simp only at q1 q2 q3 q4 q5 q6 q7
        subst q1 q2
        obtain rfl := q3.symm
        obtain rfl := q4.symm
        obtain rfl := q5.symm
        subst q6
        have hsz := (show (Pas.mk ⟨fs, fh, fp⟩ ⟨os, oh, op⟩ path query wth xm xh (now + age)).cells.length = 12 from rfl)
        have hst := fun W => run_storeCells_new (P := Tryz.prog) W 64 zPa (Pas.mk ⟨fs, fh, fp⟩ ⟨os, oh, op⟩ path query wth xm xh (now + age)).cells rfl (pas_oneG _)
        obtain ⟨p0, p1, p2, p3, p4, p5, p6, p7, p8, p9, p10, p11⟩ := hl
        dsimp only at p0 p1 p2 p3 p4 p5 p6 p7 p8 p9 p10 p11
        unfold Pas.cells at hst
        dsimp only at hst
        have HFR := Lib.hid hfr
        obtain ⟨w6, hw6⟩ : ∃ w6, w6 = wr.alloc (.cells #[.bool fs, .string fh, .int .i64 fp, .bool os, .string oh, .int .i64 op, .string path, .string query, .bool wth, .string xm, .string xh, .int .i64 (now + age)] 64) := ⟨_, rfl⟩
        have hf6 : Fr noB wr w6 := by rw [hw6]; exact (Fr.refl _ _).alloc _
        have hx6 : w6.heap[wr.heap.size]? = some (.cells (Pas.mk ⟨fs, fh, fp⟩ ⟨os, oh, op⟩ path query wth xm xh (now + age)).cells.toArray 64 (0, 0)) := by rw [hw6]; exact new_block _ _
        have HC := Lib.hid (show ∀ U, Fr noB w6 U → (U.cell? ⟨w.heap.size, 1, none⟩ = some (.bool fs) ∧ U.cell? ⟨w.heap.size, 2, none⟩ = some (.string fh) ∧ U.cell? ⟨w.heap.size, 3, none⟩ = some (.int .i64 fp) ∧ U.cell? ⟨w.heap.size, 4, none⟩ = some (.bool os) ∧ U.cell? ⟨w.heap.size, 5, none⟩ = some (.string oh) ∧ U.cell? ⟨w.heap.size, 6, none⟩ = some (.int .i64 op) ∧ U.cell? ⟨w.heap.size, 7, none⟩ = some (.string path) ∧ U.cell? ⟨w.heap.size, 8, none⟩ = some (.string query) ∧ U.cell? ⟨w.heap.size, 11, none⟩ = some (.bool wth) ∧ U.cell? ⟨wr.heap.size, 0, none⟩ = some (.bool fs) ∧ U.cell? ⟨wr.heap.size, 1, none⟩ = some (.string fh) ∧ U.cell? ⟨wr.heap.size, 2, none⟩ = some (.int .i64 fp) ∧ U.cell? ⟨wr.heap.size, 3, none⟩ = some (.bool os) ∧ U.cell? ⟨wr.heap.size, 4, none⟩ = some (.string oh) ∧ U.cell? ⟨wr.heap.size, 5, none⟩ = some (.int .i64 op) ∧ U.cell? ⟨wr.heap.size, 6, none⟩ = some (.string path) ∧ U.cell? ⟨wr.heap.size, 7, none⟩ = some (.string query) ∧ U.cell? ⟨wr.heap.size, 8, none⟩ = some (.bool wth) ∧ U.cell? ⟨wr.heap.size, 9, none⟩ = some (.string xm) ∧ U.cell? ⟨wr.heap.size, 10, none⟩ = some (.string xh) ∧ U.cell? ⟨wr.heap.size, 11, none⟩ = some (.int .i64 (now + age))) from fun U hU => by
          obtain ⟨_, e1, e2, e3, e4, e5, e6, e7, e8, _, _, e11, _⟩ := cells13 (HK1.out U (HU4.out.trans ((HFR.out.trans hf6).trans hU)))
          have hx := PasLie.blk (hU.keep hx6 (fun h => h))
          unfold PasLie at hx
          simp only [Nat.zero_add] at hx
          exact ⟨e1, e2, e3, e4, e5, e6, e7, e8, e11, hx⟩)
        have HF6 := Lib.hid (HFR.out.trans hf6)
        clear hfr hf6 hx6 hsz
        have hwrap : IntKind.i64.wrap (now + age) = now + age := by have h1 := HAR.out; have h2 := HPK.out; rw [IntWalk.i64_left]; exact IntWalk.wrap64_in _ (by omega)
        go_wp2_with fail
        rw [← hw6]
        clear hw6 hst p0 p1 p2 p3 p4 p5 p6 p7 p8 p9 p10 p11
        have HR := Lib.hid hwrap
        have hnu := run_neq_urlS ⟨os, oh, op⟩ path query
        have hno := run_neq_oriS ⟨fs, fh, fp⟩
        dsimp only at hnu hno
        rcases q7 with ⟨m1, m2⟩ | ⟨m1, m2⟩
        · have y1 := size_nil m1
          have y2 := size_cons m2
          clear m1 m2
          go_region_held3 (fun U => Fr noB w6 U ∧ U.cell? ⟨w.heap.size, 1, none⟩ = some (.bool fs) ∧ U.cell? ⟨w.heap.size, 2, none⟩ = some (.string fh) ∧ U.cell? ⟨w.heap.size, 3, none⟩ = some (.int .i64 fp) ∧ U.cell? ⟨w.heap.size, 4, none⟩ = some (.bool os) ∧ U.cell? ⟨w.heap.size, 5, none⟩ = some (.string oh) ∧ U.cell? ⟨w.heap.size, 6, none⟩ = some (.int .i64 op) ∧ U.cell? ⟨w.heap.size, 7, none⟩ = some (.string path) ∧ U.cell? ⟨w.heap.size, 8, none⟩ = some (.string query) ∧ U.cell? ⟨w.heap.size, 11, none⟩ = some (.bool wth) ∧ U.cell? ⟨wr.heap.size, 0, none⟩ = some (.bool fs) ∧ U.cell? ⟨wr.heap.size, 1, none⟩ = some (.string fh) ∧ U.cell? ⟨wr.heap.size, 2, none⟩ = some (.int .i64 fp) ∧ U.cell? ⟨wr.heap.size, 3, none⟩ = some (.bool os) ∧ U.cell? ⟨wr.heap.size, 4, none⟩ = some (.string oh) ∧ U.cell? ⟨wr.heap.size, 5, none⟩ = some (.int .i64 op) ∧ U.cell? ⟨wr.heap.size, 6, none⟩ = some (.string path) ∧ U.cell? ⟨wr.heap.size, 7, none⟩ = some (.string query) ∧ U.cell? ⟨wr.heap.size, 8, none⟩ = some (.bool wth) ∧ U.cell? ⟨wr.heap.size, 9, none⟩ = some (.string xm) ∧ U.cell? ⟨wr.heap.size, 10, none⟩ = some (.string xh) ∧ U.cell? ⟨wr.heap.size, 11, none⟩ = some (.int .i64 (now + age))) ((refine (fun hU => ⟨hU, HC.out _ hU⟩) ?_; repeat (first | exact Fr.refl _ _ | assumption | apply Fr.alloc | apply Fr.drew | refine Fr.trans ?_ (by assumption))))
            ((first
              | (go_at_call 27; refine (HAG.out _ (HU4.out.trans (HF6.out.trans (by repeat (first | exact Fr.refl _ _ | assumption | apply Fr.drew | apply Fr.alloc | refine Fr.trans ?_ (by assumption)))))).mono ?_; rintro e u7 ⟨rfl, hu7⟩)))
          have HF7 := Lib.hid (show Fr noB u4 u7 from HF6.out.trans (by repeat (first | exact Fr.refl _ _ | assumption | apply Fr.drew | apply Fr.alloc | refine Fr.trans ?_ (by assumption))))
          go_wp2
          go_roundw
          case rel => exact ⟨k + 1, by omega, by go_num, HF7.out⟩
          case measure => simp [intOf]; omega
        · have y1 := size_cons m1
          have y2 := size_nil m2
          clear m1 m2
          go_region_held3 (fun U => Fr noB w6 U ∧ U.cell? ⟨w.heap.size, 1, none⟩ = some (.bool fs) ∧ U.cell? ⟨w.heap.size, 2, none⟩ = some (.string fh) ∧ U.cell? ⟨w.heap.size, 3, none⟩ = some (.int .i64 fp) ∧ U.cell? ⟨w.heap.size, 4, none⟩ = some (.bool os) ∧ U.cell? ⟨w.heap.size, 5, none⟩ = some (.string oh) ∧ U.cell? ⟨w.heap.size, 6, none⟩ = some (.int .i64 op) ∧ U.cell? ⟨w.heap.size, 7, none⟩ = some (.string path) ∧ U.cell? ⟨w.heap.size, 8, none⟩ = some (.string query) ∧ U.cell? ⟨w.heap.size, 11, none⟩ = some (.bool wth) ∧ U.cell? ⟨wr.heap.size, 0, none⟩ = some (.bool fs) ∧ U.cell? ⟨wr.heap.size, 1, none⟩ = some (.string fh) ∧ U.cell? ⟨wr.heap.size, 2, none⟩ = some (.int .i64 fp) ∧ U.cell? ⟨wr.heap.size, 3, none⟩ = some (.bool os) ∧ U.cell? ⟨wr.heap.size, 4, none⟩ = some (.string oh) ∧ U.cell? ⟨wr.heap.size, 5, none⟩ = some (.int .i64 op) ∧ U.cell? ⟨wr.heap.size, 6, none⟩ = some (.string path) ∧ U.cell? ⟨wr.heap.size, 7, none⟩ = some (.string query) ∧ U.cell? ⟨wr.heap.size, 8, none⟩ = some (.bool wth) ∧ U.cell? ⟨wr.heap.size, 9, none⟩ = some (.string xm) ∧ U.cell? ⟨wr.heap.size, 10, none⟩ = some (.string xh) ∧ U.cell? ⟨wr.heap.size, 11, none⟩ = some (.int .i64 (now + age))) ((refine (fun hU => ⟨hU, HC.out _ hU⟩) ?_; repeat (first | exact Fr.refl _ _ | assumption | apply Fr.alloc | apply Fr.drew | refine Fr.trans ?_ (by assumption))))
            ((first
              | (go_at_call 27; refine (HAG.out _ (HU4.out.trans (HF6.out.trans (by repeat (first | exact Fr.refl _ _ | assumption | apply Fr.drew | apply Fr.alloc | refine Fr.trans ?_ (by assumption)))))).mono ?_; rintro e u7 ⟨rfl, hu7⟩)))
          have HF7 := Lib.hid (show Fr noB u4 u7 from HF6.out.trans (by repeat (first | exact Fr.refl _ _ | assumption | apply Fr.drew | apply Fr.alloc | refine Fr.trans ?_ (by assumption))))
          go_wp2
          go_roundw
          case rel => exact ⟨k + 1, by omega, by go_num, HF7.out⟩
          case measure => simp [intOf]; omega
      · have hki : ¬ (k : Int) < (G.length : Int) := by omega
        have HF5 := Lib.hid (HU4.out.trans hfr)
        have HPA5 := Lib.hid (RowsAt.frNone HPA.out hfr)
        obtain ⟨e0, e1, e2, e3, e4, e5, e6, e7, e8, e9, e10, e11, e12⟩ := cells13 (HK1.out wr HF5.out)
        clear hfr
        go_wp2_with fail
        refine (HMY.out wr HF5.out).mono ?_
        rintro e u7 ⟨rfl, hu7⟩
        have HF7 := Lib.hid (HF5.out.trans hu7)
        have HPA7 := Lib.hid (RowsAt.frNone HPA5.out hu7)
        clear hu7 e0 e1 e2 e3 e4 e5 e6 e7 e8 e9 e10 e11 e12
        obtain ⟨e0, e1, e2, e3, e4, e5, e6, e7, e8, e9, e10, e11, e12⟩ := cells13 (HK1.out u7 HF7.out)
        have hcv := HCV.out u7 HF7.out _ G HPA7.out
        rw [HCO.out] at hcv
        have HCC := Lib.hid hcv
        clear hcv
        go_wp2_with fail
        refine HCC.out.mono ?_
        rintro e u8 ⟨rfl, hu8⟩
        go_wp2
        go_ret
        exact ⟨rfl, (HFB.out.trans (HF7.out.trans hu8)).none_below⟩
end Go.Proofs.YtkoobhgedoanhaaGreatDoor
