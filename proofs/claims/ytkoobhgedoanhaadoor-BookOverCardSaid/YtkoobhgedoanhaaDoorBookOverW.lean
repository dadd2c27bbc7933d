/- The law BookOver: its walk. -/
import Derived.Test.YtkoobhgedoanhaaDoorRightful
import Derived.Test.YtkoobhgedoanhaaDoorBooked
import Derived.Test.YtkoobhgedoanhaaDoorBookLaw
import Derived.Test.YtkoobhgedoanhaaDoorOpenY
import Derived.Test.YtkoobhgedoanhaaDoorIdxPa
import Derived.Deep.RegionHeld3
namespace Go.Proofs.YtkoobhgedoanhaaDoor
open Go.RowKit

theorem cells13O {w : World} {b : Nat} {c0 c1 c2 c3 c4 c5 c6 c7 c8 c9 c10 c11 c12 : Value} {t : TypeId} (h : w.heap[b]? = some (.cells #[c0, c1, c2, c3, c4, c5, c6, c7, c8, c9, c10, c11, c12] t (0, 0))) :
    w.cell? ⟨b, 0, none⟩ = some c0 ∧ w.cell? ⟨b, 1, none⟩ = some c1 ∧ w.cell? ⟨b, 2, none⟩ = some c2 ∧ w.cell? ⟨b, 3, none⟩ = some c3 ∧ w.cell? ⟨b, 4, none⟩ = some c4 ∧ w.cell? ⟨b, 5, none⟩ = some c5 ∧ w.cell? ⟨b, 6, none⟩ = some c6 ∧ w.cell? ⟨b, 7, none⟩ = some c7 ∧ w.cell? ⟨b, 8, none⟩ = some c8 ∧ w.cell? ⟨b, 9, none⟩ = some c9 ∧ w.cell? ⟨b, 10, none⟩ = some c10 ∧ w.cell? ⟨b, 11, none⟩ = some c11 ∧ w.cell? ⟨b, 12, none⟩ = some c12 := by
  have hc : ∀ (i : Nat) u, [c0, c1, c2, c3, c4, c5, c6, c7, c8, c9, c10, c11, c12][i]? = some u → w.cell? ⟨b, i, none⟩ = some u := fun i u hu => by simp only [World.cell?, h]; simpa using hu
  exact ⟨hc 0 _ rfl, hc 1 _ rfl, hc 2 _ rfl, hc 3 _ rfl, hc 4 _ rfl, hc 5 _ rfl, hc 6 _ rfl, hc 7 _ rfl, hc 8 _ rfl, hc 9 _ rfl, hc 10 _ rfl, hc 11 _ rfl, hc 12 _ rfl⟩
theorem joinJ {P G : Value → Value → World → Prop} {T : Prop} (main : (∀ a b c, P a b c → G a b c) → T) (rest : ∀ a b c, P a b c → G a b c) : T := main rest
theorem fewB_smallO {hs : List Prm} (h : fewB hs = true) : hs.length ≤ 40 ∧ ∀ p ∈ hs, p.1.size + p.2.size ≤ 300 := by
  unfold fewB at h
  simp only [Bool.and_eq_true, decide_eq_true_eq, Bool.not_eq_true', List.any_eq_false] at h
  refine ⟨h.1, fun p hp => ?_⟩
  have := h.2 p hp
  unfold bigP at this
  simp only [decide_eq_true_eq] at this
  omega
theorem ReqOk.ofO {r : ReqOf Value} {hs : List Prm} (hb : rightfulB r hs = true) : ReqOk r hs := by
  unfold rightfulB at hb
  simp only [Bool.and_eq_true, decide_eq_true_eq] at hb
  obtain ⟨h1, h2⟩ := hb
  obtain ⟨g1, g2⟩ := fewB_smallO h1
  exact ⟨by omega, by omega, fun p hp => by have := g2 p hp; omega⟩
def BoRel (n : Nat) (w : World) (t : Value) (wr : World) : Prop := ∃ k : Nat, k ≤ n ∧ t = .int .i64 k ∧ Fr noB w wr
def LsRel (ls : List Pas) (s : Int) (u : World) (l t : Value) (wr : World) : Prop := ∃ k : Nat, k ≤ ls.length ∧ t = .int .i64 k ∧ l = .int .i64 (lastT (ls.take k) s) ∧ Fr noB u wr
set_option maxHeartbeats 8000000 in
set_option maxRecDepth 100000 in
theorem BookOver_walk (v : Value) (ls : List Pas) (r : ReqOf Value) (hs : List Prm) (t u : Int) (w : World) (st0 : PasAt w v ls ∧ ls.length ≤ 140737488355328 ∧ ∀ p ∈ ls, p.Sized) (st1 : ReqFit w r hs) :
    Calls Tryd.prog 5 #[v, .agg r.cells.toArray, .int .i64 t, .int .i64 u] w fun e w' => e = .returned (.bool true) ∧ Below w.heap.size w w' := by
  obtain ⟨h1, l1, z1⟩ := st0
  obtain ⟨h2, l2, z2, z3, _, _, _, _⟩ := st1
  obtain ⟨a1, c1, hf1⟩ := RowsAt.form h1
  rw [List.length_map] at hf1
  subst hf1
  obtain ⟨w1, hw1⟩ : ∃ w1, w1 = w.alloc (.cells r.cells.toArray 67) := ⟨_, rfl⟩
  have hfb : Fr noB w w1 := by rw [hw1]; exact (Fr.refl noB w).alloc _
  have hk1 : w1.heap[w.heap.size]? = some (.cells r.cells.toArray 67 (0, 0)) := by rw [hw1]; exact new_block _ _
  have HL := Lib.hid (show ∀ U, Fr noB w1 U → PasAt U (.slice a1 ls.length c1) ls from fun U hU => RowsAt.frNone h1 (hfb.trans hU))
  have HK1 := Lib.hid (show ∀ U, Fr noB w1 U → U.heap[w.heap.size]? = some (.cells r.cells.toArray 67 (0, 0)) from fun U hU => hU.keep hk1 (fun h => h))
  have HPS := Lib.hid (show ∀ U, Fr noB w1 U → Calls Tryd.prog 24 #[.slice a1 ls.length c1] U fun e w' => e = .returned (.bool (passesB ls)) ∧ Fr noB U w' from fun U hU => passes_any _ ls U (HL.out U hU) l1 z1)
  have HRF := Lib.hid (show ∀ U, Fr noB w1 U → Calls Tryd.prog 27 #[.agg r.cells.toArray] U fun e w' => e = .returned (.bool (rightfulB r hs)) ∧ Fr noB U w' from fun U hU => rightful_any r hs U (RowsAt.frNone h2 (hfb.trans hU)) l2 z2 z3)
  have HND := Lib.hid (show rightfulB r hs = true → ∀ U, Fr noB w1 U → Calls Tryd.prog 31 #[.agg r.cells.toArray] U fun e w' => e = .returned (.bool (r.toL hs).needs) ∧ Fr noB U w' from fun hz U hU => Needs_any r hs U (RowsAt.frNone h2 (hfb.trans hU)) (ReqOk.ofO hz))
  have HCV := Lib.hid (show rightfulB r hs = true → ∀ U, Fr noB w1 U → ∀ (base b : Nat) (bv : Value) (ps : List Pas) (now : Int), BookIs base U b bv ps → ps.length ≤ 32 → Calls Tryd.prog 30 #[.pointer (some ⟨b, 0, none⟩), .agg r.cells.toArray, .int .i64 now] U fun e w' => e = .returned (.bool (bookCovers ps (r.toL hs) now)) ∧ Fr noB U w' from fun hz U hU base b bv ps now hb hl => BCovers_any base U b bv ps r hs now hb (by omega) (RowsAt.frNone h2 (hfb.trans hU)) (ReqOk.ofO hz))
  have HFOR := Lib.hid (show ∀ U (base b : Nat) (bv : Value) (ps : List Pas) (now : Int), BookIs base U b bv ps → ps.length ≤ 32 → Calls Tryd.prog 28 #[.pointer (some ⟨b, 0, none⟩), .agg r.cells.toArray, .int .i64 now] U fun e w' => ∃ v', e = .returned v' ∧ OwnRows U.heap.size 63 12 w' v' ((bookFor ps (r.toL hs) now).map Pas.cells) ∧ Fr noB U w' from fun U base b bv ps now hb hl => For_any base U b bv ps r hs now hb (by omega))
  have HLT := Lib.hid (show ls ≠ [] → ∀ k, (Value.slice a1 ls.length c1).ownBlock = some k → k < w.heap.size from fun hne k hk => RowsAt.lt h1 (by simpa using hne) k hk)
  obtain ⟨ah, ch, hhf⟩ := RowsAt.form h2
  rw [List.length_map] at hhf
  have HFB := Lib.hid hfb
  clear h1 l1 z1 h2 l2 z2 z3 hk1 hfb
  generalize rightfulB r hs = rf at *
  obtain ⟨part, ⟨fs, fh, fp⟩, ⟨os, oh, op⟩, path, query, method, heads, wth, body⟩ := r
  simp only at hhf
  subst hhf
  generalize hrl : (ReqOf.mk part ⟨fs, fh, fp⟩ ⟨os, oh, op⟩ path query method (Value.slice ah hs.length ch) wth body).toL hs = rl at *
  clear hrl
  unfold ReqOf.cells at hw1 HRF HK1 HND HCV HFOR ⊢
  dsimp only at hw1 HRF HK1 HND HCV HFOR ⊢
  have HC := Lib.hid (show ∀ U, Fr noB w1 U → U.cell? ⟨w.heap.size, 0, none⟩ = some (.int .i64 part) ∧ U.cell? ⟨w.heap.size, 1, none⟩ = some (.bool fs) ∧ U.cell? ⟨w.heap.size, 2, none⟩ = some (.string fh) ∧ U.cell? ⟨w.heap.size, 3, none⟩ = some (.int .i64 fp) ∧ U.cell? ⟨w.heap.size, 4, none⟩ = some (.bool os) ∧ U.cell? ⟨w.heap.size, 5, none⟩ = some (.string oh) ∧ U.cell? ⟨w.heap.size, 6, none⟩ = some (.int .i64 op) ∧ U.cell? ⟨w.heap.size, 7, none⟩ = some (.string path) ∧ U.cell? ⟨w.heap.size, 8, none⟩ = some (.string query) ∧ U.cell? ⟨w.heap.size, 9, none⟩ = some (.string method) ∧ U.cell? ⟨w.heap.size, 10, none⟩ = some (.slice ah hs.length ch) ∧ U.cell? ⟨w.heap.size, 11, none⟩ = some (.bool wth) ∧ U.cell? ⟨w.heap.size, 12, none⟩ = some (.string body) from fun U hU => cells13O (HK1.out U hU))
  go_enter Tryd.func5, Tryd.ntmps5
  go_wp2_with fail
  rw [← hw1]
  clear hw1
  refine (booked_any w1).mono ?_
  rintro e u0 ⟨rfl, hu0⟩
  have HU0 := Lib.hid hu0
  clear hu0
  go_wp2_with fail
  refine (HPS.out u0 HU0.out).mono ?_
  rintro e u1 ⟨rfl, hu1⟩
  have HU1 := Lib.hid (HU0.out.trans hu1)
  clear hu1
  cases hps : passesB ls
  · clear hps
    go_wp2
    go_ret
    exact ⟨rfl, (HFB.out.trans HU1.out).none_below⟩
  have hlen : ls.length ≤ 60 := by
    unfold passesB at hps
    simp only [Bool.and_eq_true, decide_eq_true_eq] at hps
    exact hps.1
  clear hps
  obtain ⟨e0, e1, e2, e3, e4, e5, e6, e7, e8, e9, e10, e11, e12⟩ := HC.out u1 HU1.out
  go_wp2_with fail
  refine (HRF.out u1 HU1.out).mono ?_
  rintro e u2 ⟨rfl, hu2⟩
  have HU2 := Lib.hid (HU1.out.trans hu2)
  clear hu2 e0 e1 e2 e3 e4 e5 e6 e7 e8 e9 e10 e11 e12
  cases rf
  · go_wp2
    go_ret
    exact ⟨rfl, (HFB.out.trans HU2.out).none_below⟩
  replace HND := Lib.hid (HND.out (by simp))
  replace HCV := Lib.hid (HCV.out (by simp))
  have hb0 := BookIs.new u2
  have hfb2 : Fr noB u2 (u2.alloc (.cells #[.slice none 0 0] 57)) := (Fr.refl _ _).alloc _
  have hu2lt := HU2.out.size
  have hput := BookPut_any u2.heap.size _ u2.heap.size _ [] _ ls (min t u) hb0 (HL.out _ (HU2.out.trans hfb2)) (fun hne k hk h => by
    have hlt := HLT.out hne k hk
    rcases h with h | h
    · have := HFB.out.size; omega
    · simp [own, Value.ownBlock] at h) (by simp; omega)
  have HPUT := Lib.hid hput
  have HFB2 := Lib.hid (HU2.out.trans hfb2)
  clear hput hfb2 hb0
  go_wp2_with fail
  refine HPUT.out.mono ?_
  rintro e u3 ⟨rfl, v3, hb3, hf3, _⟩
  have HU3 := Lib.hid (Fr.step (S := noB) HFB2.out hf3 (fun k hk h => by
    rcases h with h | h
    · omega
    · simp [own, Value.ownBlock] at h))
  obtain ⟨S, hS⟩ : ∃ S, min t u = S := ⟨_, rfl⟩
  obtain ⟨M, hM⟩ : ∃ M, max t u = M := ⟨_, rfl⟩
  have hsm : S ≤ M := by omega
  rw [hS] at hb3 ⊢
  have LAST := Lib.hid (over_last (l := ls) (r := rl) (s := S))
  have hn32 := bookPut_len [] ls S
  generalize bookPut [] ls S = PS at *
  have HFO := Lib.hid (show ∀ U, Fr noB u3 U → ∀ now, Calls Tryd.prog 28 #[.pointer (some ⟨u2.heap.size, 0, none⟩), .agg #[.int .i64 part, .bool fs, .string fh, .int .i64 fp, .bool os, .string oh, .int .i64 op, .string path, .string query, .string method, .slice ah hs.length ch, .bool wth, .string body], .int .i64 now] U fun e w' => ∃ v', e = .returned v' ∧ OwnRows U.heap.size 63 12 w' v' ((bookFor PS rl now).map Pas.cells) ∧ Fr noB U w' from fun U hU now => HFOR.out U _ _ _ PS now (hb3.frN hU) hn32)
  have HCO := Lib.hid (show ∀ U, Fr noB u3 U → ∀ now, Calls Tryd.prog 30 #[.pointer (some ⟨u2.heap.size, 0, none⟩), .agg #[.int .i64 part, .bool fs, .string fh, .int .i64 fp, .bool os, .string oh, .int .i64 op, .string path, .string query, .string method, .slice ah hs.length ch, .bool wth, .string body], .int .i64 now] U fun e w' => e = .returned (.bool (bookCovers PS rl now)) ∧ Fr noB U w' from fun U hU now => HCV.out U (HU3.out.trans hU) _ _ _ PS now (hb3.frN hU) hn32)
  have HC3 := Lib.hid (show ∀ U, Fr noB u3 U → U.cell? ⟨w.heap.size, 0, none⟩ = some (.int .i64 part) ∧ U.cell? ⟨w.heap.size, 1, none⟩ = some (.bool fs) ∧ U.cell? ⟨w.heap.size, 2, none⟩ = some (.string fh) ∧ U.cell? ⟨w.heap.size, 3, none⟩ = some (.int .i64 fp) ∧ U.cell? ⟨w.heap.size, 4, none⟩ = some (.bool os) ∧ U.cell? ⟨w.heap.size, 5, none⟩ = some (.string oh) ∧ U.cell? ⟨w.heap.size, 6, none⟩ = some (.int .i64 op) ∧ U.cell? ⟨w.heap.size, 7, none⟩ = some (.string path) ∧ U.cell? ⟨w.heap.size, 8, none⟩ = some (.string query) ∧ U.cell? ⟨w.heap.size, 9, none⟩ = some (.string method) ∧ U.cell? ⟨w.heap.size, 10, none⟩ = some (.slice ah hs.length ch) ∧ U.cell? ⟨w.heap.size, 11, none⟩ = some (.bool wth) ∧ U.cell? ⟨w.heap.size, 12, none⟩ = some (.string body) from fun U hU => HC.out U (HU3.out.trans hU))
  have HND3 := Lib.hid (show ∀ U, Fr noB u3 U → Calls Tryd.prog 31 #[.agg #[.int .i64 part, .bool fs, .string fh, .int .i64 fp, .bool os, .string oh, .int .i64 op, .string path, .string query, .string method, .slice ah hs.length ch, .bool wth, .string body]] U fun e w' => e = .returned (.bool rl.needs) ∧ Fr noB U w' from fun U hU => HND.out U (HU3.out.trans hU))
  have EARLY := Lib.hid (show ∀ p ∈ bookFor PS rl M, (bookFor PS rl S).any (fun q => p.eqB q) = true from fun p hp => early_has hsm hp)
  have COVE := Lib.hid (show bookCovers PS rl M = true → bookCovers PS rl S = true from fun h => covers_early hsm h)
  have HFIN := Lib.hid (HFB.out.trans HU3.out)
  have HL3 := Lib.hid (show ∀ U, Fr noB u3 U → PasAt U (.slice a1 ls.length c1) ls from fun U hU => HL.out U (HU3.out.trans hU))
  clear hb3 hf3 HFOR HCV HND HPUT HFB2 hsm HL HK1 HC
  go_wp2_with fail
  apply joinJ (P := fun ve vm U => Fr noB u3 U ∧ PasAt U ve (bookFor PS rl S) ∧ PasAt U vm (bookFor PS rl M))
  case main =>
    intro HREST0
    have HREST := Lib.hid HREST0
    clear HREST0
    go_region_held3 (fun U => Fr noB u3 U ∧ U.cell? ⟨w.heap.size, 0, none⟩ = some (.int .i64 part) ∧ U.cell? ⟨w.heap.size, 1, none⟩ = some (.bool fs) ∧ U.cell? ⟨w.heap.size, 2, none⟩ = some (.string fh) ∧ U.cell? ⟨w.heap.size, 3, none⟩ = some (.int .i64 fp) ∧ U.cell? ⟨w.heap.size, 4, none⟩ = some (.bool os) ∧ U.cell? ⟨w.heap.size, 5, none⟩ = some (.string oh) ∧ U.cell? ⟨w.heap.size, 6, none⟩ = some (.int .i64 op) ∧ U.cell? ⟨w.heap.size, 7, none⟩ = some (.string path) ∧ U.cell? ⟨w.heap.size, 8, none⟩ = some (.string query) ∧ U.cell? ⟨w.heap.size, 9, none⟩ = some (.string method) ∧ U.cell? ⟨w.heap.size, 10, none⟩ = some (.slice ah hs.length ch) ∧ U.cell? ⟨w.heap.size, 11, none⟩ = some (.bool wth) ∧ U.cell? ⟨w.heap.size, 12, none⟩ = some (.string body)) ((refine (fun hU => ⟨hU, HC3.out _ hU⟩) ?_; repeat (first | exact Fr.refl _ _ | assumption | apply Fr.alloc | apply Fr.drew | refine Fr.trans ?_ (by assumption))))
      ((first
        | (have hdummy := hoe; clear hdummy; go_at_call 28; refine (HFO.out _ (by repeat (first | exact Fr.refl _ _ | assumption | apply Fr.drew | apply Fr.alloc | refine Fr.trans ?_ (by assumption))) _).mono ?_; rintro e uM ⟨vm, rfl, hom, hM2⟩)
        | (go_at_call 28; refine (HFO.out _ (by repeat (first | exact Fr.refl _ _ | assumption | apply Fr.drew | apply Fr.alloc | refine Fr.trans ?_ (by assumption))) _).mono ?_; rintro e uE ⟨ve, rfl, hoe, hE⟩)))
    all_goals exact HREST.out ve vm uM ⟨((Fr.refl noB u3).drew.trans hE).trans hM2, RowsAt.frNone hoe.at hM2, hom.at⟩
  case rest =>
    rintro ve vm u4 ⟨hu4, hve, hvm⟩
    obtain ⟨ae, ce, hef⟩ := RowsAt.form hve
    obtain ⟨am, cm, hmf⟩ := RowsAt.form hvm
    rw [List.length_map] at hef hmf
    subst hef hmf
    have HU4 := Lib.hid hu4
    have HVE := Lib.hid (show ∀ U, Fr noB u4 U → PasAt U (.slice ae (bookFor PS rl S).length ce) (bookFor PS rl S) from fun U hU => RowsAt.frNone hve hU)
    have HVM := Lib.hid (show ∀ U, Fr noB u4 U → PasAt U (.slice am (bookFor PS rl M).length cm) (bookFor PS rl M) from fun U hU => RowsAt.frNone hvm hU)
    clear hu4 hve hvm
    generalize bookFor PS rl S = LS at *
    generalize bookFor PS rl M = LM at *
    obtain ⟨i0, hi0, hz0, hz1, hz2⟩ := info_parts info_pass
    go_wp2_with fail
    go_loopw [12, 52] (LsRel ls S u4) (fun _ t _ => ls.length - (intOf t).toNat)
    case atStart => exact ⟨0, Nat.zero_le _, rfl, rfl, Fr.refl _ _⟩
    case round =>
      obtain ⟨k, hk, rfl, rfl, hfr⟩ := hrel
      by_cases hks : k < ls.length
      · have hki : (k : Int) < (ls.length : Int) := by omega
        have hat := Lib.hid (List.getElem?_eq_getElem hks)
        have HTK := Lib.hid (show lastT (ls.take (k + 1)) S = max (lastT (ls.take k) S) ls[k].til from by rw [List.take_succ_eq_append_getElem hks, lastT_snoc])
        generalize ls[k] = p at hat HTK
        generalize lastT (ls.take k) S = L at *
        rcases (HL3.out _ (HU4.out.trans hfr)).2 with ⟨_, _, _, e, _⟩ | ⟨bk, of, c, hf, g1, g2, g3, g4⟩
        · have : ls.length = 0 := by have := congrArg List.length e; simpa using this
          omega
        rw [List.length_map] at hf g1
        cases hf
        unfold maxLen at g2
        obtain ⟨x, hx⟩ : ∃ x, x = p.cells := ⟨_, rfl⟩
        have hxk : x.length = 12 := by rw [hx]; rfl
        have hone : ∀ u ∈ x, u.oneCell' = true := by rw [hx]; exact p.cells_one
        have hcell := g4 k x (by rw [List.getElem?_map, hat.out, hx]; rfl)
        have hst := fun W => run_storeCells_new (P := Tryd.prog) W 63 zPa x (by rw [hxk]; rfl) hone
        have hxi : (Tryd.prog.info? 63).map (·.size) = some x.length := sizePa hxk
        have hnewA := new_block wr (.cells x.toArray 63)
        clear g4
        have HX := Lib.hid hx
        have HXI := Lib.hid hxi
        have d11 : (wr.alloc (.cells x.toArray 63)).cell? ⟨wr.heap.size, 11, none⟩ = some (.int .i64 p.til) := by rw [hx]; simp only [World.cell?, new_block]; rfl
        have HF9 := Lib.hid (hfr.alloc (.cells x.toArray 63))
        clear hnewA hx hxi
        go_wp2_with (first | ((with_reducible refine wpList_at ⟨some 55, _, _, _, _, _⟩ ?_); go_must (refine wpList_load_mid rfl 63 (.tmp 54) rfl bk (of + k * 12) rfl _ _ hcell Tryd.underlying63 rfl HXI.out ?_)) | fail)
        go_roundw
        case rel => exact ⟨k + 1, by omega, by go_num, by rw [HTK.out], HF9.out⟩
        case measure => simp [intOf]; omega
      · have hki : ¬ (k : Int) < (ls.length : Int) := by omega
        have hke : k = ls.length := by omega
        subst hke
        rw [List.take_length]
        have HU5 := Lib.hid (HU4.out.trans hfr)
        have HVE2 := Lib.hid (show ∀ U, Fr noB wr U → PasAt U (.slice ae LS.length ce) LS from fun U hU => HVE.out U (hfr.trans hU))
        have HVM2 := Lib.hid (show ∀ U, Fr noB wr U → PasAt U (.slice am LM.length cm) LM from fun U hU => HVM.out U (hfr.trans hU))
        clear hfr HVE HVM HU4
        generalize hL : lastT ls S = L at *
        clear hL
        generalize wr = u5 at *
        go_wp2_with fail
        go_loopw [63] (BoRel LM.length u5) (fun t _ => LM.length - (intOf t).toNat)
        case atStart => exact ⟨0, Nat.zero_le _, rfl, Fr.refl _ _⟩
        case round =>
          obtain ⟨k, hk, rfl, hfr⟩ := hrel
          by_cases hks : k < LM.length
          · have hki : (k : Int) < (LM.length : Int) := by omega
            have hat := Lib.hid (List.getElem?_eq_getElem hks)
            have hmem := Lib.hid (List.getElem_mem hks)
            generalize LM[k] = p at hat hmem
            rcases (HVM2.out _ (hfr)).2 with ⟨_, _, _, e, _⟩ | ⟨bk, of, c, hf, g1, g2, g3, g4⟩
            · have : LM.length = 0 := by have := congrArg List.length e; simpa using this
              omega
            rw [List.length_map] at hf g1
            cases hf
            unfold maxLen at g2
            obtain ⟨x, hx⟩ : ∃ x, x = p.cells := ⟨_, rfl⟩
            have hxk : x.length = 12 := by rw [hx]; rfl
            have hone : ∀ u ∈ x, u.oneCell' = true := by rw [hx]; exact p.cells_one
            have hcell := g4 k x (by rw [List.getElem?_map, hat.out, hx]; rfl)
            have hst := fun W => run_storeCells_new (P := Tryd.prog) W 63 zPa x (by rw [hxk]; rfl) hone
            have hxi : (Tryd.prog.info? 63).map (·.size) = some x.length := sizePa hxk
            have hnewA := new_block wr (.cells x.toArray 63)
            clear g4
            have HX := Lib.hid hx
            have HXI := Lib.hid hxi
            obtain ⟨W, hW⟩ : ∃ W, W = wr.alloc (.cells x.toArray 63) := ⟨_, rfl⟩
            have hfW : Fr noB wr W := by rw [hW]; exact (Fr.refl _ _).alloc _
            have HWX := Lib.hid (show W.heap[wr.heap.size]? = some (.cells x.toArray 63 (0, 0)) from by rw [hW]; exact hnewA)
            have HXS := Lib.hid (show (Tryd.prog.info? 63).map (·.size) = some x.toArray.size by rw [List.size_toArray]; exact sizePa hxk)
            have HCT := Lib.hid (show Calls Tryd.prog 29 #[.slice ae LS.length ce, .agg x.toArray] W fun e w' => e = .returned (.bool true) ∧ Fr noB W w' from by
              have h := Contains_Pa _ LS p W (HVE2.out W (hfr.trans hfW))
              rw [EARLY.out p hmem.out] at h
              rw [HX.out]; exact h)
            have HF9 := Lib.hid (hfr.trans hfW)
            clear hnewA hx hxi hfW hfr
            go_wp2_with (first | ((with_reducible refine wpList_at ⟨some 66, _, _, _, _, _⟩ ?_); go_must (refine wpList_load_mid rfl 63 (.tmp 65) rfl bk (of + k * 12) rfl _ _ hcell Tryd.underlying63 rfl HXI.out ?_)) | ((with_reducible refine wpList_at ⟨some 68, _, _, _, _, _⟩ ?_); (try rw [← hW]); go_must (refine wpList_load_row rfl 63 (.tmp 16) rfl wr.heap.size rfl _ x.toArray (0, 0) _ HWX.out Tryd.underlying63 rfl HXS.out ?_)) | fail)
            rw [← hW]
            refine HCT.out.mono ?_
            rintro e u7 ⟨rfl, hf7⟩
            go_wp2
            go_roundw
            case rel => exact ⟨k + 1, by omega, by go_num, HF9.out.trans hf7⟩
            case measure => simp [intOf]; omega
          · have hki : ¬ (k : Int) < (LM.length : Int) := by omega
            have HU6 := Lib.hid (HU5.out.trans hfr)
            have HFOL := Lib.hid (show ∀ U, Fr noB u3 U → Calls Tryd.prog 28 #[.pointer (some ⟨u2.heap.size, 0, none⟩), .agg #[.int .i64 part, .bool fs, .string fh, .int .i64 fp, .bool os, .string oh, .int .i64 op, .string path, .string query, .string method, .slice ah hs.length ch, .bool wth, .string body], .int .i64 L] U fun e w' => ∃ a c, e = .returned (.slice a 0 c) ∧ Fr noB U w' from fun U hU => by
              refine (HFO.out U hU L).mono ?_
              rintro e w' ⟨v', rfl, ho, hf⟩
              rw [LAST.out.1] at ho
              obtain ⟨a, c, e⟩ := ho.form
              exact ⟨a, c, by rw [e]; rfl, hf⟩)
            have hcL := LAST.out.2
            clear hfr HVE2 HVM2 HU5 HFO HL3 EARLY LAST
            have HF20 := Lib.hid (show ∀ U, Fr noB wr U → Calls Tryd.prog 28 #[.pointer (some ⟨u2.heap.size, 0, none⟩), .agg #[.int .i64 part, .bool fs, .string fh, .int .i64 fp, .bool os, .string oh, .int .i64 op, .string path, .string query, .string method, .slice ah hs.length ch, .bool wth, .string body], .int .i64 L] U fun e w' => ∃ a c, e = .returned (.slice a 0 c) ∧ Fr noB U w' from fun U hU => HFOL.out U (HU6.out.trans hU))
            have HN20 := Lib.hid (show ∀ U, Fr noB wr U → Calls Tryd.prog 31 #[.agg #[.int .i64 part, .bool fs, .string fh, .int .i64 fp, .bool os, .string oh, .int .i64 op, .string path, .string query, .string method, .slice ah hs.length ch, .bool wth, .string body]] U fun e w' => e = .returned (.bool rl.needs) ∧ Fr noB U w' from fun U hU => HND3.out U (HU6.out.trans hU))
            have HM20 := Lib.hid (show ∀ U, Fr noB wr U → Calls Tryd.prog 30 #[.pointer (some ⟨u2.heap.size, 0, none⟩), .agg #[.int .i64 part, .bool fs, .string fh, .int .i64 fp, .bool os, .string oh, .int .i64 op, .string path, .string query, .string method, .slice ah hs.length ch, .bool wth, .string body], .int .i64 M] U fun e w' => e = .returned (.bool (bookCovers PS rl M)) ∧ Fr noB U w' from fun U hU => HCO.out U (HU6.out.trans hU) M)
            have HS20 := Lib.hid (show ∀ U, Fr noB wr U → Calls Tryd.prog 30 #[.pointer (some ⟨u2.heap.size, 0, none⟩), .agg #[.int .i64 part, .bool fs, .string fh, .int .i64 fp, .bool os, .string oh, .int .i64 op, .string path, .string query, .string method, .slice ah hs.length ch, .bool wth, .string body], .int .i64 S] U fun e w' => e = .returned (.bool (bookCovers PS rl S)) ∧ Fr noB U w' from fun U hU => HCO.out U (HU6.out.trans hU) S)
            have HL20 := Lib.hid (show ∀ U, Fr noB wr U → Calls Tryd.prog 30 #[.pointer (some ⟨u2.heap.size, 0, none⟩), .agg #[.int .i64 part, .bool fs, .string fh, .int .i64 fp, .bool os, .string oh, .int .i64 op, .string path, .string query, .string method, .slice ah hs.length ch, .bool wth, .string body], .int .i64 L] U fun e w' => e = .returned (.bool (bookCovers PS rl L)) ∧ Fr noB U w' from fun U hU => HCO.out U (HU6.out.trans hU) L)
            have HCW := Lib.hid (show ∀ U, Fr noB wr U → U.cell? ⟨w.heap.size, 0, none⟩ = some (.int .i64 part) ∧ U.cell? ⟨w.heap.size, 1, none⟩ = some (.bool fs) ∧ U.cell? ⟨w.heap.size, 2, none⟩ = some (.string fh) ∧ U.cell? ⟨w.heap.size, 3, none⟩ = some (.int .i64 fp) ∧ U.cell? ⟨w.heap.size, 4, none⟩ = some (.bool os) ∧ U.cell? ⟨w.heap.size, 5, none⟩ = some (.string oh) ∧ U.cell? ⟨w.heap.size, 6, none⟩ = some (.int .i64 op) ∧ U.cell? ⟨w.heap.size, 7, none⟩ = some (.string path) ∧ U.cell? ⟨w.heap.size, 8, none⟩ = some (.string query) ∧ U.cell? ⟨w.heap.size, 9, none⟩ = some (.string method) ∧ U.cell? ⟨w.heap.size, 10, none⟩ = some (.slice ah hs.length ch) ∧ U.cell? ⟨w.heap.size, 11, none⟩ = some (.bool wth) ∧ U.cell? ⟨w.heap.size, 12, none⟩ = some (.string body) from fun U hU => HC3.out U (HU6.out.trans hU))
            have HFINW := Lib.hid (HFIN.out.trans HU6.out)
            clear HFOL HND3 HCO HC3 HFIN HU6
            rw [hcL] at HL20
            generalize bookCovers PS rl L = cL at *
            clear hcL
            generalize bookCovers PS rl S = cS at *
            generalize bookCovers PS rl M = cM at *
            generalize rl.needs = nd at *
            go_wp2_with fail
            have hco := COVE.out
            clear COVE
            cases cM
            · clear hco
              refine wp_region_held_drew (S := (fun U => U.cell? ⟨w.heap.size, 0, none⟩ = some (.int .i64 part) ∧ U.cell? ⟨w.heap.size, 1, none⟩ = some (.bool fs) ∧ U.cell? ⟨w.heap.size, 2, none⟩ = some (.string fh) ∧ U.cell? ⟨w.heap.size, 3, none⟩ = some (.int .i64 fp) ∧ U.cell? ⟨w.heap.size, 4, none⟩ = some (.bool os) ∧ U.cell? ⟨w.heap.size, 5, none⟩ = some (.string oh) ∧ U.cell? ⟨w.heap.size, 6, none⟩ = some (.int .i64 op) ∧ U.cell? ⟨w.heap.size, 7, none⟩ = some (.string path) ∧ U.cell? ⟨w.heap.size, 8, none⟩ = some (.string query) ∧ U.cell? ⟨w.heap.size, 9, none⟩ = some (.string method) ∧ U.cell? ⟨w.heap.size, 10, none⟩ = some (.slice ah hs.length ch) ∧ U.cell? ⟨w.heap.size, 11, none⟩ = some (.bool wth) ∧ U.cell? ⟨w.heap.size, 12, none⟩ = some (.string body))) (by kernel_rfl) (HCW.out _ (Fr.refl noB wr).drew) ?_
              intro hS0
              refine wpAnyH_take (i := 0) (oi := ⟨some 72, _, _, _, _, _⟩) (v := ?_) rfl (by kernel_rfl) (by kernel_rfl) (by kernel_rfl) (fun _ _ _ h => h) (Or.inl ⟨by rfl, ?hy⟩) (by assumption) ?_
              case hy => (intro w hSw; (try dsimp only at hSw); go_simp <;> with_reducible rfl)
              try simp only [Act.put, List.setIfInBounds_toArray, List.set_cons_zero, List.set_cons_succ]
              refine wpAnyH_take (i := 1) (oi := ⟨some 73, _, _, _, _, _⟩) (v := ?_) rfl (by kernel_rfl) (by kernel_rfl) (by kernel_rfl) (fun _ _ _ h => h) (Or.inl ⟨by rfl, ?hy⟩) (by assumption) ?_
              case hy => (intro w hSw; (try dsimp only at hSw); go_simp <;> with_reducible rfl)
              try simp only [Act.put, List.setIfInBounds_toArray, List.set_cons_zero, List.set_cons_succ]
              refine wpAnyH_take (i := 2) (oi := ⟨some 74, _, _, _, _, _⟩) (v := ?_) rfl (by kernel_rfl) (by kernel_rfl) (by kernel_rfl) (fun _ _ _ h => h) (Or.inl ⟨by rfl, ?hy⟩) (by assumption) ?_
              case hy => (intro w hSw; (try dsimp only at hSw); go_simp <;> with_reducible rfl)
              try simp only [Act.put, List.setIfInBounds_toArray, List.set_cons_zero, List.set_cons_succ]
              refine wpAnyH_ready (rs := [3]) (by kernel_rfl) (by simp) ?_
              refine AllReadyH.cons rfl (fun K hK => ?_) AllReadyH.nil
              go_simp
              refine (HF20.out _ ((Fr.refl noB wr).drew)).mono ?_
              rintro e v1 ⟨aF, cF, rfl, hf1⟩
              have HR1 := Lib.hid (((Fr.refl noB wr).drew).trans hf1)
              clear hf1
              refine hK.out _ _ (HCW.out _ (HR1.out)) ?_
              intro hS1
              clear hK hS0 K
              try simp only [Act.put, List.setIfInBounds_toArray, List.set_cons_zero, List.set_cons_succ]
              refine wpAnyH_take (i := 4) (oi := ⟨some 76, _, _, _, _, _⟩) (v := ?_) rfl (by kernel_rfl) (by kernel_rfl) (by kernel_rfl) (fun _ _ _ h => h) (Or.inl ⟨by rfl, ?hy⟩) (by assumption) ?_
              case hy => (intro w hSw; (try dsimp only at hSw); go_simp <;> with_reducible rfl)
              try simp only [Act.put, List.setIfInBounds_toArray, List.set_cons_zero, List.set_cons_succ]
              refine wpAnyH_take (i := 5) (oi := ⟨some 77, _, _, _, _, _⟩) (v := ?_) rfl (by kernel_rfl) (by kernel_rfl) (by kernel_rfl) (fun _ _ _ h => h) (Or.inl ⟨by rfl, ?hy⟩) (by assumption) ?_
              case hy => (intro w hSw; (try dsimp only at hSw); go_simp <;> with_reducible rfl)
              try simp only [Act.put, List.setIfInBounds_toArray, List.set_cons_zero, List.set_cons_succ]
              refine wpAnyH_take (i := 6) (oi := ⟨some 78, _, _, _, _, _⟩) (v := ?_) rfl (by kernel_rfl) (by kernel_rfl) (by kernel_rfl) (fun _ _ _ h => h) (Or.inl ⟨by rfl, ?hy⟩) (by assumption) ?_
              case hy => (intro w hSw; (try dsimp only at hSw); go_simp <;> with_reducible rfl)
              try simp only [Act.put, List.setIfInBounds_toArray, List.set_cons_zero, List.set_cons_succ]
              refine wpAnyH_take (i := 7) (oi := ⟨some 79, _, _, _, _, _⟩) (v := ?_) rfl (by kernel_rfl) (by kernel_rfl) (by kernel_rfl) (fun _ _ _ h => h) (Or.inl ⟨by rfl, ?hy⟩) (by assumption) ?_
              case hy => (intro w hSw; (try dsimp only at hSw); go_simp <;> with_reducible rfl)
              try simp only [Act.put, List.setIfInBounds_toArray, List.set_cons_zero, List.set_cons_succ]
              refine wpAnyH_take (i := 8) (oi := ⟨some 80, _, _, _, _, _⟩) (v := ?_) rfl (by kernel_rfl) (by kernel_rfl) (by kernel_rfl) (fun _ _ _ h => h) (Or.inl ⟨by rfl, ?hy⟩) (by assumption) ?_
              case hy => (intro w hSw; (try dsimp only at hSw); go_simp <;> with_reducible rfl)
              try simp only [Act.put, List.setIfInBounds_toArray, List.set_cons_zero, List.set_cons_succ]
              refine wpAnyH_take (i := 9) (oi := ⟨some 81, _, _, _, _, _⟩) (v := ?_) rfl (by kernel_rfl) (by kernel_rfl) (by kernel_rfl) (fun _ _ _ h => h) (Or.inl ⟨by rfl, ?hy⟩) (by assumption) ?_
              case hy => (intro w hSw; (try dsimp only at hSw); go_simp <;> with_reducible rfl)
              try simp only [Act.put, List.setIfInBounds_toArray, List.set_cons_zero, List.set_cons_succ]
              refine wpAnyH_take (i := 10) (oi := ⟨some 82, _, _, _, _, _⟩) (v := ?_) rfl (by kernel_rfl) (by kernel_rfl) (by kernel_rfl) (fun _ _ _ h => h) (Or.inl ⟨by rfl, ?hy⟩) (by assumption) ?_
              case hy => (intro w hSw; (try dsimp only at hSw); go_simp <;> with_reducible rfl)
              try simp only [Act.put, List.setIfInBounds_toArray, List.set_cons_zero, List.set_cons_succ]
              refine wpAnyH_ready (rs := [11]) (by kernel_rfl) (by simp) ?_
              refine AllReadyH.cons rfl (fun K hK => ?_) AllReadyH.nil
              go_simp
              refine hK.out _ _ (HCW.out _ (HR1.out)) ?_
              intro hS2
              clear hK hS1 K
              try simp only [Act.put, List.setIfInBounds_toArray, List.set_cons_zero, List.set_cons_succ]
              refine wpAnyH_ready (rs := [12]) (by kernel_rfl) (by simp) ?_
              refine AllReadyH.cons rfl (fun K hK => ?_) AllReadyH.nil
              go_simp
              refine (HM20.out _ (HR1.out)).mono ?_
              rintro e v3 ⟨rfl, hf3⟩
              have HR3 := Lib.hid ((HR1.out).trans hf3)
              clear hf3
              refine hK.out _ _ (HCW.out _ (HR3.out)) ?_
              intro hS3
              clear hK hS2 K
              try simp only [Act.put, List.setIfInBounds_toArray, List.set_cons_zero, List.set_cons_succ]
              refine wpAnyH_take (i := 13) (oi := ⟨some 85, _, _, _, _, _⟩) (v := ?_) rfl (by kernel_rfl) (by kernel_rfl) (by kernel_rfl) (fun _ _ _ h => h) (Or.inl ⟨by rfl, ?hy⟩) (by assumption) ?_
              case hy => (intro w hSw; (try dsimp only at hSw); go_simp <;> with_reducible rfl)
              try simp only [Act.put, List.setIfInBounds_toArray, List.set_cons_zero, List.set_cons_succ]
              refine wpAnyH_take (i := 14) (oi := ⟨some 86, _, _, _, _, _⟩) (v := ?_) rfl (by kernel_rfl) (by kernel_rfl) (by kernel_rfl) (fun _ _ _ h => h) (Or.inl ⟨by rfl, ?hy⟩) (by assumption) ?_
              case hy => (intro w hSw; (try dsimp only at hSw); go_simp <;> with_reducible rfl)
              try simp only [Act.put, List.setIfInBounds_toArray, List.set_cons_zero, List.set_cons_succ]
              refine wpAnyH_take (i := 15) (oi := ⟨some 87, _, _, _, _, _⟩) (v := undef) rfl (by kernel_rfl) (by kernel_rfl) (by kernel_rfl) (fun _ _ _ h => h) (Or.inr ⟨by rfl, rfl⟩) (by assumption) ?_
              try simp only [Act.put, List.setIfInBounds_toArray, List.set_cons_zero, List.set_cons_succ]
              refine wpAnyH_take (i := 16) (oi := ⟨some 88, _, _, _, _, _⟩) (v := undef) rfl (by kernel_rfl) (by kernel_rfl) (by kernel_rfl) (fun _ _ _ h => h) (Or.inr ⟨by rfl, rfl⟩) (by assumption) ?_
              try simp only [Act.put, List.setIfInBounds_toArray, List.set_cons_zero, List.set_cons_succ]
              refine wpAnyH_take (i := 17) (oi := ⟨some 89, _, _, _, _, _⟩) (v := undef) rfl (by kernel_rfl) (by kernel_rfl) (by kernel_rfl) (fun _ _ _ h => h) (Or.inr ⟨by rfl, rfl⟩) (by assumption) ?_
              try simp only [Act.put, List.setIfInBounds_toArray, List.set_cons_zero, List.set_cons_succ]
              refine wpAnyH_take (i := 18) (oi := ⟨some 90, _, _, _, _, _⟩) (v := undef) rfl (by kernel_rfl) (by kernel_rfl) (by kernel_rfl) (fun _ _ _ h => h) (Or.inr ⟨by rfl, rfl⟩) (by assumption) ?_
              try simp only [Act.put, List.setIfInBounds_toArray, List.set_cons_zero, List.set_cons_succ]
              refine wpAnyH_take (i := 19) (oi := ⟨some 91, _, _, _, _, _⟩) (v := undef) rfl (by kernel_rfl) (by kernel_rfl) (by kernel_rfl) (fun _ _ _ h => h) (Or.inr ⟨by rfl, rfl⟩) (by assumption) ?_
              try simp only [Act.put, List.setIfInBounds_toArray, List.set_cons_zero, List.set_cons_succ]
              refine wpAnyH_take (i := 20) (oi := ⟨some 92, _, _, _, _, _⟩) (v := undef) rfl (by kernel_rfl) (by kernel_rfl) (by kernel_rfl) (fun _ _ _ h => h) (Or.inr ⟨by rfl, rfl⟩) (by assumption) ?_
              try simp only [Act.put, List.setIfInBounds_toArray, List.set_cons_zero, List.set_cons_succ]
              refine wpAnyH_take (i := 21) (oi := ⟨some 93, _, _, _, _, _⟩) (v := ?_) rfl (by kernel_rfl) (by kernel_rfl) (by kernel_rfl) (fun _ _ _ h => h) (Or.inl ⟨by rfl, ?hy⟩) (by assumption) ?_
              case hy => (intro w hSw; (try dsimp only at hSw); go_simp <;> with_reducible rfl)
              try simp only [Act.put, List.setIfInBounds_toArray, List.set_cons_zero, List.set_cons_succ]
              refine wpAnyH_take (i := 22) (oi := ⟨some 94, _, _, _, _, _⟩) (v := ?_) rfl (by kernel_rfl) (by kernel_rfl) (by kernel_rfl) (fun _ _ _ h => h) (Or.inl ⟨by rfl, ?hy⟩) (by assumption) ?_
              case hy => (intro w hSw; (try dsimp only at hSw); go_simp <;> with_reducible rfl)
              try simp only [Act.put, List.setIfInBounds_toArray, List.set_cons_zero, List.set_cons_succ]
              refine wpAnyH_take (i := 23) (oi := ⟨some 95, _, _, _, _, _⟩) (v := ?_) rfl (by kernel_rfl) (by kernel_rfl) (by kernel_rfl) (fun _ _ _ h => h) (Or.inl ⟨by rfl, ?hy⟩) (by assumption) ?_
              case hy => (intro w hSw; (try dsimp only at hSw); go_simp <;> with_reducible rfl)
              try simp only [Act.put, List.setIfInBounds_toArray, List.set_cons_zero, List.set_cons_succ]
              refine wpAnyH_take (i := 24) (oi := ⟨some 96, _, _, _, _, _⟩) (v := ?_) rfl (by kernel_rfl) (by kernel_rfl) (by kernel_rfl) (fun _ _ _ h => h) (Or.inl ⟨by rfl, ?hy⟩) (by assumption) ?_
              case hy => (intro w hSw; (try dsimp only at hSw); go_simp <;> with_reducible rfl)
              try simp only [Act.put, List.setIfInBounds_toArray, List.set_cons_zero, List.set_cons_succ]
              refine wpAnyH_take (i := 25) (oi := ⟨some 97, _, _, _, _, _⟩) (v := ?_) rfl (by kernel_rfl) (by kernel_rfl) (by kernel_rfl) (fun _ _ _ h => h) (Or.inl ⟨by rfl, ?hy⟩) (by assumption) ?_
              case hy => (intro w hSw; (try dsimp only at hSw); go_simp <;> with_reducible rfl)
              try simp only [Act.put, List.setIfInBounds_toArray, List.set_cons_zero, List.set_cons_succ]
              refine wpAnyH_take (i := 26) (oi := ⟨some 98, _, _, _, _, _⟩) (v := ?_) rfl (by kernel_rfl) (by kernel_rfl) (by kernel_rfl) (fun _ _ _ h => h) (Or.inl ⟨by rfl, ?hy⟩) (by assumption) ?_
              case hy => (intro w hSw; (try dsimp only at hSw); go_simp <;> with_reducible rfl)
              try simp only [Act.put, List.setIfInBounds_toArray, List.set_cons_zero, List.set_cons_succ]
              refine wpAnyH_take (i := 28) (oi := ⟨some 100, _, _, _, _, _⟩) (v := ?_) rfl (by kernel_rfl) (by kernel_rfl) (by kernel_rfl) (fun _ _ _ h => h) (Or.inl ⟨by rfl, ?hy⟩) (by assumption) ?_
              case hy => (intro w hSw; (try dsimp only at hSw); go_simp <;> with_reducible rfl)
              try simp only [Act.put, List.setIfInBounds_toArray, List.set_cons_zero, List.set_cons_succ]
              refine wpAnyH_ready (rs := [27]) (by kernel_rfl) (by simp) ?_
              refine AllReadyH.cons rfl (fun K hK => ?_) AllReadyH.nil
              go_simp
              refine (HL20.out _ (HR3.out)).mono ?_
              rintro e v4 ⟨rfl, hf4⟩
              have HR4 := Lib.hid ((HR3.out).trans hf4)
              clear hf4
              refine hK.out _ _ (HCW.out _ (HR4.out)) ?_
              intro hS4
              clear hK hS3 K
              try simp only [Act.put, List.setIfInBounds_toArray, List.set_cons_zero, List.set_cons_succ]
              refine wpAnyH_ready (rs := [29]) (by kernel_rfl) (by simp) ?_
              refine AllReadyH.cons rfl (fun K hK => ?_) AllReadyH.nil
              go_simp
              refine (HN20.out _ (HR4.out)).mono ?_
              rintro e v5 ⟨rfl, hf5⟩
              have HR5 := Lib.hid ((HR4.out).trans hf5)
              clear hf5
              refine hK.out _ _ (HCW.out _ (HR5.out)) ?_
              intro hS5
              clear hK hS4 K
              try simp only [Act.put, List.setIfInBounds_toArray, List.set_cons_zero, List.set_cons_succ]
              refine wpAnyH_take (i := 30) (oi := ⟨some 102, _, _, _, _, _⟩) (v := ?_) rfl (by kernel_rfl) (by kernel_rfl) (by kernel_rfl) (fun _ _ _ h => h) (Or.inl ⟨by rfl, ?hy⟩) (by assumption) ?_
              case hy => (intro w hSw; (try dsimp only at hSw); go_simp <;> with_reducible rfl)
              try simp only [Act.put, List.setIfInBounds_toArray, List.set_cons_zero, List.set_cons_succ]
              refine wpAnyH_take (i := 31) (oi := ⟨some 103, _, _, _, _, _⟩) (v := ?_) rfl (by kernel_rfl) (by kernel_rfl) (by kernel_rfl) (fun _ _ _ h => h) (Or.inl ⟨by rfl, ?hy⟩) (by assumption) ?_
              case hy => (intro w hSw; (try dsimp only at hSw); go_simp <;> with_reducible rfl)
              try simp only [Act.put, List.setIfInBounds_toArray, List.set_cons_zero, List.set_cons_succ]
              refine wpAnyH_take (i := 32) (oi := ⟨some 104, _, _, _, _, _⟩) (v := ?_) rfl (by kernel_rfl) (by kernel_rfl) (by kernel_rfl) (fun _ _ _ h => h) (Or.inl ⟨by rfl, ?hy⟩) (by assumption) ?_
              case hy => (intro w hSw; (try dsimp only at hSw); go_simp <;> with_reducible rfl)
              try simp only [Act.put, List.setIfInBounds_toArray, List.set_cons_zero, List.set_cons_succ]
              refine wpAnyH_take (i := 33) (oi := ⟨some 8, _, _, _, _, _⟩) (v := ?_) rfl (by kernel_rfl) (by kernel_rfl) (by kernel_rfl) (fun _ _ _ h => h) (Or.inl ⟨by rfl, ?hy⟩) (by assumption) ?_
              case hy => (intro w hSw; (try dsimp only at hSw); go_simp <;> with_reducible rfl)
              try simp only [Act.put, List.setIfInBounds_toArray, List.set_cons_zero, List.set_cons_succ]
              refine wpAnyH_done (by kernel_rfl) ?_ _
              go_wp2
              go_ret
              exact ⟨by simp, (HFINW.out.trans HR5.out).none_below⟩
            · rw [hco rfl] at HS20
              clear hco
              refine wp_region_held_drew (S := (fun U => U.cell? ⟨w.heap.size, 0, none⟩ = some (.int .i64 part) ∧ U.cell? ⟨w.heap.size, 1, none⟩ = some (.bool fs) ∧ U.cell? ⟨w.heap.size, 2, none⟩ = some (.string fh) ∧ U.cell? ⟨w.heap.size, 3, none⟩ = some (.int .i64 fp) ∧ U.cell? ⟨w.heap.size, 4, none⟩ = some (.bool os) ∧ U.cell? ⟨w.heap.size, 5, none⟩ = some (.string oh) ∧ U.cell? ⟨w.heap.size, 6, none⟩ = some (.int .i64 op) ∧ U.cell? ⟨w.heap.size, 7, none⟩ = some (.string path) ∧ U.cell? ⟨w.heap.size, 8, none⟩ = some (.string query) ∧ U.cell? ⟨w.heap.size, 9, none⟩ = some (.string method) ∧ U.cell? ⟨w.heap.size, 10, none⟩ = some (.slice ah hs.length ch) ∧ U.cell? ⟨w.heap.size, 11, none⟩ = some (.bool wth) ∧ U.cell? ⟨w.heap.size, 12, none⟩ = some (.string body))) (by kernel_rfl) (HCW.out _ (Fr.refl noB wr).drew) ?_
              intro hS0
              refine wpAnyH_take (i := 0) (oi := ⟨some 72, _, _, _, _, _⟩) (v := ?_) rfl (by kernel_rfl) (by kernel_rfl) (by kernel_rfl) (fun _ _ _ h => h) (Or.inl ⟨by rfl, ?hy⟩) (by assumption) ?_
              case hy => (intro w hSw; (try dsimp only at hSw); go_simp <;> with_reducible rfl)
              try simp only [Act.put, List.setIfInBounds_toArray, List.set_cons_zero, List.set_cons_succ]
              refine wpAnyH_take (i := 1) (oi := ⟨some 73, _, _, _, _, _⟩) (v := ?_) rfl (by kernel_rfl) (by kernel_rfl) (by kernel_rfl) (fun _ _ _ h => h) (Or.inl ⟨by rfl, ?hy⟩) (by assumption) ?_
              case hy => (intro w hSw; (try dsimp only at hSw); go_simp <;> with_reducible rfl)
              try simp only [Act.put, List.setIfInBounds_toArray, List.set_cons_zero, List.set_cons_succ]
              refine wpAnyH_take (i := 2) (oi := ⟨some 74, _, _, _, _, _⟩) (v := ?_) rfl (by kernel_rfl) (by kernel_rfl) (by kernel_rfl) (fun _ _ _ h => h) (Or.inl ⟨by rfl, ?hy⟩) (by assumption) ?_
              case hy => (intro w hSw; (try dsimp only at hSw); go_simp <;> with_reducible rfl)
              try simp only [Act.put, List.setIfInBounds_toArray, List.set_cons_zero, List.set_cons_succ]
              refine wpAnyH_ready (rs := [3]) (by kernel_rfl) (by simp) ?_
              refine AllReadyH.cons rfl (fun K hK => ?_) AllReadyH.nil
              go_simp
              refine (HF20.out _ ((Fr.refl noB wr).drew)).mono ?_
              rintro e v1 ⟨aF, cF, rfl, hf1⟩
              have HR1 := Lib.hid (((Fr.refl noB wr).drew).trans hf1)
              clear hf1
              refine hK.out _ _ (HCW.out _ (HR1.out)) ?_
              intro hS1
              clear hK hS0 K
              try simp only [Act.put, List.setIfInBounds_toArray, List.set_cons_zero, List.set_cons_succ]
              refine wpAnyH_take (i := 4) (oi := ⟨some 76, _, _, _, _, _⟩) (v := ?_) rfl (by kernel_rfl) (by kernel_rfl) (by kernel_rfl) (fun _ _ _ h => h) (Or.inl ⟨by rfl, ?hy⟩) (by assumption) ?_
              case hy => (intro w hSw; (try dsimp only at hSw); go_simp <;> with_reducible rfl)
              try simp only [Act.put, List.setIfInBounds_toArray, List.set_cons_zero, List.set_cons_succ]
              refine wpAnyH_take (i := 5) (oi := ⟨some 77, _, _, _, _, _⟩) (v := ?_) rfl (by kernel_rfl) (by kernel_rfl) (by kernel_rfl) (fun _ _ _ h => h) (Or.inl ⟨by rfl, ?hy⟩) (by assumption) ?_
              case hy => (intro w hSw; (try dsimp only at hSw); go_simp <;> with_reducible rfl)
              try simp only [Act.put, List.setIfInBounds_toArray, List.set_cons_zero, List.set_cons_succ]
              refine wpAnyH_take (i := 6) (oi := ⟨some 78, _, _, _, _, _⟩) (v := ?_) rfl (by kernel_rfl) (by kernel_rfl) (by kernel_rfl) (fun _ _ _ h => h) (Or.inl ⟨by rfl, ?hy⟩) (by assumption) ?_
              case hy => (intro w hSw; (try dsimp only at hSw); go_simp <;> with_reducible rfl)
              try simp only [Act.put, List.setIfInBounds_toArray, List.set_cons_zero, List.set_cons_succ]
              refine wpAnyH_take (i := 7) (oi := ⟨some 79, _, _, _, _, _⟩) (v := ?_) rfl (by kernel_rfl) (by kernel_rfl) (by kernel_rfl) (fun _ _ _ h => h) (Or.inl ⟨by rfl, ?hy⟩) (by assumption) ?_
              case hy => (intro w hSw; (try dsimp only at hSw); go_simp <;> with_reducible rfl)
              try simp only [Act.put, List.setIfInBounds_toArray, List.set_cons_zero, List.set_cons_succ]
              refine wpAnyH_take (i := 8) (oi := ⟨some 80, _, _, _, _, _⟩) (v := ?_) rfl (by kernel_rfl) (by kernel_rfl) (by kernel_rfl) (fun _ _ _ h => h) (Or.inl ⟨by rfl, ?hy⟩) (by assumption) ?_
              case hy => (intro w hSw; (try dsimp only at hSw); go_simp <;> with_reducible rfl)
              try simp only [Act.put, List.setIfInBounds_toArray, List.set_cons_zero, List.set_cons_succ]
              refine wpAnyH_take (i := 9) (oi := ⟨some 81, _, _, _, _, _⟩) (v := ?_) rfl (by kernel_rfl) (by kernel_rfl) (by kernel_rfl) (fun _ _ _ h => h) (Or.inl ⟨by rfl, ?hy⟩) (by assumption) ?_
              case hy => (intro w hSw; (try dsimp only at hSw); go_simp <;> with_reducible rfl)
              try simp only [Act.put, List.setIfInBounds_toArray, List.set_cons_zero, List.set_cons_succ]
              refine wpAnyH_take (i := 10) (oi := ⟨some 82, _, _, _, _, _⟩) (v := ?_) rfl (by kernel_rfl) (by kernel_rfl) (by kernel_rfl) (fun _ _ _ h => h) (Or.inl ⟨by rfl, ?hy⟩) (by assumption) ?_
              case hy => (intro w hSw; (try dsimp only at hSw); go_simp <;> with_reducible rfl)
              try simp only [Act.put, List.setIfInBounds_toArray, List.set_cons_zero, List.set_cons_succ]
              refine wpAnyH_ready (rs := [11]) (by kernel_rfl) (by simp) ?_
              refine AllReadyH.cons rfl (fun K hK => ?_) AllReadyH.nil
              go_simp
              refine hK.out _ _ (HCW.out _ (HR1.out)) ?_
              intro hS2
              clear hK hS1 K
              try simp only [Act.put, List.setIfInBounds_toArray, List.set_cons_zero, List.set_cons_succ]
              refine wpAnyH_ready (rs := [12]) (by kernel_rfl) (by simp) ?_
              refine AllReadyH.cons rfl (fun K hK => ?_) AllReadyH.nil
              go_simp
              refine (HM20.out _ (HR1.out)).mono ?_
              rintro e v3 ⟨rfl, hf3⟩
              have HR3 := Lib.hid ((HR1.out).trans hf3)
              clear hf3
              refine hK.out _ _ (HCW.out _ (HR3.out)) ?_
              intro hS3
              clear hK hS2 K
              try simp only [Act.put, List.setIfInBounds_toArray, List.set_cons_zero, List.set_cons_succ]
              refine wpAnyH_take (i := 13) (oi := ⟨some 85, _, _, _, _, _⟩) (v := ?_) rfl (by kernel_rfl) (by kernel_rfl) (by kernel_rfl) (fun _ _ _ h => h) (Or.inl ⟨by rfl, ?hy⟩) (by assumption) ?_
              case hy => (intro w hSw; (try dsimp only at hSw); go_simp <;> with_reducible rfl)
              try simp only [Act.put, List.setIfInBounds_toArray, List.set_cons_zero, List.set_cons_succ]
              refine wpAnyH_take (i := 14) (oi := ⟨some 86, _, _, _, _, _⟩) (v := ?_) rfl (by kernel_rfl) (by kernel_rfl) (by kernel_rfl) (fun _ _ _ h => h) (Or.inl ⟨by rfl, ?hy⟩) (by assumption) ?_
              case hy => (intro w hSw; (try dsimp only at hSw); go_simp <;> with_reducible rfl)
              try simp only [Act.put, List.setIfInBounds_toArray, List.set_cons_zero, List.set_cons_succ]
              refine wpAnyH_take (i := 15) (oi := ⟨some 87, _, _, _, _, _⟩) (v := ?_) rfl (by kernel_rfl) (by kernel_rfl) (by kernel_rfl) (fun _ _ _ h => h) (Or.inl ⟨by rfl, ?hy⟩) (by assumption) ?_
              case hy => (intro w hSw; (try dsimp only at hSw); go_simp <;> with_reducible rfl)
              try simp only [Act.put, List.setIfInBounds_toArray, List.set_cons_zero, List.set_cons_succ]
              refine wpAnyH_take (i := 16) (oi := ⟨some 88, _, _, _, _, _⟩) (v := ?_) rfl (by kernel_rfl) (by kernel_rfl) (by kernel_rfl) (fun _ _ _ h => h) (Or.inl ⟨by rfl, ?hy⟩) (by assumption) ?_
              case hy => (intro w hSw; (try dsimp only at hSw); go_simp <;> with_reducible rfl)
              try simp only [Act.put, List.setIfInBounds_toArray, List.set_cons_zero, List.set_cons_succ]
              refine wpAnyH_take (i := 17) (oi := ⟨some 89, _, _, _, _, _⟩) (v := ?_) rfl (by kernel_rfl) (by kernel_rfl) (by kernel_rfl) (fun _ _ _ h => h) (Or.inl ⟨by rfl, ?hy⟩) (by assumption) ?_
              case hy => (intro w hSw; (try dsimp only at hSw); go_simp <;> with_reducible rfl)
              try simp only [Act.put, List.setIfInBounds_toArray, List.set_cons_zero, List.set_cons_succ]
              refine wpAnyH_take (i := 18) (oi := ⟨some 90, _, _, _, _, _⟩) (v := ?_) rfl (by kernel_rfl) (by kernel_rfl) (by kernel_rfl) (fun _ _ _ h => h) (Or.inl ⟨by rfl, ?hy⟩) (by assumption) ?_
              case hy => (intro w hSw; (try dsimp only at hSw); go_simp <;> with_reducible rfl)
              try simp only [Act.put, List.setIfInBounds_toArray, List.set_cons_zero, List.set_cons_succ]
              refine wpAnyH_ready (rs := [19]) (by kernel_rfl) (by simp) ?_
              refine AllReadyH.cons rfl (fun K hK => ?_) AllReadyH.nil
              go_simp
              refine hK.out _ _ (HCW.out _ (HR3.out)) ?_
              intro hS4
              clear hK hS3 K
              try simp only [Act.put, List.setIfInBounds_toArray, List.set_cons_zero, List.set_cons_succ]
              refine wpAnyH_ready (rs := [20]) (by kernel_rfl) (by simp) ?_
              refine AllReadyH.cons rfl (fun K hK => ?_) AllReadyH.nil
              go_simp
              refine (HS20.out _ (HR3.out)).mono ?_
              rintro e v5 ⟨rfl, hf5⟩
              have HR5 := Lib.hid ((HR3.out).trans hf5)
              clear hf5
              refine hK.out _ _ (HCW.out _ (HR5.out)) ?_
              intro hS5
              clear hK hS4 K
              try simp only [Act.put, List.setIfInBounds_toArray, List.set_cons_zero, List.set_cons_succ]
              refine wpAnyH_take (i := 21) (oi := ⟨some 93, _, _, _, _, _⟩) (v := ?_) rfl (by kernel_rfl) (by kernel_rfl) (by kernel_rfl) (fun _ _ _ h => h) (Or.inl ⟨by rfl, ?hy⟩) (by assumption) ?_
              case hy => (intro w hSw; (try dsimp only at hSw); go_simp <;> with_reducible rfl)
              try simp only [Act.put, List.setIfInBounds_toArray, List.set_cons_zero, List.set_cons_succ]
              refine wpAnyH_take (i := 22) (oi := ⟨some 94, _, _, _, _, _⟩) (v := ?_) rfl (by kernel_rfl) (by kernel_rfl) (by kernel_rfl) (fun _ _ _ h => h) (Or.inl ⟨by rfl, ?hy⟩) (by assumption) ?_
              case hy => (intro w hSw; (try dsimp only at hSw); go_simp <;> with_reducible rfl)
              try simp only [Act.put, List.setIfInBounds_toArray, List.set_cons_zero, List.set_cons_succ]
              refine wpAnyH_take (i := 23) (oi := ⟨some 95, _, _, _, _, _⟩) (v := ?_) rfl (by kernel_rfl) (by kernel_rfl) (by kernel_rfl) (fun _ _ _ h => h) (Or.inl ⟨by rfl, ?hy⟩) (by assumption) ?_
              case hy => (intro w hSw; (try dsimp only at hSw); go_simp <;> with_reducible rfl)
              try simp only [Act.put, List.setIfInBounds_toArray, List.set_cons_zero, List.set_cons_succ]
              refine wpAnyH_take (i := 24) (oi := ⟨some 96, _, _, _, _, _⟩) (v := ?_) rfl (by kernel_rfl) (by kernel_rfl) (by kernel_rfl) (fun _ _ _ h => h) (Or.inl ⟨by rfl, ?hy⟩) (by assumption) ?_
              case hy => (intro w hSw; (try dsimp only at hSw); go_simp <;> with_reducible rfl)
              try simp only [Act.put, List.setIfInBounds_toArray, List.set_cons_zero, List.set_cons_succ]
              refine wpAnyH_take (i := 25) (oi := ⟨some 97, _, _, _, _, _⟩) (v := ?_) rfl (by kernel_rfl) (by kernel_rfl) (by kernel_rfl) (fun _ _ _ h => h) (Or.inl ⟨by rfl, ?hy⟩) (by assumption) ?_
              case hy => (intro w hSw; (try dsimp only at hSw); go_simp <;> with_reducible rfl)
              try simp only [Act.put, List.setIfInBounds_toArray, List.set_cons_zero, List.set_cons_succ]
              refine wpAnyH_take (i := 26) (oi := ⟨some 98, _, _, _, _, _⟩) (v := ?_) rfl (by kernel_rfl) (by kernel_rfl) (by kernel_rfl) (fun _ _ _ h => h) (Or.inl ⟨by rfl, ?hy⟩) (by assumption) ?_
              case hy => (intro w hSw; (try dsimp only at hSw); go_simp <;> with_reducible rfl)
              try simp only [Act.put, List.setIfInBounds_toArray, List.set_cons_zero, List.set_cons_succ]
              refine wpAnyH_take (i := 28) (oi := ⟨some 100, _, _, _, _, _⟩) (v := ?_) rfl (by kernel_rfl) (by kernel_rfl) (by kernel_rfl) (fun _ _ _ h => h) (Or.inl ⟨by rfl, ?hy⟩) (by assumption) ?_
              case hy => (intro w hSw; (try dsimp only at hSw); go_simp <;> with_reducible rfl)
              try simp only [Act.put, List.setIfInBounds_toArray, List.set_cons_zero, List.set_cons_succ]
              refine wpAnyH_ready (rs := [27]) (by kernel_rfl) (by simp) ?_
              refine AllReadyH.cons rfl (fun K hK => ?_) AllReadyH.nil
              go_simp
              refine (HL20.out _ (HR5.out)).mono ?_
              rintro e v6 ⟨rfl, hf6⟩
              have HR6 := Lib.hid ((HR5.out).trans hf6)
              clear hf6
              refine hK.out _ _ (HCW.out _ (HR6.out)) ?_
              intro hS6
              clear hK hS5 K
              try simp only [Act.put, List.setIfInBounds_toArray, List.set_cons_zero, List.set_cons_succ]
              refine wpAnyH_ready (rs := [29]) (by kernel_rfl) (by simp) ?_
              refine AllReadyH.cons rfl (fun K hK => ?_) AllReadyH.nil
              go_simp
              refine (HN20.out _ (HR6.out)).mono ?_
              rintro e v7 ⟨rfl, hf7⟩
              have HR7 := Lib.hid ((HR6.out).trans hf7)
              clear hf7
              refine hK.out _ _ (HCW.out _ (HR7.out)) ?_
              intro hS7
              clear hK hS6 K
              try simp only [Act.put, List.setIfInBounds_toArray, List.set_cons_zero, List.set_cons_succ]
              refine wpAnyH_take (i := 30) (oi := ⟨some 102, _, _, _, _, _⟩) (v := ?_) rfl (by kernel_rfl) (by kernel_rfl) (by kernel_rfl) (fun _ _ _ h => h) (Or.inl ⟨by rfl, ?hy⟩) (by assumption) ?_
              case hy => (intro w hSw; (try dsimp only at hSw); go_simp <;> with_reducible rfl)
              try simp only [Act.put, List.setIfInBounds_toArray, List.set_cons_zero, List.set_cons_succ]
              refine wpAnyH_take (i := 31) (oi := ⟨some 103, _, _, _, _, _⟩) (v := ?_) rfl (by kernel_rfl) (by kernel_rfl) (by kernel_rfl) (fun _ _ _ h => h) (Or.inl ⟨by rfl, ?hy⟩) (by assumption) ?_
              case hy => (intro w hSw; (try dsimp only at hSw); go_simp <;> with_reducible rfl)
              try simp only [Act.put, List.setIfInBounds_toArray, List.set_cons_zero, List.set_cons_succ]
              refine wpAnyH_take (i := 32) (oi := ⟨some 104, _, _, _, _, _⟩) (v := ?_) rfl (by kernel_rfl) (by kernel_rfl) (by kernel_rfl) (fun _ _ _ h => h) (Or.inl ⟨by rfl, ?hy⟩) (by assumption) ?_
              case hy => (intro w hSw; (try dsimp only at hSw); go_simp <;> with_reducible rfl)
              try simp only [Act.put, List.setIfInBounds_toArray, List.set_cons_zero, List.set_cons_succ]
              refine wpAnyH_take (i := 33) (oi := ⟨some 8, _, _, _, _, _⟩) (v := ?_) rfl (by kernel_rfl) (by kernel_rfl) (by kernel_rfl) (fun _ _ _ h => h) (Or.inl ⟨by rfl, ?hy⟩) (by assumption) ?_
              case hy => (intro w hSw; (try dsimp only at hSw); go_simp <;> with_reducible rfl)
              try simp only [Act.put, List.setIfInBounds_toArray, List.set_cons_zero, List.set_cons_succ]
              refine wpAnyH_done (by kernel_rfl) ?_ _
              go_wp2
              go_ret
              exact ⟨by simp, (HFINW.out.trans HR7.out).none_below⟩
end Go.Proofs.YtkoobhgedoanhaaDoor
