/- The law BankOnce. -/
import Derived.Test.YteffnckhapmpgaaFarthest
import Derived.Test.YteffnckhapmpgaaSameG
import Derived.Deep.RegionHeld3
namespace Go.Proofs.Yteffnckhapmpgaa
open Go.RowKit

/-- each realm of an origin once -/
def Apart (fs : List (GrantOf Texts)) : Prop := fs.Pairwise (fun x y => sameG y.o y.proxy y.a.realm x = false)
theorem putL_apart {gs : List (GrantOf Texts)} {g : GrantOf Texts} (h : Apart gs) : Apart (putL gs g) := by
  unfold putL Apart
  refine List.Pairwise.drop ?_
  rw [List.pairwise_append]
  refine ⟨h.filter _, by simp, fun x hx y hy => ?_⟩
  simp at hy
  subst hy
  simpa using (List.mem_filter.1 hx).2
theorem filledL_apart (gs : List (GrantOf Texts)) : Apart (filledL gs) := by
  induction gs using snocInd with
  | h0 => exact List.Pairwise.nil
  | h1 l x ih => rw [filledL_snoc]; exact putL_apart ih
theorem putL_last (gs : List (GrantOf Texts)) (g : GrantOf Texts) : ∃ l, putL gs g = l ++ [g] := by
  unfold putL
  simp only [List.length_append, List.length_cons, List.length_nil]
  generalize gs.filter _ = l
  exact ⟨l.drop (l.length + (0 + 1) - 8), by rw [List.drop_append_of_le_length (by omega)]⟩
theorem filledL_last (gs : List (GrantOf Texts)) (g : GrantOf Texts) : ∃ l, filledL (gs ++ [g]) = l ++ [g] := by
  rw [filledL_snoc]; exact putL_last _ _
theorem Apart.at {fs : List (GrantOf Texts)} (h : Apart fs) {i k : Nat} (hk : k < i) (hi : i < fs.length) (h1 : fs[i].o.eqB fs[k].o = true) (h2 : fs[i].proxy = fs[k].proxy) : fs[i].a.realm ≠ fs[k].a.realm := by
  have := List.pairwise_iff_getElem.1 h k i (by omega) hi hk
  unfold sameG sameB at this
  rw [Ori.eqB_iff] at h1
  intro h3
  simp [h1, h2, h3, (Ori.eqB_iff _ _).2] at this

def OnRel (w : World) (n : Nat) (i : Value) (wr : World) : Prop := ∃ k : Nat, k ≤ n ∧ i = .int .i64 k ∧ Fr noB w wr
/-- the cells that the walk reads of a grant -/
theorem GrantAt.cells {base : Nat} {w : World} {b o : Nat} {g : GrantOf Texts} (h : GrantAt base w b o g) :
    w.cell? ⟨b, o, none⟩ = some (.bool g.o.secure) ∧ w.cell? ⟨b, o + 1, none⟩ = some (.string g.o.host) ∧ w.cell? ⟨b, o + 2, none⟩ = some (.int .i64 g.o.port) ∧ w.cell? ⟨b, o + 3, none⟩ = some (.bool g.proxy) ∧ w.cell? ⟨b, o + 7, none⟩ = some (.string g.a.realm) := by
  obtain ⟨r, _, hr, hc⟩ := h
  have h0 := hc 0 _ rfl
  have h1 := hc 1 _ rfl
  have h2 := hc 2 _ rfl
  have h3 := hc 3 _ rfl
  have h7 := hc 7 _ rfl
  rw [hr.1] at h0 h1 h2
  rw [hr.2.1] at h3
  rw [hr.2.2.2.2.1.2.1] at h7
  exact ⟨h0, h1, h2, h3, h7⟩
set_option maxHeartbeats 4000000 in
set_option maxRecDepth 100000 in
theorem BankOnce_walk (v0 : Value) (gs : List (GrantOf Texts)) (w : World) (st0 : GrantsFit w v0 gs) :
    Calls Try.prog 7 #[v0] w fun e w' => e = .returned (.bool true) ∧ Below w.heap.size w w' := by
  have hg0 := st0.1
  clear st0
  go_enter Try.func7, Try.ntmps7
  go_wp2_with fail
  refine (banked_any w).mono ?_
  rintro e u1 ⟨rfl, hf1⟩
  have hg1 := hg0.frN hf1
  have HELD := Lib.hid (held_any v0 gs u1 hg1)
  go_wp2_with fail
  refine HELD.out.mono ?_
  rintro e u2 ⟨rfl, hf2⟩
  clear HELD
  have hg2 := hg1.frN hf2
  have hF2 := hf1.trans hf2
  clear hg1 hf2 hf1 hg0
  cases hh : heldB gs
  · go_wp2
    go_ret
    exact ⟨rfl, hF2.none_below⟩
  · have FILL := Lib.hid (filled_any v0 gs u2 hg2 hh)
    have HF2 := Lib.hid hF2
    obtain ⟨hfew, hfew2⟩ := heldB_few hh
    have HFEW := Lib.hid hfew2
    clear hF2 hh hfew2
    go_wp2_with fail
    refine FILL.out.mono ?_
    intro e u3 hp
    obtain ⟨b, gv, wv, rfl, hB, hf3⟩ := hp
    have HF3 := Lib.hid (HF2.out.trans hf3)
    have hg3 := Lib.hid (hg2.frN hf3)
    have hlen := filledL_len gs
    have hap := Lib.hid (filledL_apart gs)
    have hlast := Lib.hid (fun l g (h : gs = l ++ [g]) => h ▸ filledL_last l g)
    generalize filledL gs = fs at *
    have GR := Lib.hid (Grants_any u2.heap.size u3 b gv wv fs [] hB (by omega))
    clear FILL HF2 hf3 hB hg2
    go_wp2_with fail
    refine GR.out.mono ?_
    intro e u4 hp
    obtain ⟨v, rfl, ⟨hgi, _⟩, hf4⟩ := hp
    obtain ⟨av, cv, hv⟩ := hgi.form
    subst hv
    have HF4 := Lib.hid (HF3.out.trans hf4)
    have HG4 := Lib.hid (hg3.out.frN hf4)
    have HGI := Lib.hid hgi
    clear GR HF3 hg3 hf4 hgi
    go_wp2
    go_loopw [4] (OnRel u4 fs.length) (fun i _ => fs.length - (intOf i).toNat)
    case atStart => exact ⟨0, Nat.zero_le _, rfl, Fr.refl _ _⟩
    case round =>
      obtain ⟨i, hi, rfl, hfr⟩ := hrel
      by_cases his : i < fs.length
      · go_wp2
        go_loopw [5] (OnRel u4 i) (fun k _ => i - (intOf k).toNat)
        case atStart => exact ⟨0, Nat.zero_le _, rfl, hfr⟩
        case round =>
          rename_i wr2
          obtain ⟨k, hk, rfl, hfr2⟩ := hrel
          by_cases hks : k < i
          · obtain ⟨bk, c, hfm, hml, hAi⟩ := (HGI.out.fr hfr2 (Off.none _ _) (fun _ _ h => h)).at his
            obtain ⟨bk', c', hfm', hml', hAk⟩ := (HGI.out.fr hfr2 (Off.none _ _) (fun _ _ h => h)).at (show k < fs.length by omega)
            cases hfm
            cases hfm'
            unfold maxLen at hml
            obtain ⟨c0, c1, c2, c3, c7⟩ := hAi.cells
            obtain ⟨d0, d1, d2, d3, d7⟩ := hAk.cells
            have hne := run_eql_ori fs[i].o fs[k].o
            have hapi := Lib.hid (fun h1 h2 => hap.out.at hks his h1 h2)
            have hfsl : (fs.length : Int) ≤ 8 := by omega
            clear hAi hAk hml'
            generalize fs[i] = gi at *
            generalize fs[k] = gk at *
            cases e1 : gi.o.eqB gk.o
            · rw [e1] at hne
              go_wp2
              go_quiet (fail)
              go_wp2
              go_roundw
              case rel => exact ⟨k + 1, by omega, by go_num, Fr.drewN _ hfr2⟩
              case measure => simp [intOf]; omega
            · rw [e1] at hne
              cases e2 : gi.proxy == gk.proxy
              · go_wp2
                go_quiet (fail)
                go_wp2
                go_roundw
                case rel => exact ⟨k + 1, by omega, by go_num, Fr.drewN _ hfr2⟩
                case measure => simp [intOf]; omega
              · have hr1 := hapi.out e1 (by simpa using e2)
                have hr2 : (gi.a.realm.toList == gk.a.realm.toList) = false := by
                  cases hq : (gi.a.realm.toList == gk.a.realm.toList)
                  · rfl
                  · exact absurd (toList_inj.1 (by simpa using hq)) hr1
                go_wp2
                go_quiet (fail)
                go_wp2
                go_roundw
                case rel => exact ⟨k + 1, by omega, by go_num, Fr.drewN _ hfr2⟩
                case measure => simp [intOf]; omega
          · go_wp2
            go_roundw
            case rel => exact ⟨i + 1, by omega, by go_num, hfr2⟩
            case measure => simp [intOf]; omega
      · have hg5 := HG4.out.frN hfr
        have HF5 := Lib.hid (HF4.out.trans hfr)
        have hgi5 := HGI.out.fr hfr (Off.none _ _) (fun _ _ h => h)
        obtain ⟨rs, hrows, hb, hs⟩ := hg5
        obtain ⟨a0, c0, hform⟩ := hrows.form
        rw [List.length_map, hb.len] at hform
        subst hform
        rcases List.eq_nil_or_concat gs with hnil | ⟨l, g, hcon⟩
        · have hgl : gs.length = 0 := by rw [hnil]; rfl
          rw [hgl]
          have h8 : (fs.length : Int) ≤ 8 := by omega
          clear hrows hb hs hgi5
          go_wp2
          go_quiet (fail)
          go_wp2
          go_ret
          exact ⟨rfl, (Fr.drewN _ HF5.out).none_below⟩
        · rw [List.concat_eq_append] at hcon
          obtain ⟨l', hl'⟩ := hlast.out l g hcon
          have hgl : gs.length = l.length + 1 := by rw [hcon]; simp
          have hfl : fs.length = l'.length + 1 := by rw [hl']; simp
          obtain ⟨s, hri'⟩ : ∃ r, rs[l.length]? = some r := ⟨_, List.getElem?_eq_getElem (by rw [hb.len]; omega)⟩
          obtain ⟨g', hg', hr'⟩ := hb.get hri'
          have hge : g' = g := by rw [hcon, List.getElem?_append_right (Nat.le_refl _)] at hg'; simpa using hg'.symm
          subst hge
          obtain ⟨bk, c, hfm, hml, r, _, hr, hx⟩ := hgi5.at (show l'.length < fs.length by omega)
          have hfe : fs[l'.length]'(by omega) = g' := by simp [hl']
          rw [hfe] at hr
          cases hfm
          rcases hrows.2 with ⟨_, _, _, e, _⟩ | ⟨b0, o0, cc, e1, q1, q2, q3, q4⟩
          · simp at e; rw [e] at hri'; simp at hri'
          rw [List.length_map, hb.len] at e1
          cases e1
          have hy := q4 l.length s.cells (by rw [List.getElem?_map, hri']; rfl)
          have hgm : g' ∈ gs := by rw [hcon]; simp
          have hl6 := HFEW.out g' hgm
          have SG := Lib.hid (fun U (hU : Fr noB wr U) => sameGrant_same r s g' U (hr.mono (fun _ _ h => h.rd.frNone hU)) (hr'.mono (fun _ _ h => h.frNone hU)) (by omega) (by omega))
          unfold GrantOf.cells at SG
          have hbk : bk < wr.heap.size := World.block_lt_of_cell? _ _ (hx 0 _ rfl)
          have HS := Lib.hid (show ∀ U, Fr noB wr U → (U.cell? ⟨bk, l'.length * 16, none⟩ = some (.bool r.o.secure) ∧ U.cell? ⟨bk, l'.length * 16 + 1, none⟩ = some (.string r.o.host) ∧ U.cell? ⟨bk, l'.length * 16 + 2, none⟩ = some (.int .i64 r.o.port) ∧ U.cell? ⟨bk, l'.length * 16 + 3, none⟩ = some (.bool r.proxy) ∧ U.cell? ⟨bk, l'.length * 16 + 4, none⟩ = some (.string r.user) ∧ U.cell? ⟨bk, l'.length * 16 + 5, none⟩ = some (.string r.pass) ∧ U.cell? ⟨bk, l'.length * 16 + 6, none⟩ = some (.int .i64 r.a.scheme) ∧ U.cell? ⟨bk, l'.length * 16 + 7, none⟩ = some (.string r.a.realm) ∧ U.cell? ⟨bk, l'.length * 16 + 8, none⟩ = some (.string r.a.nonce) ∧ U.cell? ⟨bk, l'.length * 16 + 9, none⟩ = some (.string r.a.opaq) ∧ U.cell? ⟨bk, l'.length * 16 + 10, none⟩ = some (.bool r.a.sess) ∧ U.cell? ⟨bk, l'.length * 16 + 11, none⟩ = some (.string r.a.qop) ∧ U.cell? ⟨bk, l'.length * 16 + 12, none⟩ = some (.bool r.a.stale) ∧ U.cell? ⟨bk, l'.length * 16 + 13, none⟩ = some (r.a.dom) ∧ U.cell? ⟨bk, l'.length * 16 + 14, none⟩ = some (.int .i64 r.count) ∧ U.cell? ⟨bk, l'.length * 16 + 15, none⟩ = some (r.paths) ∧ U.cell? ⟨b0, o0 + l.length * 16, none⟩ = some (.bool s.o.secure) ∧ U.cell? ⟨b0, o0 + l.length * 16 + 1, none⟩ = some (.string s.o.host) ∧ U.cell? ⟨b0, o0 + l.length * 16 + 2, none⟩ = some (.int .i64 s.o.port) ∧ U.cell? ⟨b0, o0 + l.length * 16 + 3, none⟩ = some (.bool s.proxy) ∧ U.cell? ⟨b0, o0 + l.length * 16 + 4, none⟩ = some (.string s.user) ∧ U.cell? ⟨b0, o0 + l.length * 16 + 5, none⟩ = some (.string s.pass) ∧ U.cell? ⟨b0, o0 + l.length * 16 + 6, none⟩ = some (.int .i64 s.a.scheme) ∧ U.cell? ⟨b0, o0 + l.length * 16 + 7, none⟩ = some (.string s.a.realm) ∧ U.cell? ⟨b0, o0 + l.length * 16 + 8, none⟩ = some (.string s.a.nonce) ∧ U.cell? ⟨b0, o0 + l.length * 16 + 9, none⟩ = some (.string s.a.opaq) ∧ U.cell? ⟨b0, o0 + l.length * 16 + 10, none⟩ = some (.bool s.a.sess) ∧ U.cell? ⟨b0, o0 + l.length * 16 + 11, none⟩ = some (.string s.a.qop) ∧ U.cell? ⟨b0, o0 + l.length * 16 + 12, none⟩ = some (.bool s.a.stale) ∧ U.cell? ⟨b0, o0 + l.length * 16 + 13, none⟩ = some (s.a.dom) ∧ U.cell? ⟨b0, o0 + l.length * 16 + 14, none⟩ = some (.int .i64 s.count) ∧ U.cell? ⟨b0, o0 + l.length * 16 + 15, none⟩ = some (s.paths)) from fun U hU => by
            have X : ∀ (j : Nat) u, r.cells[j]? = some u → U.cell? ⟨bk, l'.length * 16 + j, none⟩ = some u := fun j u hu => (hU.cell (p := ⟨bk, l'.length * 16 + j, none⟩) hbk (fun h => h)).trans (hx j u hu)
            have Y : ∀ (j : Nat) u, s.cells[j]? = some u → U.cell? ⟨b0, o0 + l.length * 16 + j, none⟩ = some u := fun j u hu => (hU.cell (p := ⟨b0, o0 + l.length * 16 + j, none⟩) q3 (fun h => h)).trans (hy j u hu)
            exact ⟨X 0 _ rfl, X 1 _ rfl, X 2 _ rfl, X 3 _ rfl, X 4 _ rfl, X 5 _ rfl, X 6 _ rfl, X 7 _ rfl, X 8 _ rfl, X 9 _ rfl, X 10 _ rfl, X 11 _ rfl, X 12 _ rfl, X 13 _ rfl, X 14 _ rfl, X 15 _ rfl, Y 0 _ rfl, Y 1 _ rfl, Y 2 _ rfl, Y 3 _ rfl, Y 4 _ rfl, Y 5 _ rfl, Y 6 _ rfl, Y 7 _ rfl, Y 8 _ rfl, Y 9 _ rfl, Y 10 _ rfl, Y 11 _ rfl, Y 12 _ rfl, Y 13 _ rfl, Y 14 _ rfl, Y 15 _ rfl⟩)
          have h8 : ((l'.length : Int) + 1) ≤ 8 := by omega
          have h9 : ((l.length : Nat) : Int) ≤ 30 := by omega
          rw [hgl, hfl]
          clear hrows hb hs hgi5 hx hy q4 hr hr' hg' hri' hcon hl' hfe hgm hl6
          have hA : (0 : Int) ≤ (l'.length : Int) := by omega
          have hB : (l'.length : Int) < (l'.length : Int) + 1 := by omega
          have hA2 : (0 : Int) ≤ (l.length : Int) := by omega
          have hB2 : (l.length : Int) < (l.length : Int) + 1 := by omega
          have hW : IntKind.i64.wrap (l'.length : Int) = (l'.length : Int) := IntWalk.i64_in _ (by omega)
          have hW2 : IntKind.i64.wrap (l.length : Int) = (l.length : Int) := IntWalk.i64_in _ (by omega)
          have hC : (l'.length : Int) + 1 - 1 = (l'.length : Int) := by omega
          have hC2 : (l.length : Int) + 1 - 1 = (l.length : Int) := by omega
          go_wp2_with fail
          go_region_held3 (fun U => U.cell? ⟨bk, l'.length * 16, none⟩ = some (.bool r.o.secure) ∧ U.cell? ⟨bk, l'.length * 16 + 1, none⟩ = some (.string r.o.host) ∧ U.cell? ⟨bk, l'.length * 16 + 2, none⟩ = some (.int .i64 r.o.port) ∧ U.cell? ⟨bk, l'.length * 16 + 3, none⟩ = some (.bool r.proxy) ∧ U.cell? ⟨bk, l'.length * 16 + 4, none⟩ = some (.string r.user) ∧ U.cell? ⟨bk, l'.length * 16 + 5, none⟩ = some (.string r.pass) ∧ U.cell? ⟨bk, l'.length * 16 + 6, none⟩ = some (.int .i64 r.a.scheme) ∧ U.cell? ⟨bk, l'.length * 16 + 7, none⟩ = some (.string r.a.realm) ∧ U.cell? ⟨bk, l'.length * 16 + 8, none⟩ = some (.string r.a.nonce) ∧ U.cell? ⟨bk, l'.length * 16 + 9, none⟩ = some (.string r.a.opaq) ∧ U.cell? ⟨bk, l'.length * 16 + 10, none⟩ = some (.bool r.a.sess) ∧ U.cell? ⟨bk, l'.length * 16 + 11, none⟩ = some (.string r.a.qop) ∧ U.cell? ⟨bk, l'.length * 16 + 12, none⟩ = some (.bool r.a.stale) ∧ U.cell? ⟨bk, l'.length * 16 + 13, none⟩ = some (r.a.dom) ∧ U.cell? ⟨bk, l'.length * 16 + 14, none⟩ = some (.int .i64 r.count) ∧ U.cell? ⟨bk, l'.length * 16 + 15, none⟩ = some (r.paths) ∧ U.cell? ⟨b0, o0 + l.length * 16, none⟩ = some (.bool s.o.secure) ∧ U.cell? ⟨b0, o0 + l.length * 16 + 1, none⟩ = some (.string s.o.host) ∧ U.cell? ⟨b0, o0 + l.length * 16 + 2, none⟩ = some (.int .i64 s.o.port) ∧ U.cell? ⟨b0, o0 + l.length * 16 + 3, none⟩ = some (.bool s.proxy) ∧ U.cell? ⟨b0, o0 + l.length * 16 + 4, none⟩ = some (.string s.user) ∧ U.cell? ⟨b0, o0 + l.length * 16 + 5, none⟩ = some (.string s.pass) ∧ U.cell? ⟨b0, o0 + l.length * 16 + 6, none⟩ = some (.int .i64 s.a.scheme) ∧ U.cell? ⟨b0, o0 + l.length * 16 + 7, none⟩ = some (.string s.a.realm) ∧ U.cell? ⟨b0, o0 + l.length * 16 + 8, none⟩ = some (.string s.a.nonce) ∧ U.cell? ⟨b0, o0 + l.length * 16 + 9, none⟩ = some (.string s.a.opaq) ∧ U.cell? ⟨b0, o0 + l.length * 16 + 10, none⟩ = some (.bool s.a.sess) ∧ U.cell? ⟨b0, o0 + l.length * 16 + 11, none⟩ = some (.string s.a.qop) ∧ U.cell? ⟨b0, o0 + l.length * 16 + 12, none⟩ = some (.bool s.a.stale) ∧ U.cell? ⟨b0, o0 + l.length * 16 + 13, none⟩ = some (s.a.dom) ∧ U.cell? ⟨b0, o0 + l.length * 16 + 14, none⟩ = some (.int .i64 s.count) ∧ U.cell? ⟨b0, o0 + l.length * 16 + 15, none⟩ = some (s.paths)) ((refine HS.out _ ?_; first | exact Fr.refl _ _ | exact Fr.drew (Fr.refl _ _) | exact Fr.trans (Fr.drew (Fr.refl _ _)) hf6 | exact Fr.trans (Fr.refl _ _) hf6)) (first | (go_at_call 30; refine (SG.out _ ?_).mono ?_; (first | exact Fr.refl _ _ | exact Fr.drew (Fr.refl _ _)); rintro e w6 ⟨rfl, hf6⟩))
          all_goals
            have HF6 := Lib.hid (HF5.out.trans (Fr.trans (Fr.drew (Fr.refl _ _)) hf6))
            clear HS SG
            go_wp2
            go_ret
            exact ⟨rfl, HF6.out.none_below⟩
end Go.Proofs.Yteffnckhapmpgaa
