/- The law BankApart. -/
import Derived.Test.YteffnckhapmpgaaWaits
import Derived.Test.YteffnckhapmpgaaFarthest
import Derived.Test.YteffnckhapmpgaaSameG
namespace Go.Proofs.Yteffnckhapmpgaa
open Go.RowKit

def ApRel (base : Nat) (U : World) (bc : Nat) (S : Nat → Prop) (n : Nat) (i : Value) (wr : World) : Prop :=
  ∃ (k : Nat) (gv wv : Value) (gs : List (GrantOf Texts)) (ws : List (WaitOf Texts)), k ≤ n ∧ i = .int .i64 k ∧ BankIs base wr bc gv wv gs ws ∧ gs.length ≤ 8 ∧ Fr S U wr ∧ ∀ j, bankF bc gv wv j → S j ∨ U.heap.size ≤ j
/-- grants of the call's own are slices that EqualFunc compares -/
theorem GrantsIn.rows {base : Nat} {w : World} {v : Value} {gs : List (GrantOf Texts)} (h : GrantsIn base w v gs) : ∃ rs : List (GrantOf Value), RowsAt 16 w v (rs.map GrantOf.cells) ∧ Both (GrantOf.Reads (StrsAt w)) rs gs ∧ ∀ g ∈ gs, g.a.dom.length ≤ 9223372036854775807 ∧ g.paths.length ≤ 9223372036854775807 := by
  obtain ⟨rs, h1, h2⟩ := h
  refine ⟨rs, h1.at, h2.mono (fun _ _ h => h.mono (fun _ _ h => h.rd)), fun g hg => ?_⟩
  obtain ⟨k, hk⟩ := List.getElem?_of_mem hg
  obtain ⟨r, hr⟩ : ∃ r, rs[k]? = some r := ⟨_, List.getElem?_eq_getElem (by rw [h2.len]; exact (List.getElem?_eq_some_iff.1 hk).1)⟩
  obtain ⟨g', hg', hrd⟩ := h2.get hr
  rw [hk] at hg'
  cases hg'
  have := hrd.2.2.2.2.2.2.few
  have := hrd.2.2.2.2.1.2.2.2.2.2.2.2.few
  omega
theorem EqualG_in {base base' : Nat} {w : World} {v v' : Value} {gs : List (GrantOf Texts)} (h : GrantsIn base w v gs) (h' : GrantsIn base' w v' gs) :
    Calls Try.prog 41 #[v, v', .func (.func 30) #[] #[]] w fun e w' => e = .returned (.bool true) ∧ Fr noB w w' := by
  obtain ⟨rs, h1, h2, h3⟩ := h.rows
  obtain ⟨rs', h1', h2', _⟩ := h'.rows
  exact EqualG_same v v' rs rs' gs w h1 h1' h2 h2' h3

set_option maxHeartbeats 4000000 in
set_option maxRecDepth 100000 in
theorem BankApart_walk (v0 : Value) (gs : List (GrantOf Texts)) (v1 : Value) (ms : List (GrantOf Texts)) (w : World) (st0 : GrantsFit w v0 gs) (st1 : GrantsFit w v1 ms) :
    Calls Try.prog 10 #[v0, v1] w fun e w' => e = .returned (.bool true) ∧ Below w.heap.size w w' := by
  have hg0 := st0.1
  have hm0 := st1.1
  clear st0 st1
  go_enter Try.func10, Try.ntmps10
  go_wp2_with fail
  refine (banked_any w).mono ?_
  rintro e u1 ⟨rfl, hf1⟩
  have hg1 := hg0.frN hf1
  have hm1 := hm0.frN hf1
  have HELD := Lib.hid (held_any v0 gs u1 hg1)
  go_wp2_with fail
  refine HELD.out.mono ?_
  rintro e u2 ⟨rfl, hf2⟩
  clear HELD
  have hg2 := hg1.frN hf2
  have hm2 := hm1.frN hf2
  have hF2 := hf1.trans hf2
  clear hg1 hf2 hf1 hg0 hm0 hm1
  cases hh : heldB gs
  · go_wp2
    go_ret
    exact ⟨rfl, hF2.none_below⟩
  · have HELD2 := Lib.hid (held_any v1 ms u2 hm2)
    go_wp2_with fail
    refine HELD2.out.mono ?_
    rintro e u3 ⟨rfl, hf3⟩
    clear HELD2
    have hg3 := hg2.frN hf3
    have hm3 := hm2.frN hf3
    have hF3 := hF2.trans hf3
    clear hg2 hm2 hf3 hF2
    cases hh2 : heldB ms
    · go_wp2
      go_ret
      exact ⟨rfl, hF3.none_below⟩
    · have FILL := Lib.hid (filled_any v0 gs u3 hg3 hh)
      have HF3 := Lib.hid hF3
      have HH2 := Lib.hid hh2
      clear hF3 hh hh2 hg3
      go_wp2_with fail
      refine FILL.out.mono ?_
      intro e u4 hp
      obtain ⟨b, gv, wv, rfl, hB, hf4⟩ := hp
      have HG4 := Lib.hid (HF3.out.trans hf4)
      have H34 := Lib.hid hf4
      have hm4 := Lib.hid (hm3.frN hf4)
      have hM := Lib.hid hm3
      have hlen := filledL_len gs
      generalize filledL gs = fs at *
      have COPY := Lib.hid (Copy_any u3.heap.size u4 b gv wv fs [] hB (by omega) (by simp))
      have HB4 := Lib.hid hB
      clear FILL hB hf4 hm3
      go_wp2_with fail
      refine COPY.out.mono ?_
      intro e u5 hp
      obtain ⟨bc, gc, wc, rfl, hC, hf5, hfoot⟩ := hp
      have HB5 := Lib.hid (HB4.out.frN hf5)
      have GR := Lib.hid (Grants_any u3.heap.size u5 b gv wv fs [] HB5.out (by omega))
      have hb4 := HB4.out.lt
      clear COPY
      go_wp2_with fail
      refine GR.out.mono ?_
      intro e u6 hp
      obtain ⟨vw, rfl, ⟨hgw, hnw⟩, hf6⟩ := hp
      have HC6 := Lib.hid (hC.frN hf6)
      have GR2 := Lib.hid (Grants_any u3.heap.size u6 bc gc wc fs [] HC6.out (by omega))
      clear GR
      go_wp2_with fail
      refine GR2.out.mono ?_
      intro e u7 hp
      obtain ⟨vc, rfl, ⟨hgc, hnc⟩, hf7⟩ := hp
      have hgw7 := hgw.fr hf7 (Off.none _ _) (fun _ _ h => h)
      have EQ := Lib.hid (EqualG_in hgc hgw7)
      clear GR2
      go_wp2_with fail
      refine EQ.out.mono ?_
      rintro e u8 ⟨rfl, hf8⟩
      have hs5 := hf5.size
      have hs6 := hf6.size
      have hs78 := (hf7.trans hf8).size
      have HB8 := Lib.hid ((HB5.out.frN hf6).frN (hf7.trans hf8))
      have HC8 := Lib.hid (HC6.out.frN (hf7.trans hf8))
      have HGW := Lib.hid (hgw7.fr hf8 (Off.none _ _) (fun _ _ h => h))
      have HM8 := Lib.hid (hm4.out.frN (((hf5.trans hf6).trans hf7).trans hf8))
      have HF8 := Lib.hid (HG4.out.trans (((hf5.trans hf6).trans hf7).trans hf8))
      have H38 := Lib.hid (H34.out.trans (((hf5.trans hf6).trans hf7).trans hf8))
      have hup : ∀ k, bankF bc gc wc k → k < u5.heap.size := fun k hk => by
        rcases hk with rfl | hk | hk
        · exact hC.lt
        · obtain ⟨c, e⟩ := hC.gkind hk; exact lt_of_some e
        · obtain ⟨c, e⟩ := hC.wkind hk; exact lt_of_some e
      have hbup : ∀ k, bankF b gv wv k → k < u4.heap.size := fun k hk => by
        rcases hk with rfl | hk | hk
        · exact HB4.out.lt
        · obtain ⟨c, e⟩ := HB4.out.gkind hk; exact lt_of_some e
        · obtain ⟨c, e⟩ := HB4.out.wkind hk; exact lt_of_some e
      have hwb : ∀ k, vw.ownBlock = some k → ¬ bankF bc gc wc k := fun k hk hb => by have := hnw k hk; have := hup k hb; omega
      have hnbF : ∀ k, bankF b gv wv k → ¬ bankF bc gc wc k := fun k hk hb => by have := hbup k hk; have := hfoot k hb; omega
      have HUP := Lib.hid (And.intro hup (And.intro hwb hnbF))
      obtain ⟨rs, hrows, hbm, hsz⟩ := HM8.out
      have hml := hbm.len
      obtain ⟨am, cm, hform⟩ := hrows.form
      rw [List.length_map, hml] at hform
      subst hform
      obtain ⟨hm30, hmfew⟩ := heldB_few HH2.out
      have HROWS := Lib.hid (And.intro hrows (And.intro hbm hmfew))
      clear hup hwb hnbF hbup hfoot hC hgw hgc hnc hgw7 hrows hbm hsz hmfew EQ hm4
      go_wp2
      go_loopw [8] (ApRel u3.heap.size u8 bc (bankF bc gc wc) ms.length) (fun i _ => ms.length - (intOf i).toNat)
      case atStart => exact ⟨0, gc, wc, fs, [], Nat.zero_le _, rfl, HC8.out, hlen, Fr.refl _ _, fun _ h => Or.inl h⟩
      case round =>
        obtain ⟨k, gv', wv', gs', ws', hk, rfl, hBc, hl8, hfr, hft⟩ := hrel
        by_cases hks : k < ms.length
        · have hrw := HROWS.out.1
          have hFu : Fr noB u3 wr := by
            exact H38.out.step hfr (fun j hj hb => by
              rcases hb with rfl | hb | hb
              · have := HC8.out.low; omega
              · have := HC8.out.glow hb; omega
              · have := HC8.out.wlow hb; omega)
          obtain ⟨rs2, hrows2, hb2, _⟩ := hM.out
          have hl := hb2.len
          obtain ⟨r, hri⟩ : ∃ r, rs2[k]? = some r := ⟨_, List.getElem?_eq_getElem (by omega)⟩
          obtain ⟨g, hg, hr⟩ := hb2.get hri
          rcases hrows2.2 with ⟨_, _, e1, e2, _⟩ | ⟨bk, o, c, e1, q1, q2, q3, q4⟩
          · simp at e2; rw [e2] at hl; simp at hl; omega
          · rw [List.length_map, hl] at e1
            cases e1
            have hcell0 := q4 k r.cells (by rw [List.getElem?_map, hri]; rfl)
            have hcell : ∀ (i : Nat) u, r.cells[i]? = some u → wr.cell? ⟨bk, o + k * 16 + i, none⟩ = some u := fun i u hu => (hFu.cell (p := ⟨bk, o + k * 16 + i, none⟩) q3 (fun h => h)).trans (hcell0 i u hu)
            unfold maxLen at q2
            rw [List.length_map, hl] at q1
            obtain ⟨x, hx⟩ : ∃ x, x = r.cells := ⟨_, rfl⟩
            have hxk : x.length = 16 := by rw [hx]; rfl
            have hxi : (Try.prog.info? 48).map (·.size) = some x.length := by rw [hxk]; kernel_rfl
            have hput := Put_any u3.heap.size wr bc gv' wv' gs' ws' r g hBc (hr.in hFu (Nat.le_refl _) (HROWS.out.2.2 g (List.mem_of_getElem? hg))) (by omega)
            rw [← hx] at hcell hput
            have HPUT := Lib.hid hput
            have HC0 := Lib.hid hcell0
            have HFT := Lib.hid hft
            have HQ3 := Lib.hid q3
            have HX := Lib.hid hx
            clear hx hput q4 hri hg hr hcell0 hft hb2 hrows2 hrw
            go_wp2_with (first | ((with_reducible refine wpList_at ⟨some 44, _, _, _, _, _⟩ ?_); go_must (refine wpList_load_mid rfl 48 (.tmp 43) rfl bk (o + k * 16) rfl x _ hcell Try.underlying48 rfl hxi ?_)) | fail)
            refine HPUT.out.mono ?_
            intro e w2 hp
            obtain ⟨rfl, gv2, wv2, hB2, hf2, hfo2⟩ := hp
            have hfr2 : Fr (bankF bc gc wc) u8 w2 := hfr.step hf2 (fun j hj hb => by
              rcases HFT.out j hb with h | h
              · exact h
              · omega)
            have hft2 : ∀ j, bankF bc gv2 wv2 j → bankF bc gc wc j ∨ u8.heap.size ≤ j := fun j hb => by
              rcases hfo2 j hb with h | h
              · exact HFT.out j h
              · exact Or.inr (by have := hfr.size; omega)
            have hFu2 : Fr noB u3 w2 := H38.out.step hfr2 (fun j hj hb => by
              rcases hb with rfl | hb | hb
              · have := HC8.out.low; omega
              · have := HC8.out.glow hb; omega
              · have := HC8.out.wlow hb; omega)
            have hcell2 : ∀ (i : Nat) u, r.o.cells[i]? = some u → w2.cell? ⟨bk, o + k * 16 + i, none⟩ = some u := fun i u hu => (hFu2.cell (p := ⟨bk, o + k * 16 + i, none⟩) HQ3.out (fun h => h)).trans (HC0.out i u (by
              have e : r.cells = r.o.cells ++ r.cells.drop 3 := rfl
              rw [e, List.getElem?_append_left (List.getElem?_eq_some_iff.1 hu).1]; exact hu))
            have hl2 := putL_len gs' g
            obtain ⟨ps, hps⟩ : ∃ ps, ps = putL gs' g := ⟨_, rfl⟩
            rw [← hps] at hB2 hl2
            obtain ⟨z, hz⟩ : ∃ z, z = r.o.cells := ⟨_, rfl⟩
            have hzk : (Try.prog.info? 38).map (·.size) = some z.length := by rw [hz]; kernel_rfl
            have hsw := Sweep_any u3.heap.size w2 bc gv2 wv2 ps ws' r.o hB2 (by omega)
            rw [← hz] at hcell2 hsw
            have HSW := Lib.hid hsw
            clear hsw hps hz HC0 hfo2 hf2 hcell HPUT hB2 hxk hxi
            go_wp2_with (first | ((with_reducible refine wpList_at ⟨some 51, _, _, _, _, _⟩ ?_); go_must (refine wpList_load_mid rfl 38 (.tmp 50) rfl bk (o + k * 16) rfl z _ hcell2 Try.underlying38 rfl hzk ?_)) | fail)
            refine HSW.out.mono ?_
            intro e w3 hp
            obtain ⟨rfl, gv3, wv3, hB3, hf3, hfo3⟩ := hp
            have hfr3 : Fr (bankF bc gc wc) u8 w3 := hfr2.step hf3 (fun j hj hb => by
              rcases hft2 j hb with h | h
              · exact h
              · omega)
            have hft3 : ∀ j, bankF bc gv3 wv3 j → bankF bc gc wc j ∨ u8.heap.size ≤ j := fun j hb => by
              rcases hfo3 j hb with h | h
              · exact hft2 j h
              · exact Or.inr (by have := hfr2.size; omega)
            have hl3 : (ps.filter (fun g => !ofO r.o g)).length ≤ 8 := Nat.le_trans (List.length_filter_le _ _) hl2
            have H3 := Lib.hid (And.intro hB3 (And.intro hl3 (And.intro hfr3 hft3)))
            clear hB3 hl3 hfr3 hft3 hf3 hfo3 HSW hcell2
            go_wp2
            go_roundw
            case rel => exact ⟨k + 1, gv3, wv3, _, _, by omega, by go_num, H3.out.1, H3.out.2.1, H3.out.2.2.1, H3.out.2.2.2⟩
            case measure => simp [intOf]; omega
        · have hBr := HB8.out.fr hfr HC8.out.off (HUP.out.2.2 b (Or.inl rfl)) (fun j hj => HUP.out.2.2 j (Or.inr (Or.inl hj))) (fun j hj => HUP.out.2.2 j (Or.inr (Or.inr hj)))
          have hwr := HGW.out.fr hfr HC8.out.off HUP.out.2.1
          have hFr : Fr noB w wr := HF8.out.step hfr (fun j hj hb => by
            rcases hb with rfl | hb | hb
            · have := HC8.out.low; have := HF3.out.size; omega
            · have := HC8.out.glow hb; have := HF3.out.size; omega
            · have := HC8.out.wlow hb; have := HF3.out.size; omega)
          have GR := Lib.hid (Grants_any u3.heap.size wr b gv wv fs [] hBr (by omega))
          go_wp2_with fail
          refine GR.out.mono ?_
          intro e u9 hp
          obtain ⟨v9, rfl, ⟨hg9, _⟩, hf9⟩ := hp
          have EQ := Lib.hid (EqualG_in hg9 (hwr.fr hf9 (Off.none _ _) (fun _ _ h => h)))
          go_wp2_with fail
          refine EQ.out.mono ?_
          rintro e u10 ⟨rfl, hf10⟩
          go_wp2
          go_ret
          exact ⟨rfl, ((hFr.trans hf9).trans hf10).none_below⟩
end Go.Proofs.Yteffnckhapmpgaa
