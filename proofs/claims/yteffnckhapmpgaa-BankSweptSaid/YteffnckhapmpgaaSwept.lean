/- The law BankSwept. -/
import Derived.Test.YteffnckhapmpgaaApart
import Derived.Test.YteffnckhapmpgaaTakes
namespace Go.Proofs.Yteffnckhapmpgaa
open Go.RowKit

theorem findL_neg {α : Type} (f : α → Int) : ∀ (l : List α) (i : Nat) (acc : Int × Int), (∀ x ∈ l, f x < 0) → findL f l i acc = acc
  | [], _, _, _ => rfl
  | a :: l, i, acc, h => by
    have := h a (by simp)
    rw [findL, if_neg (by omega), findL_neg f l (i + 1) acc (fun x hx => h x (by simp [hx]))]
theorem find_swept (gs : List (GrantOf Texts)) (o : Ori) (p : Bool) (path : ByteArray) : findG (gs.filter (fun g => !ofO o g)) o p path = none := by
  unfold findG findI
  rw [findL_neg]
  · rfl
  · intro g hg
    have h2 := (List.mem_filter.1 hg).2
    unfold ofO at h2
    unfold reachG reachI
    have h3 : g.o.eqB o = false := by simpa using h2
    rw [h3]
    simp
theorem take_swept (ws : List (WaitOf Texts)) (o : Ori) (p : Bool) : takeL o p (ws.filter (fun g => !ofOW o g)) = (ws.filter (fun g => !ofOW o g), none) := by
  refine takeL_none ?_
  rw [List.any_eq_false]
  intro g hg hf
  have h2 := (List.mem_filter.1 hg).2
  unfold ofOW at h2
  unfold forW at hf
  rw [Bool.and_eq_true] at hf
  rw [hf.1] at h2
  cases h2
set_option maxHeartbeats 1000000 in
set_option maxRecDepth 100000 in
theorem Swept1_any (g : GrantOf Value) (o : Ori) (bo : Nat) (w : World) (ho : w.heap[bo]? = some (.cells #[.bool o.secure, .string o.host, .int .i64 o.port] 38 (0, 0))) :
    Calls Try.prog 45 #[.agg g.cells.toArray, .pointer (some ⟨bo, 0, none⟩)] w fun e w' => e = .returned (.bool (ofC o g.cells)) ∧ Fr noB w w' := by
  have hC := Lib.hid (show ofC o g.cells = g.o.eqB o from rfl)
  have heq := run_eql_ori g.o o
  rw [hC.out]
  unfold GrantOf.cells
  have hfa : Fr noB w _ := (Fr.refl noB w).alloc (.cells #[.bool g.o.secure, .string g.o.host, .int .i64 g.o.port, .bool g.proxy, .string g.user, .string g.pass, .int .i64 g.a.scheme, .string g.a.realm, .string g.a.nonce, .string g.a.opaq, .bool g.a.sess, .string g.a.qop, .bool g.a.stale, g.a.dom, .int .i64 g.count, g.paths] 48)
  have ho2 := Lib.hid (hfa.keep ho (fun h => h))
  clear hC ho
  go_enter Try.func45, Try.ntmps45
  go_wp2_with (first | ((with_reducible refine wpList_at ⟨some 6, _, _, _, _, _⟩ ?_); go_must (refine wpList_load_row rfl 38 (.tmp 1) rfl bo rfl _ _ (0, 0) _ ho2.out Try.underlying38 rfl (by kernel_rfl) ?_)) | fail)
  go_ret
  exact ⟨rfl, hfa⟩
theorem Swept1_answers (S : Nat → Prop) (w : World) (o : Ori) (bo : Nat) (rs : List (GrantOf Value))
    (ho : w.heap[bo]? = some (.cells #[.bool o.secure, .string o.host, .int .i64 o.port] 38 (0, 0))) (h1 : ¬ S bo) :
    AnswersK S w 45 #[.pointer (some ⟨bo, 0, none⟩)] (ofC o) (rs.map GrantOf.cells) := by
  intro x hx u hu
  obtain ⟨r, hr0, rfl⟩ := List.mem_map.1 hx
  exact Swept1_any r o bo u (hu.keep ho h1)

def SwRel (base b : Nat) (fs : List (GrantOf Texts)) (U : World) (n : Nat) (i : Value) (wr : World) : Prop :=
  ∃ (k : Nat) (gv wv : Value) (ws : List (WaitOf Texts)), k ≤ n ∧ i = .int .i64 k ∧ BankIs base wr b gv wv fs ws ∧ ws.length ≤ 8 ∧ Fr noB U wr
set_option maxHeartbeats 8000000 in
set_option maxRecDepth 100000 in
theorem BankSwept_walk (v0 : Value) (gs : List (GrantOf Texts)) (o : Ori) (path : ByteArray) (hz : path.size ≤ 140737488351232) (w : World) (st0 : GrantsFit w v0 gs) (_ : OriFit o) :
    Calls Try.prog 11 #[v0, .agg o.cells.toArray, .string path] w fun e w' => e = .returned (.bool true) ∧ Below w.heap.size w w' := by
  have hg0 := st0.1
  clear st0
  unfold Ori.cells
  have hf0 : Fr noB w (w.alloc (.cells #[.bool o.secure, .string o.host, .int .i64 o.port] 38)) := (Fr.refl noB w).alloc _
  have hbo : (w.alloc (.cells #[.bool o.secure, .string o.host, .int .i64 o.port] 38)).heap[w.heap.size]? = some (.cells #[.bool o.secure, .string o.host, .int .i64 o.port] 38 (0, 0)) := new_block _ _
  have HBO := Lib.hid hbo
  clear hbo
  go_enter Try.func11, Try.ntmps11
  go_wp2_with fail
  generalize w.alloc (.cells _ 38) = W at *
  refine (banked_any W).mono ?_
  rintro e u1 ⟨rfl, hf1⟩
  have hF1 := hf0.trans hf1
  have hg1 := hg0.frN hF1
  have hbo1 := Lib.hid (hf1.keep HBO.out (fun h => h))
  have HELD := Lib.hid (held_any v0 gs u1 hg1)
  clear hg0 hf1 hf0 HBO
  go_wp2_with fail
  refine HELD.out.mono ?_
  rintro e u2 ⟨rfl, hf2⟩
  clear HELD
  have hF2 := hF1.trans hf2
  have hg2 := hg1.frN hf2
  have hbo2 := Lib.hid (hf2.keep hbo1.out (fun h => h))
  clear hg1 hbo1 hF1 hf2
  have hpz : (path.size : Int) ≤ 140737488351232 := by omega
  cases hh : heldB gs
  · go_wp2
    go_ret
    exact ⟨rfl, hF2.none_below⟩
  · by_cases hp : (100 : Int) < path.size
    · go_wp2
      go_ret
      exact ⟨rfl, hF2.none_below⟩
    · have FILL := Lib.hid (filled_any v0 gs u2 hg2 hh)
      have HF2 := Lib.hid hF2
      have HG2 := Lib.hid hg2
      have HH := Lib.hid hh
      clear hF2 hh hg2
      go_wp2_with fail
      refine FILL.out.mono ?_
      intro e u3 hp3
      obtain ⟨b, gv3, wv3, rfl, hB3, hf3⟩ := hp3
      have HF3 := Lib.hid hf3
      have hlen := filledL_len gs
      generalize filledL gs = fs at *
      have HB3 := Lib.hid hB3
      obtain ⟨rs4, hrows, hbm, hsz4⟩ := HG2.out
      have hml := hbm.len
      obtain ⟨am, cm, hform⟩ := hrows.form
      rw [List.length_map, hml] at hform
      subst hform
      obtain ⟨hm30, hmfew⟩ := heldB_few HH.out
      have HROWS := Lib.hid (And.intro hrows (And.intro hbm hmfew))
      have hul : w.heap.size < u2.heap.size := lt_of_some hbo2.out
      clear FILL hB3 hf3 hrows hbm hsz4 hmfew
      go_wp2
      go_loopw [8] (SwRel u2.heap.size b fs u2 gs.length) (fun i _ => gs.length - (intOf i).toNat)
      case atStart => exact ⟨0, _, _, [], Nat.zero_le _, rfl, HB3.out, by simp, HF3.out⟩
      case round =>
        obtain ⟨k, gv, wv, ws, hk, rfl, hB, hl8, hfr⟩ := hrel
        by_cases hks : k < gs.length
        · obtain ⟨hrows2, hb2, hmfew⟩ := HROWS.out
          have hl := hb2.len
          obtain ⟨q, hri⟩ : ∃ q, rs4[k]? = some q := ⟨_, List.getElem?_eq_getElem (by omega)⟩
          obtain ⟨h4, hg, hr⟩ := hb2.get hri
          rcases hrows2.2 with ⟨_, _, e1, e2, _⟩ | ⟨bk, oo, c, e1, q1, q2, q3, q4⟩
          · simp at e2; rw [e2] at hl; simp at hl; omega
          · rw [List.length_map, hl] at e1
            cases e1
            have hcell0 := q4 k q.cells (by rw [List.getElem?_map, hri]; rfl)
            have hcell : ∀ (i : Nat) u, q.cells[i]? = some u → wr.cell? ⟨bk, oo + k * 16 + i, none⟩ = some u := fun i u hu => (hfr.cell (p := ⟨bk, oo + k * 16 + i, none⟩) q3 (fun h => h)).trans (hcell0 i u hu)
            unfold maxLen at q2
            rw [List.length_map, hl] at q1
            have hqin := (hr.in hfr (Nat.le_refl _) (hmfew h4 (List.mem_of_getElem? hg)))
            have hfd : Fr noB wr wr.drew := Fr.drew (Fr.refl noB wr)
            have hBd := Lib.hid (hB.frN hfd)
            have HFD := Lib.hid (hfr.trans hfd)
            have hpost := Lib.hid (Asked_any u2.heap.size wr.drew b gv wv fs ws (q.wait ⟨#[]⟩) (h4.wait ⟨#[]⟩) hBd.out ⟨hqin.1, hqin.2.1, rfl, hqin.2.2.2.2.1.mono (fun _ _ h => h.frN hfd)⟩ (by omega))
            have y0 := hcell 0 _ rfl
            have y1 := hcell 1 _ rfl
            have y2 := hcell 2 _ rfl
            have y3 := hcell 3 _ rfl
            have y6 := hcell 6 _ rfl
            have y7 := hcell 7 _ rfl
            have y8 := hcell 8 _ rfl
            have y9 := hcell 9 _ rfl
            have y10 := hcell 10 _ rfl
            have y11 := hcell 11 _ rfl
            have y12 := hcell 12 _ rfl
            have y13 := hcell 13 _ rfl
            clear hcell hcell0 q4 hri hg hr hb2 hrows2 hmfew hqin
            simp only [Nat.add_zero] at y0
            unfold WaitOf.cells GrantOf.wait at hpost
            go_wp2_with fail
            go_still_tail 17, (by kernel_rfl)
            change wpList _ _ _ _ _ wr.drew
            clear y0 y1 y2 y3 y6 y7 y8 y9 y10 y11 y12 y13
            generalize wr.drew = Wd at *
            go_wp2_with fail
            refine hpost.out.mono ?_
            intro e w6 hp6
            obtain ⟨rfl, hp6⟩ := hp6
            have hF6 := hp6.frame hBd.out HFD.out (Nat.le_refl _)
            obtain ⟨gv6, wv6, hB6, _, _⟩ := hp6
            have H6 := Lib.hid (And.intro hB6 (And.intro (askL_len ws (h4.wait ⟨#[]⟩)) hF6))
            clear hpost hB6 hF6
            go_wp2
            go_roundw
            case rel => exact ⟨k + 1, gv6, wv6, _, by omega, by go_num, H6.out.1, H6.out.2.1, H6.out.2.2⟩
            case measure => simp [intOf]; omega
        · have hbor := Lib.hid (hfr.keep hbo2.out (fun h => h))
          have GR := Lib.hid (Grants_any u2.heap.size wr b gv wv fs ws hB (by omega))
          have HBr := Lib.hid hB
          clear hB
          go_wp2_with fail
          refine GR.out.mono ?_
          intro e w4 hp4
          obtain ⟨v9, rfl, ⟨hg4, hn4⟩, hf4⟩ := hp4
          have hF4 := hfr.trans hf4
          have hB4 := HBr.out.frN hf4
          have hbo4 := Lib.hid (hf4.keep hbor.out (fun h => h))
          have SW := Lib.hid (Sweep_any u2.heap.size w4 b gv wv fs ws o hB4 (by omega))
          unfold Ori.cells at SW
          have hup : ∀ j, bankF b gv wv j → j < wr.heap.size := fun j hj => by
            rcases hj with rfl | hj | hj
            · exact HBr.out.lt
            · obtain ⟨cc, e⟩ := HBr.out.gkind hj; exact lt_of_some e
            · obtain ⟨cc, e⟩ := HBr.out.wkind hj; exact lt_of_some e
          have HUP := Lib.hid hup
          have HN4 := Lib.hid hn4
          have HLT4 := Lib.hid (show ∀ k, v9.ownBlock = some k → k < w4.heap.size from by obtain ⟨rs, h1, _⟩ := hg4; exact h1.lt)
          have HG4 := Lib.hid hg4
          have HB4 := Lib.hid hB4
          have HF4 := Lib.hid hF4
          have hs4 := hf4.size
          have hs0 := hfr.size
          clear hup hn4 hg4 hB4 hF4 GR hf4 hbor
          go_wp2_with (first | ((with_reducible refine wpList_at ⟨some 58, _, _, _, _, _⟩ ?_); go_must (refine wpList_load_row rfl 38 (.tmp 4) rfl w.heap.size rfl _ _ (0, 0) _ hbo4.out Try.underlying38 rfl (by kernel_rfl) ?_)) | fail)
          refine SW.out.mono ?_
          intro e w5 hp5
          obtain ⟨rfl, hp5⟩ := hp5
          have hF5 := hp5.frame HB4.out HF4.out (Nat.le_refl _)
          obtain ⟨gv5, wv5, hB5, hf5, hfo5⟩ := hp5
          have hg5 := HG4.out.fr hf5 HB4.out.off (fun j hj hb => by have := HN4.out j hj; have := HUP.out j hb; omega)
          have hs5 := hf5.size
          have hpos : 0 ≤ (fs.length : Int) - ((fs.filter (fun g => !ofO o g)).length : Int) := by
            have := List.length_filter_le (fun g => !ofO o g) fs
            omega
          have hfle := List.length_filter_le (fun g => !ofO o g) fs
          have hlf : (fs.filter (fun g => !ofO o g)).length ≤ 8 := Nat.le_trans (List.length_filter_le _ _) hlen
          have hbo5 := Lib.hid (hF5.keep hbo2.out (fun h => h))
          have GR := Lib.hid (Grants_any u2.heap.size w5 b gv5 wv5 _ _ hB5 (by omega))
          have HB5 := Lib.hid hB5
          have HG5 := Lib.hid hg5
          have HF5 := Lib.hid hF5
          have HFO5 := Lib.hid hfo5
          have hup5 : ∀ j, bankF b gv5 wv5 j → j < w5.heap.size := fun j hj => by
            rcases hj with rfl | hj | hj
            · exact HB5.out.lt
            · obtain ⟨cc, e⟩ := HB5.out.gkind hj; exact lt_of_some e
            · obtain ⟨cc, e⟩ := HB5.out.wkind hj; exact lt_of_some e
          have HUP5 := Lib.hid hup5
          clear SW hf5 hfo5 hB5 hg5 hF5 HG4 hup5
          go_wp2_with fail
          refine GR.out.mono ?_
          intro e w6 hp6
          obtain ⟨v11, rfl, ⟨hg6, hn6⟩, hf6⟩ := hp6
          have hF6 := HF5.out.trans hf6
          have hB6 := HB5.out.frN hf6
          have hbo6 := Lib.hid (hf6.keep hbo5.out (fun h => h))
          have FI := Lib.hid (Find_any u2.heap.size w6 b gv5 wv5 _ _ o false path hB6)
          unfold Ori.cells at FI
          have HN6 := Lib.hid hn6
          have HG6 := Lib.hid hg6
          have HG5' := Lib.hid (HG5.out.fr hf6 (Off.none _ _) (fun _ _ h => h))
          have HB6 := Lib.hid hB6
          have HF6 := Lib.hid hF6
          clear hf6 hB6 hg6 hF6 hn6 GR HG5
          go_wp2_with (first | ((with_reducible refine wpList_at ⟨some 64, _, _, _, _, _⟩ ?_); go_must (refine wpList_load_row rfl 38 (.tmp 4) rfl w.heap.size rfl _ _ (0, 0) _ hbo6.out Try.underlying38 rfl (by kernel_rfl) ?_)) | fail)
          refine FI.out.mono ?_
          intro e w7 hp7
          unfold FindPost at hp7
          rw [find_swept] at hp7
          obtain ⟨hf7, rfl⟩ := hp7
          have hst2 := fun W => run_storeCells_new (P := Try.prog) W 48 zGrant zGrant.toList rfl (fun u hu => (Array.all_eq_true_iff_forall_mem.1 zGrant_one) u (by simpa using hu))
          have hfa7 : Fr noB w6 (w7.alloc (.cells zGrant 48)) := hf7.alloc _
          have hbo7 := Lib.hid (hfa7.keep hbo6.out (fun h => h))
          have hB7 := HB6.out.frN hfa7
          have FI := Lib.hid (Find_any u2.heap.size _ b gv5 wv5 _ _ o true path hB7)
          unfold Ori.cells at FI
          have HB7 := Lib.hid hB7
          have HFA7 := Lib.hid hfa7
          clear hf7 hfa7 hB7
          go_wp2_with (first | ((with_reducible refine wpList_at ⟨some 71, _, _, _, _, _⟩ ?_); go_must (refine wpList_load_row rfl 38 (.tmp 4) rfl w.heap.size rfl _ _ (0, 0) _ hbo7.out Try.underlying38 rfl (by kernel_rfl) ?_)) | fail)
          generalize w7.alloc (.cells zGrant 48) = W7 at *
          refine FI.out.mono ?_
          intro e w8 hp8
          unfold FindPost at hp8
          rw [find_swept] at hp8
          obtain ⟨hf8, rfl⟩ := hp8
          have hfa8 : Fr noB W7 (w8.alloc (.cells zGrant 48)) := hf8.alloc _
          have hbo8 := Lib.hid (hfa8.keep hbo7.out (fun h => h))
          have hB8 := HB7.out.frN hfa8
          have hlw : (ws.filter (fun g => !ofOW o g)).length ≤ 8 := Nat.le_trans (List.length_filter_le _ _) hl8
          have TK := Lib.hid (Take_any u2.heap.size _ b gv5 wv5 _ _ o false hB8 (by omega))
          unfold Ori.cells at TK
          have HB8 := Lib.hid hB8
          have HFA8 := Lib.hid (HFA7.out.trans hfa8)
          clear hf8 hfa8 hB8
          go_wp2_with (first | ((with_reducible refine wpList_at ⟨some 78, _, _, _, _, _⟩ ?_); go_must (refine wpList_load_row rfl 38 (.tmp 4) rfl w.heap.size rfl _ _ (0, 0) _ hbo8.out Try.underlying38 rfl (by kernel_rfl) ?_)) | fail)
          clear hst2
          generalize w8.alloc (.cells zGrant 48) = W8 at *
          refine TK.out.mono ?_
          intro e w9 hp9
          rw [take_swept] at hp9
          have hF9 := hp9.1.frame HB8.out (HF6.out.trans HFA8.out) (Nat.le_refl _)
          obtain ⟨⟨gv9, wv9, hB9, hf9, hfo9⟩, rfl⟩ := hp9
          have hn9 : ∀ j, v9.ownBlock = some j → ¬ bankF b gv5 wv5 j := fun j hj hb => by
            have q1 := HLT4.out j hj
            have q2 := HN4.out j hj
            rcases HFO5.out j hb with h | h
            · have := HUP.out j h; omega
            · omega
          have hn11 : ∀ j, v11.ownBlock = some j → ¬ bankF b gv5 wv5 j := fun j hj hb => by
            have q1 := HN6.out j hj
            have := HUP5.out j hb; omega
          have hg9 := (HG5'.out.fr HFA8.out (Off.none _ _) (fun _ _ h => h)).fr hf9 HB8.out.off hn9
          have hg11 := (HG6.out.fr HFA8.out (Off.none _ _) (fun _ _ h => h)).fr hf9 HB8.out.off hn11
          have hst := fun W => run_storeCells_new (P := Try.prog) W 66 zWa zWa.toList rfl zWa_one
          have hfa9 : Fr noB w9 (w9.alloc (.cells zWa 66)) := (Fr.refl noB w9).alloc _
          have hF10 := hF9.trans hfa9
          have hbo9 := Lib.hid (hF10.keep hbo2.out (fun h => h))
          have HG9 := hg9.fr hfa9 (Off.none _ _) (fun _ _ h => h)
          have HG11 := Lib.hid (hg11.fr hfa9 (Off.none _ _) (fun _ _ h => h))
          obtain ⟨rs9, ho9, hb9⟩ := HG9
          have hd := Lib.hid (DeleteFunc_Gr u2.heap.size 45 #[.pointer (some ⟨w.heap.size, 0, none⟩)] (ofC o) _ _ _ Try.call45
            (Swept1_answers _ _ o w.heap.size rs9 hbo9.out (fun hk => by have := HN4.out _ hk; omega)) ho9)
          have HO9 := Lib.hid ho9
          have HB9 := Lib.hid hb9
          have HF10 := Lib.hid hF10
          clear hn9 hn11 hg9 hg11 hf9 hfo9 hF9 hF10 hfa9 ho9 hb9 hB9 HG5' HG6 TK
          go_wp2_with fail
          clear hst
          generalize w9.alloc (.cells zWa 66) = W9 at *
          refine hd.out.mono ?_
          rintro e w10 ⟨a10, c10, rfl, ho10, hf10, hown10⟩
          have hoff9 : Off u2.heap.size W9 (own v9) := HO9.out.off (Nat.le_refl _) (by decide)
          have hb10 := HB9.out.mono (fun _ _ h => h.mono (fun _ _ h => h.fr hf10 hoff9))
          obtain ⟨hgi, hgl⟩ := GrantsIn.filtered ho10 hb10 (fun r g h => ofC_reads h o)
          rw [hgl] at hgi ⊢
          have hv11 := HG11.out.fr hf10 hoff9 (fun j hj hk => by have q1 := HN6.out j hj; have q2 := HLT4.out j hk; omega)
          have hF11 := HF10.out.step hf10 (fun j hj hk => by have q2 := HN4.out j hk; omega)
          have EQ := Lib.hid (EqualG_in hv11 hgi)
          have HF11 := Lib.hid (HF2.out.trans hF11)
          clear hd ho10 hf10 hown10 hoff9 hb10 hgi hgl hv11 hF11
          go_wp2_with fail
          refine EQ.out.mono ?_
          rintro e w12 ⟨rfl, hf12⟩
          go_wp2
          go_ret
          exact ⟨rfl, (HF11.out.trans hf12).none_below⟩
end Go.Proofs.Yteffnckhapmpgaa
