/- The law BankCounts: its walk. -/
import Derived.Test.YtkoobhgedoanhaaDoorCount1
import Derived.Test.YtkoobhgedoanhaaDoorEqG
import Derived.Test.YtkoobhgedoanhaaDoorGrantsFr
import Derived.Test.YtkoobhgedoanhaaDoorTellE
import Derived.Test.YtkoobhgedoanhaaDoorPick
import Derived.Test.YtkoobhgedoanhaaDoorBankFind
import Derived.Deep.RegionHeld3
namespace Go.Proofs.YtkoobhgedoanhaaDoor
open Go.RowKit

theorem BankIs.foot_ltC {base : Nat} {w : World} {b : Nat} {gv wv : Value} {gs : List (GrantOf Texts)} {ws : List (WaitOf Texts)} (h : BankIs base w b gv wv gs ws) {k : Nat} (hk : bankF b gv wv k) : k < w.heap.size := by
  rcases hk with rfl | hk | hk
  · exact h.lt
  · obtain ⟨c, e⟩ := h.gkind hk; exact lt_of_some e
  · obtain ⟨c, e⟩ := h.wkind hk; exact lt_of_some e
/-- behind j uses: the bank, the variable 'was', the grants that were there before -/
structure CoSt (base b bw : Nat) (v14 : Value) (fs : List (GrantOf Texts)) (g : GrantOf Texts) (U : World) (j : Nat) (gv wv : Value) (q : GrantOf Value) (wr : World) : Prop where
  bank : BankIs base wr b gv wv (useN fs g j) []
  was : wr.heap[bw]? = some (.cells q.cells.toArray 34 (0, 0))
  rd : q.Reads (StrsIn base wr) (g.usedN j)
  hone : ∀ u ∈ q.cells, u.oneCell' = true
  bef : GrantsIn base wr v14 fs
  off : ¬ bankF b gv wv bw
  off2 : ∀ k, own v14 k → ¬ bankF b gv wv k
  lt2 : ∀ k, own v14 k → k < wr.heap.size ∧ k ≠ bw
  fr : Fr noB U wr
  low : base ≤ bw
  ge : U.heap.size ≤ base
def CoRel (base b bw : Nat) (v14 : Value) (fs : List (GrantOf Texts)) (g : GrantOf Texts) (U : World) (n : Nat) (i : Value) (wr : World) : Prop :=
  ∃ (j : Nat) (gv wv : Value) (q : GrantOf Value), j ≤ n ∧ i = .int .i64 ((j : Int) + 1) ∧ CoSt base b bw v14 fs g U j gv wv q wr
section
variable {base b bw : Nat} {v14 : Value} {fs : List (GrantOf Texts)} {g : GrantOf Texts} {U : World} {j : Nat} {gv wv : Value} {q : GrantOf Value} {wr w' : World}
theorem CoSt.frN (h : CoSt base b bw v14 fs g U j gv wv q wr) (hf : Fr noB wr w') : CoSt base b bw v14 fs g U j gv wv q w' :=
  ⟨h.bank.frN hf, hf.keep h.was (fun h => h), h.rd.mono (fun _ _ h => h.frN hf), h.hone, h.bef.fr hf (Off.none _ _) (fun _ _ h => h), h.off, h.off2, fun k hk => ⟨Nat.lt_of_lt_of_le (h.lt2 k hk).1 hf.size, (h.lt2 k hk).2⟩, h.fr.trans hf, h.low, h.ge⟩
/-- behind Use -/
theorem CoSt.used (h : CoSt base b bw v14 fs g U j gv wv q wr) (hp : BankPost base wr b gv wv (useN fs g (j + 1)) [] w') :
    ∃ gv' wv', BankIs base w' b gv' wv' (useN fs g (j + 1)) [] ∧ w'.heap[bw]? = some (.cells q.cells.toArray 34 (0, 0)) ∧ q.Reads (StrsIn base w') (g.usedN j) ∧ GrantsIn base w' v14 fs ∧ ¬ bankF b gv' wv' bw ∧ (∀ k, own v14 k → ¬ bankF b gv' wv' k) ∧ (∀ k, own v14 k → k < w'.heap.size ∧ k ≠ bw) ∧ Fr noB U w' := by
  have hF := hp.frame h.bank h.fr h.ge
  obtain ⟨gv', wv', h1, h2, h3⟩ := hp
  have hbl : bw < wr.heap.size := lt_of_some h.was
  refine ⟨gv', wv', h1, h2.keep h.was h.off, h.rd.mono (fun _ _ k => k.fr h2 h.bank.off), h.bef.fr h2 h.bank.off h.off2, fun hk => ?_, fun k hk hb => ?_, fun k hk => ⟨Nat.lt_of_lt_of_le (h.lt2 k hk).1 h2.size, (h.lt2 k hk).2⟩, hF⟩
  · rcases h3 _ hk with hk | hk
    · exact h.off hk
    · omega
  · rcases h3 _ hb with hb | hb
    · exact h.off2 k hk hb
    · have := (h.lt2 k hk).1; omega
end
/-- the variable 'was', counted once more -/
theorem used_cells (q : GrantOf Value) : q.cells.toArray.setIfInBounds 14 (.int .i64 (q.count + 1)) = q.used.cells.toArray := rfl
theorem CoSt.next {base b bw : Nat} {v14 : Value} {fs : List (GrantOf Texts)} {g : GrantOf Texts} {U : World} {j : Nat} {gv wv : Value} {q : GrantOf Value} {w' : World} (h1 : BankIs base w' b gv wv (useN fs g (j + 1)) []) (h2 : w'.heap[bw]? = some (.cells q.cells.toArray 34 (0, 0))) (h3 : q.Reads (StrsIn base w') (g.usedN j)) (ho : ∀ u ∈ q.cells, u.oneCell' = true) (h4 : GrantsIn base w' v14 fs) (h5 : ¬ bankF b gv wv bw) (h6 : ∀ k, own v14 k → ¬ bankF b gv wv k) (h7 : ∀ k, own v14 k → k < w'.heap.size ∧ k ≠ bw) (h8 : Fr noB U w') (hl : base ≤ bw) (hg : U.heap.size ≤ base) :
    CoSt base b bw v14 fs g U (j + 1) gv wv q.used (w'.setCell ⟨bw, 14, none⟩ (.int .i64 (q.count + 1))) := by
  have hfs : Fr (one bw) w' (w'.setCell ⟨bw, 14, none⟩ (.int .i64 (q.count + 1))) := (Fr.refl (one bw) w').setCell (p := ⟨bw, 14, none⟩) (fun _ => rfl) _
  have hoff : Off base w' (one bw) := by
    rintro k rfl _
    exact ⟨hl, fun c f e => by rw [h2] at e; cases e⟩
  refine ⟨h1.fr hfs hoff (fun e => h5 (by rw [← show b = bw from e]; exact Or.inl rfl)) (fun k hk e => h5 (by rw [← show k = bw from e]; exact Or.inr (Or.inl hk))) (fun k hk e => h5 (by rw [← show k = bw from e]; exact Or.inr (Or.inr hk))), ?_, ?_, ?_, h4.fr hfs hoff (fun k hk e => (h7 k hk).2 e), h5, h6, fun k hk => ⟨Nat.lt_of_lt_of_le (h7 k hk).1 hfs.size, (h7 k hk).2⟩, h8.step hfs (fun k hk e => by have e' : k = bw := e; omega), hl, hg⟩
  · have := setCell_heap h2 14 (.int .i64 (q.count + 1))
    rw [used_cells] at this
    exact this
  · have h3' : q.Reads (StrsIn base (w'.setCell ⟨bw, 14, none⟩ (.int .i64 (q.count + 1)))) (g.usedN j) := h3.mono (fun _ _ k => k.fr hfs hoff)
    obtain ⟨e1, e2, e3, e4, e5, e6, e7⟩ := h3'
    rw [← GrantOf.usedN_succ]
    exact ⟨e1, e2, e3, e4, e5, by show q.count + 1 = (g.usedN j).count + 1; rw [e6], e7⟩
  · intro u hu
    have := ho
    unfold GrantOf.cells GrantOf.used at *
    simp only [List.mem_cons, List.not_mem_nil, or_false, forall_eq_or_imp, forall_eq] at this hu
    rcases hu with rfl | rfl | rfl | rfl | rfl | rfl | rfl | rfl | rfl | rfl | rfl | rfl | rfl | rfl | rfl | rfl <;> first | rfl | simp_all
theorem pick20 (n : Int) : ∃ k : Nat, pickI n 20 = (k : Int) ∧ k < 20 := by
  have := pickI_range n 20 (by decide)
  exact ⟨(pickI n 20).toNat, by omega, by omega⟩
/-- a grant's block, cell by cell -/
theorem grant_cells {w : World} {b : Nat} {x : GrantOf Value} (h : w.heap[b]? = some (.cells x.cells.toArray 34 (0, 0))) : w.cell? ⟨b, 0, none⟩ = some (.bool x.o.secure) ∧ w.cell? ⟨b, 1, none⟩ = some (.string x.o.host) ∧ w.cell? ⟨b, 2, none⟩ = some (.int .i64 x.o.port) ∧ w.cell? ⟨b, 3, none⟩ = some (.bool x.proxy) ∧ w.cell? ⟨b, 4, none⟩ = some (.string x.user) ∧ w.cell? ⟨b, 5, none⟩ = some (.string x.pass) ∧ w.cell? ⟨b, 6, none⟩ = some (.int .i64 x.a.scheme) ∧ w.cell? ⟨b, 7, none⟩ = some (.string x.a.realm) ∧ w.cell? ⟨b, 8, none⟩ = some (.string x.a.nonce) ∧ w.cell? ⟨b, 9, none⟩ = some (.string x.a.opaq) ∧ w.cell? ⟨b, 10, none⟩ = some (.bool x.a.sess) ∧ w.cell? ⟨b, 11, none⟩ = some (.string x.a.qop) ∧ w.cell? ⟨b, 12, none⟩ = some (.bool x.a.stale) ∧ w.cell? ⟨b, 13, none⟩ = some (x.a.dom) ∧ w.cell? ⟨b, 14, none⟩ = some (.int .i64 x.count) ∧ w.cell? ⟨b, 15, none⟩ = some (x.paths) := by
  simp only [World.cell?, h]
  exact ⟨rfl, rfl, rfl, rfl, rfl, rfl, rfl, rfl, rfl, rfl, rfl, rfl, rfl, rfl, rfl, rfl⟩
set_option maxHeartbeats 8000000 in
set_option maxRecDepth 100000 in
theorem BankCounts_walk (v0 : Value) (gs : List (GrantOf Texts)) (o : Ori) (proxy : Bool) (path : ByteArray) (n : Int) (hz : path.size ≤ 140737488351232) (w : World) (st0 : GrantsFit w v0 gs) (_ : OriFit o) (hty : ErrTy w) :
    Calls Tryd.prog 3 #[v0, .agg o.cells.toArray, .bool proxy, .string path, .int .i64 n] w fun e w' => e = .returned (.bool true) ∧ Below w.heap.size w w' := by
  have hg0 := st0.1
  clear st0
  unfold Ori.cells
  have hf0 : Fr noB w (w.alloc (.cells #[.bool o.secure, .string o.host, .int .i64 o.port] 24)) := (Fr.refl noB w).alloc _
  have hbo : (w.alloc (.cells #[.bool o.secure, .string o.host, .int .i64 o.port] 24)).heap[w.heap.size]? = some (.cells #[.bool o.secure, .string o.host, .int .i64 o.port] 24 (0, 0)) := new_block _ _
  have HBO := Lib.hid hbo
  have HTY := Lib.hid hty
  clear hbo hty
  go_enter Tryd.func3, Tryd.ntmps3
  go_wp2_with fail
  generalize w.alloc (.cells _ 24) = W at *
  refine (banked_any W).mono ?_
  rintro e u1 ⟨rfl, hf1⟩
  have hF1 := hf0.trans hf1
  have hg1 := hg0.frN hF1
  have hbo1 := Lib.hid (hf1.keep HBO.out (fun h => h))
  have HELD := Lib.hid (held_any v0 gs u1 hg1)
  clear hg0 hf1 hf0 HBO
  go_wp2_with fail
  refine HELD.out.mono ?_
  rintro e u2 ⟨rfl, hf2⟩
  clear HELD
  have hF2 := hF1.trans hf2
  have hg2 := hg1.frN hf2
  have hbo2 := Lib.hid (hf2.keep hbo1.out (fun h => h))
  clear hg1 hbo1 hF1 hf2
  have hpz : (path.size : Int) ≤ 140737488351232 := by omega
  cases hh : heldB gs
  · go_wp2
    go_ret
    exact ⟨rfl, hF2.none_below⟩
  by_cases hp : (100 : Int) < path.size
  · go_wp2
    go_ret
    exact ⟨rfl, hF2.none_below⟩
  obtain ⟨rs0, hrows0, hb0, hs0⟩ := hg2
  have CF := Lib.hid (ContainsFunc_Gr _ #[] cntC _ _ u2 Tryd.call11 (Counts1_answers u2 rs0) hrows0)
  rw [cntC_any hb0] at CF
  have hg2 : GrantsArg u2 v0 gs := ⟨rs0, hrows0, hb0, hs0⟩
  clear hrows0 hb0 hs0
  have HG2 := Lib.hid hg2
  have HH := Lib.hid hh
  have HF2 := Lib.hid hF2
  clear hg2 hh hF2
  go_wp2_with fail
  refine CF.out.mono ?_
  rintro e u3 ⟨rfl, hf3⟩
  clear CF
  have HF3 := Lib.hid (HF2.out.trans hf3)
  have HG3 := Lib.hid (HG2.out.frN hf3)
  have hbo3 := Lib.hid (hf3.keep hbo2.out (fun h => h))
  cases hc : gs.any cntG
  case true =>
    go_wp2
    go_ret
    exact ⟨rfl, HF3.out.none_below⟩
  have FILL := Lib.hid (filled_any v0 gs u3 HG3.out HH.out)
  have HCN := Lib.hid (show ∀ x ∈ filledL gs, 0 ≤ x.count ∧ x.count ≤ 1000 from fun x hx => by
    have := (List.any_eq_false.1 hc) x (filledL_mem hx)
    unfold cntG at this
    simp only [Bool.or_eq_true, decide_eq_true_eq, not_or] at this
    omega)
  have HAP := Lib.hid (filledL_apart gs)
  have HLN := Lib.hid (filledL_len gs)
  clear hc HG2 HG3 HF2 hf3 hbo2
  go_wp2_with fail
  refine FILL.out.mono ?_
  intro e u4 hp3
  obtain ⟨b, gv, wv, rfl, hB, hf4⟩ := hp3
  generalize filledL gs = fs at *
  have HF4 := Lib.hid (HF3.out.trans hf4)
  have hbo4 := Lib.hid (hf4.keep hbo3.out (fun h => h))
  have FI := Lib.hid (Find_any u3.heap.size u4 b gv wv fs [] o proxy path hB)
  have HB := Lib.hid hB
  have HFU := Lib.hid hf4
  unfold Ori.cells at FI
  clear FILL hf4 hB
  go_wp2_with (first | ((with_reducible refine wpList_at ⟨some 38, _, _, _, _, _⟩ ?_); go_must (refine wpList_load_row rfl 24 (.tmp 6) rfl w.heap.size rfl _ _ (0, 0) _ hbo4.out Tryd.underlying24 rfl (by kernel_rfl) ?_)) | fail)
  refine FI.out.mono ?_
  intro e u5 hp5
  clear FI
  obtain ⟨k20, hk20, hk20l⟩ := pick20 n
  have hnn : 1 + (k20 : Int) = ((k20 + 1 : Nat) : Int) := by omega
  cases hfg : findG fs o proxy path with
  | none =>
    rw [hfg] at hp5
    obtain ⟨hf5, rfl⟩ := hp5
    have HUL := Lib.hid (use_none hfg)
    have hst2 := fun W => run_storeCells_new (P := Tryd.prog) W 34 #[.bool false, .string ⟨#[]⟩, .int .i64 0, .bool false, .string ⟨#[]⟩, .string ⟨#[]⟩, .int .i64 0, .string ⟨#[]⟩, .string ⟨#[]⟩, .string ⟨#[]⟩, .bool false, .string ⟨#[]⟩, .bool false, .slice none 0 0, .int .i64 0, .slice none 0 0] zGrant.toList rfl (fun u hu => (Array.all_eq_true_iff_forall_mem.1 zGrant_one) u (by simpa using hu))
    have hfa5 : Fr noB u4 (u5.alloc (.cells zGrant 34)) := hf5.alloc _
    have hB5 := HB.out.frN hfa5
    have GR := Lib.hid (Grants_any u3.heap.size _ b gv wv fs [] hB5 (by have := HLN.out; omega))
    have HB5 := Lib.hid hB5
    have HF5 := Lib.hid (HFU.out.trans hfa5)
    have hbo5 := Lib.hid (hfa5.keep hbo4.out (fun h => h))
    clear hfg hB5 hf5 hfa5
    go_wp2_with fail
    clear hst2
    generalize u5.alloc (.cells zGrant 34) = W5 at *
    refine GR.out.mono ?_
    intro e u6 hp6
    obtain ⟨v14, rfl, ⟨hg6, hn6⟩, hf6⟩ := hp6
    have HF6 := Lib.hid (HF5.out.trans hf6)
    have HB6 := Lib.hid (HB5.out.frN hf6)
    have hbo6 := Lib.hid (hf6.keep hbo5.out (fun h => h))
    have HG6 := Lib.hid hg6
    have HN6 := Lib.hid hn6
    have HL6 := Lib.hid (show ∀ k, bankF b gv wv k → k < W5.heap.size from fun k hk => by exact HB5.out.foot_ltC hk)
    have hs6 := hf6.size
    clear hg6 hn6 hf6 GR hbo5 hbo4
    go_wp2_with fail
    refine (pick_any n 20 u6 (by decide) (by decide)).mono ?_
    rintro e u7 ⟨rfl, rfl⟩
    rw [hk20]
    go_wp2_with fail
    go_loopw [15] (fun i wr => i = .int .i64 1 ∧ wr = u6) (fun _ _ => 0)
    case atStart => exact ⟨rfl, rfl⟩
    case round =>
      obtain ⟨rfl, rfl⟩ := hrel
      have hle : (1 : Int) ≤ 1 + (k20 : Int) := by omega
      have US := Lib.hid (Use_any u3.heap.size wr b gv wv fs [] o proxy path HB6.out (by have := HLN.out; omega) (fun x hx => (HCN.out x hx).1))
      rw [HUL.out] at US
      unfold Ori.cells at US
      go_wp2_with (first | ((with_reducible refine wpList_at ⟨some 56, _, _, _, _, _⟩ ?_); go_must (refine wpList_load_row rfl 24 (.tmp 6) rfl w.heap.size rfl _ _ (0, 0) _ hbo6.out Tryd.underlying24 rfl (by kernel_rfl) ?_)) | fail)
      refine US.out.mono ?_
      intro e u8 hp8
      obtain ⟨hp8, rfl⟩ := hp8
      have hF8 := hp8.frame HB6.out HF6.out (Nat.le_refl _)
      obtain ⟨gv8, wv8, hB8, hf8, hfo8⟩ := hp8
      have hg8 := HG6.out.fr hf8 HB6.out.off (fun k hk hb => by have := HN6.out k hk; have := HL6.out k hb; omega)
      have hst2 := fun W => run_storeCells_new (P := Tryd.prog) W 34 #[.bool false, .string ⟨#[]⟩, .int .i64 0, .bool false, .string ⟨#[]⟩, .string ⟨#[]⟩, .int .i64 0, .string ⟨#[]⟩, .string ⟨#[]⟩, .string ⟨#[]⟩, .bool false, .string ⟨#[]⟩, .bool false, .slice none 0 0, .int .i64 0, .slice none 0 0] zGrant.toList rfl (fun u hu => (Array.all_eq_true_iff_forall_mem.1 zGrant_one) u (by simpa using hu))
      have hfa8 : Fr noB u8 (u8.alloc (.cells zGrant 34)) := (Fr.refl noB u8).alloc _
      have HF9 := Lib.hid (hF8.trans hfa8)
      have HB9 := Lib.hid (hB8.frN hfa8)
      have HG9 := Lib.hid (hg8.fr hfa8 (Off.none _ _) (fun _ _ h => h))
      have TE := Lib.hid (Tell_errno (n := 8) ((((HTY.out.fr (HF3.out.trans HF9.out) (fun h => h))))))
      clear hf8 hfo8 hB8 hg8 hfa8 hF8 US
      go_wp2_with fail
      clear hst2
      generalize u8.alloc (.cells zGrant 34) = W9 at *
      refine TE.out.mono ?_
      rintro e u10 ⟨rfl, hf10⟩
      have GR := Lib.hid (Grants_any u3.heap.size u10 b gv8 wv8 fs [] (HB9.out.frN hf10) (by have := HLN.out; omega))
      have HG10 := Lib.hid (HG9.out.fr hf10 (Off.none _ _) (fun _ _ h => h))
      have HF10 := Lib.hid (HF9.out.trans hf10)
      clear TE hf10
      go_wp2_with fail
      refine GR.out.mono ?_
      intro e u11 hp11
      obtain ⟨v11, rfl, ⟨hg11, _⟩, hf11⟩ := hp11
      have EQ := Lib.hid (EqualG_in hg11 (HG10.out.fr hf11 (Off.none _ _) (fun _ _ h => h)))
      have HF11 := Lib.hid (HF3.out.trans (HF10.out.trans hf11))
      clear GR hf11 hg11
      go_wp2_with fail
      refine EQ.out.mono ?_
      rintro e u12 ⟨rfl, hf12⟩
      go_wp2
      go_ret
      exact ⟨rfl, (HF11.out.trans hf12).none_below⟩
  | some g =>
    rw [hfg] at hp5
    obtain ⟨hf5, r, rfl, hr5, hone5⟩ := hp5
    obtain ⟨x, hx⟩ : ∃ x, x = r.cells := ⟨_, rfl⟩
    have hxk : x.length = 16 := by rw [hx]; rfl
    rw [← hx] at hone5 ⊢
    have hst2 := fun W => run_storeCells_new (P := Tryd.prog) W 34 #[.bool false, .string ⟨#[]⟩, .int .i64 0, .bool false, .string ⟨#[]⟩, .string ⟨#[]⟩, .int .i64 0, .string ⟨#[]⟩, .string ⟨#[]⟩, .string ⟨#[]⟩, .bool false, .string ⟨#[]⟩, .bool false, .slice none 0 0, .int .i64 0, .slice none 0 0] x (by rw [hx]; rfl) hone5
    have hfa5 : Fr noB u4 (u5.alloc (.cells x.toArray 34)) := hf5.alloc _
    have hbx := new_block u5 (.cells x.toArray 34)
    have hB5 := HB.out.frN hfa5
    have GR := Lib.hid (Grants_any u3.heap.size _ b gv wv fs [] hB5 (by have := HLN.out; omega))
    have HB5 := Lib.hid hB5
    have HF5 := Lib.hid (HFU.out.trans hfa5)
    have hbo5 := Lib.hid (hfa5.keep hbo4.out (fun h => h))
    have HR5 := Lib.hid (hr5.mono (fun _ _ h => h.frN ((Fr.refl noB u5).alloc (.cells x.toArray 34))))
    have HBX := Lib.hid hbx
    have HONE := Lib.hid hone5
    have HX := Lib.hid hx
    have HFG := Lib.hid hfg
    have HL5 := Lib.hid (show ∀ k, bankF b gv wv k → k < u5.heap.size from fun k hk => by exact Nat.lt_of_lt_of_le (HB.out.foot_ltC hk) hf5.size)
    have hu3 : u3.heap.size ≤ u5.heap.size := Nat.le_trans HFU.out.size hf5.size
    clear hfg hB5 hf5 hfa5 hr5 hbx hone5 hx
    go_wp2_with fail
    clear hst2
    have hlx : u5.heap.size < (u5.alloc (.cells x.toArray 34)).heap.size := by simp
    generalize u5.alloc (.cells x.toArray 34) = W5 at *
    generalize u5.heap.size = bw at *
    refine GR.out.mono ?_
    intro e u6 hp6
    obtain ⟨v14, rfl, ⟨hg6, hn6⟩, hf6⟩ := hp6
    have HS0 := Lib.hid (show CoSt u3.heap.size b bw v14 fs g u3 0 gv wv r u6 from by
      refine ⟨HB5.out.frN hf6, by rw [← HX.out]; exact hf6.keep HBX.out (fun h => h), ?_, by rw [← HX.out]; exact HONE.out, hg6, fun hk => by have := HL5.out _ hk; omega, fun k hk hb => by have := hn6 k hk; have := HL5.out k hb; omega, fun k hk => ⟨by obtain ⟨rs, h1, _⟩ := hg6; exact h1.lt k hk, by have := hn6 k hk; omega⟩, HF5.out.trans hf6, hu3, Nat.le_refl _⟩
      have := HR5.out.mono (fun _ _ h => h.frN hf6)
      obtain ⟨e1, e2, e3, e4, e5, e6, e7⟩ := this
      exact ⟨e1, e2, e3, e4, e5, by show r.count = g.count + ((0 : Nat) : Int); rw [e6]; omega, e7⟩)
    have hbo6 := Lib.hid (hf6.keep hbo5.out (fun h => h))
    have HF6 := Lib.hid (HF5.out.trans hf6)
    have HGC := Lib.hid (show 0 ≤ g.count ∧ g.count ≤ 1000 from HCN.out g (by
      have h := HFG.out
      unfold findG at h
      split at h
      · exact List.mem_of_getElem? h
      · cases h))
    have HUN := Lib.hid (show ∀ j, (useN fs g j).length ≤ 9 ∧ ∀ x ∈ useN fs g j, 0 ≤ x.count from fun j => by
      have h1 := HLN.out
      have h2 := HCN.out
      have h3 := HGC.out
      unfold useN
      split
      · exact ⟨by omega, fun x hx => (h2 x hx).1⟩
      · have h4 : (restL fs g).length ≤ fs.length := List.length_filter_le _ _
        refine ⟨by rw [List.length_append]; simp; omega, fun x hx => ?_⟩
        rcases List.mem_append.1 hx with hx | hx
        · exact (h2 x (List.mem_filter.1 hx).1).1
        · rw [List.mem_singleton] at hx; rw [hx]; show 0 ≤ g.count + (j : Int); omega)
    clear hf6 hg6 hn6 GR hbo5 hbo4 HB5 HR5 HBX HONE HX HL5 HB hlx
    go_wp2_with fail
    refine (pick_any n 20 u6 (by decide) (by decide)).mono ?_
    rintro e u7 ⟨rfl, rfl⟩
    rw [hk20]
    go_wp2_with fail
    go_loopw [15] (CoRel u3.heap.size b bw v14 fs g u3 (k20 + 1)) (fun i _ => k20 + 2 - (intOf i).toNat)
    case atStart => exact ⟨0, gv, wv, r, Nat.zero_le _, rfl, HS0.out⟩
    case round =>
      obtain ⟨j, gvj, wvj, q, hj, rfl, hst⟩ := hrel
      have HST := Lib.hid hst
      have hbor := Lib.hid (hst.fr.keep hbo3.out (fun h => h))
      have hqc : q.count = g.count + (j : Int) := hst.rd.2.2.2.2.2.1
      have hgc := HGC.out
      by_cases hjk : j ≤ k20
      · as_aux_lemma =>
          have hle : (j : Int) + 1 ≤ 1 + (k20 : Int) := by omega
          have US := Lib.hid (Use_any u3.heap.size wr b gvj wvj (useN fs g j) [] o proxy path hst.bank (by have := (HUN.out j).1; omega) (HUN.out j).2)
          rw [count_law HAP.out HFG.out j (by omega)] at US
          unfold Ori.cells at US
          have hq0 : 0 ≤ q.count := by omega
          have hq1 : q.count ≤ 2000 := by omega
          clear hst hqc hgc
          go_wp2_with (first | ((with_reducible refine wpList_at ⟨some 56, _, _, _, _, _⟩ ?_); go_must (refine wpList_load_row rfl 24 (.tmp 6) rfl w.heap.size rfl _ _ (0, 0) _ hbor.out Tryd.underlying24 rfl (by kernel_rfl) ?_)) | fail)
          refine US.out.mono ?_
          intro e u8 hp8
          obtain ⟨hp8, r8, rfl, hr8, hone8⟩ := hp8
          obtain ⟨gv8, wv8, hB8, hw8, hq8, hg8, ho8, ho8b, hl8, hF8⟩ := HST.out.used hp8
          obtain ⟨x8, hx8⟩ : ∃ x8, x8 = r8.cells := ⟨_, rfl⟩
          have hxk8 : x8.length = 16 := by rw [hx8]; rfl
          rw [← hx8] at hone8 ⊢
          have hst2 := fun W => run_storeCells_new (P := Tryd.prog) W 34 #[.bool false, .string ⟨#[]⟩, .int .i64 0, .bool false, .string ⟨#[]⟩, .string ⟨#[]⟩, .int .i64 0, .string ⟨#[]⟩, .string ⟨#[]⟩, .string ⟨#[]⟩, .bool false, .string ⟨#[]⟩, .bool false, .slice none 0 0, .int .i64 0, .slice none 0 0] x8 (by rw [hx8]; rfl) hone8
          have hfa8 : Fr noB u8 (u8.alloc (.cells x8.toArray 34)) := (Fr.refl noB u8).alloc _
          have hbx8 := new_block u8 (.cells x8.toArray 34)
          have hlw : bw < u8.heap.size := lt_of_some hw8
          have hw9 := hfa8.keep hw8 (fun h => h)
          have HNX := Lib.hid (CoSt.next (hB8.frN hfa8) hw9 (hq8.mono (fun _ _ h => h.frN hfa8)) HST.out.hone (hg8.fr hfa8 (Off.none _ _) (fun _ _ h => h)) ho8 ho8b (fun k hk => ⟨Nat.lt_of_lt_of_le (hl8 k hk).1 hfa8.size, (hl8 k hk).2⟩) (hF8.trans hfa8) HST.out.low HST.out.ge)
          have hfs : Fr (one bw) (u8.alloc (.cells x8.toArray 34)) ((u8.alloc (.cells x8.toArray 34)).setCell ⟨bw, 14, none⟩ (.int .i64 (q.count + 1))) := (Fr.refl (one bw) _).setCell (p := ⟨bw, 14, none⟩) (fun _ => rfl) _
          have hoffw : Off u3.heap.size (u8.alloc (.cells x8.toArray 34)) (one bw) := by
            rintro k rfl _
            exact ⟨HST.out.low, fun c f e => by rw [hw9] at e; cases e⟩
          have hr9 := (hr8.mono (fun _ _ h => h.frN hfa8)).mono (fun _ _ h => h.fr hfs hoffw)
          have hb9 := hfs.keep hbx8 (fun h => by have e : u8.heap.size = bw := h; omega)
          rw [hx8] at hb9
          have c14 : (u8.alloc (.cells x8.toArray 34)).cell? ⟨bw, 14, none⟩ = some (.int .i64 q.count) := by simp only [World.cell?, hw9]; rfl
          have f14 : (u8.alloc (.cells x8.toArray 34)).frozen? ⟨bw, 14, none⟩ = false := by simp [World.frozen?, hw9]
          have HB9 := Lib.hid hb9
          have hbx9 : (u8.alloc (.cells x8.toArray 34)).heap[u8.heap.size]? = some (.cells r8.cells.toArray 34 (0, 0)) := by rw [← hx8]; exact hbx8
          have HR9 := Lib.hid (And.intro hr9 HNX.out.rd)
          obtain ⟨d0, d1, d2, d3, d4, d5, d6, d7, d8, d9, d10, d11, d12, d13, d14, d15⟩ := grant_cells hw9
          obtain ⟨e0, e1, e2, e3, e4, e5, e6, e7, e8, e9, e10, e11, e12, e13, e14, e15⟩ := grant_cells hbx9
          have HX8 := Lib.hid hx8
          have hne8 : ¬ u8.heap.size = bw := by omega
          have HSG := Lib.hid (show ∀ U, Fr noB ((u8.alloc (.cells x8.toArray 34)).setCell ⟨bw, 14, none⟩ (.int .i64 (q.count + 1))) U → Calls Tryd.prog 19 #[.agg r8.cells.toArray, .agg q.used.cells.toArray] U fun e w' => e = .returned (.bool true) ∧ Fr noB U w' from fun U hU => by
            have h1 := HR9.out.1.mono (fun _ _ h => (h.frN hU).rd)
            have h2 := HR9.out.2.mono (fun _ _ h => (h.frN hU).rd)
            have l1 := hr9.2.2.2.2.2.2.few
            have l2 := hr9.2.2.2.2.1.2.2.2.2.2.2.2.few
            exact sameGrant_same r8 q.used (g.usedN (j + 1)) U h1 h2 (by omega) (by omega))
          unfold GrantOf.cells GrantOf.used at HSG
          clear hp8 hB8 hw8 hq8 hg8 ho8 ho8b hl8 hF8 hbx8 hw9 hfs hoffw hr9 hb9 hr8 hx8 hfa8 US hone8 hbx9
          go_wp2_with ((with_reducible refine wpList_at ⟨some 73, _, _, _, _, _⟩ ?_); have hdummy := hst2; clear hst2 hdummy; generalize u8.alloc (.cells x8.toArray 34) = W9 at *)
          refine (HSG.out _ (Fr.refl _ _)).mono ?_
          rintro e u9 ⟨rfl, hf9⟩
          have HN9 := Lib.hid (HNX.out.frN hf9)
          go_wp2
          go_roundw
          case rel => exact ⟨j + 1, gv8, wv8, q.used, by omega, by go_num, HN9.out⟩
          case measure => simp [intOf]; omega
      · as_aux_lemma =>
          have hle : ¬ (j : Int) + 1 ≤ 1 + (k20 : Int) := by omega
          have hjn : useN fs g j = restL fs g ++ [g.usedN j] := by unfold useN; rw [if_neg (by omega)]
          have hst0 := hst
          have hbk0 := hst.bank
          rw [hjn] at hbk0
          have GR := Lib.hid (Grants_any u3.heap.size wr b gvj wvj _ [] hbk0 (by have := (HUN.out j).1; rw [hjn] at this; omega))
          have hrl : (restL fs g).length ≤ 8 := Nat.le_trans (List.length_filter_le _ _) HLN.out
          clear hst hqc hgc hjn hst0 hbk0
          go_wp2_with fail
          refine GR.out.mono ?_
          intro e u8 hp8
          obtain ⟨v18, rfl, ⟨hg8, hn8⟩, hf8⟩ := hp8
          have HS8 := Lib.hid (HST.out.frN hf8)
          have HG8 := Lib.hid hg8
          obtain ⟨rs14, ho14, hb14⟩ := HS8.out.bef
          have hl14 := hb14.len
          have hap14 := HLN.out
          obtain ⟨a14, c14, hv14⟩ := ho14.form
          rw [List.length_map, hl14] at hv14
          have CL := Lib.hid (Clone_Gr v14 (rs14.map GrantOf.cells) u8 ho14.at (by rw [List.length_map]; omega))
          have HB14 := Lib.hid hb14
          have hs8 := hf8.size
          clear hf8 hg8 ho14 hb14 GR
          rw [hv14] at CL
          obtain ⟨avx, cvx, hv18⟩ := HG8.out.form
          rw [List.length_append, List.length_singleton] at hv18
          subst hv18
          go_wp2_with fail
          refine CL.out.mono ?_
          rintro e u9 ⟨v9, rfl, ho9, hf9⟩
          have HS9 := Lib.hid (HS8.out.frN hf9)
          have HG9 := Lib.hid (HG8.out.fr hf9 (Off.none _ _) (fun _ _ h => h))
          have hb9 := HB14.out.mono (fun _ _ h => h.mono (fun _ _ h => h.frN hf9))
          have hbl9 : bw < u8.heap.size := lt_of_some HS8.out.was
          have hg18 : ∀ k, own (.slice avx ((restL fs g).length + 1) cvx) k → k < u8.heap.size := fun k hk => by obtain ⟨rs, h1, _⟩ := HG8.out; exact h1.lt k hk
          have hn9 := ho9.block
          have hd := Lib.hid (DeleteFunc_Gr u3.heap.size 22 #[.pointer (some ⟨bw, 0, none⟩)] (sameC q.o q.proxy q.a.realm) _ _ _ Tryd.call22
            (Counts2_answers _ _ q bw rs14 HS9.out.was (fun hk => by have := hn9 _ hk; omega)) (ho9.up (by have := HS8.out.bank.low; have := HS8.out.bank.lt; omega)))
          have hoff9 : Off u3.heap.size u9 (own v9) := (ho9.up (base := u3.heap.size) (by have := HS8.out.bank.low; have := HS8.out.bank.lt; omega)).off (Nat.le_refl _) (by decide)
          have HN9 := Lib.hid hn9
          have HB9 := Lib.hid hb9
          have HOF9 := Lib.hid hoff9
          have HG18 := Lib.hid hg18
          have hs9 := hf9.size
          obtain ⟨a9, c9, hv9⟩ := ho9.form
          rw [List.length_map, hl14] at hv9
          clear CL ho9 hb9 hn9 hoff9 hf9 hg18 HS8 HG8
          subst hv9
          go_wp2_with fail
          refine hd.out.mono ?_
          rintro e u10 ⟨a10, c10, rfl, ho10, hf10, hown10⟩
          have hb10 := HB9.out.mono (fun _ _ h => h.mono (fun _ _ h => h.fr hf10 HOF9.out))
          obtain ⟨hgi, hgl⟩ := GrantsIn.filtered ho10 hb10 (fun r g h => sameC_reads h q.o q.proxy q.a.realm)
          have hqr := HS9.out.rd
          have hrest : fs.filter (fun x => !sameG q.o q.proxy q.a.realm x) = restL fs g := by
            unfold restL
            rw [hqr.1, hqr.2.1, hqr.2.2.2.2.1.2.1]; rfl
          rw [hgl, hrest] at hgi ⊢
          have hw10 := hf10.keep HS9.out.was (fun hk => by have := HN9.out _ hk; omega)
          have hrd10 := hqr.mono (fun _ _ h => h.fr hf10 HOF9.out)
          have hg10 := HG9.out.fr hf10 HOF9.out (fun k hk hk2 => by have := HN9.out k hk2; have := HG18.out k hk; omega)
          have hF10 : Fr noB u3 u10 := HS9.out.fr.step hf10 (fun k hk hk2 => by have := HN9.out k hk2; have := HF6.out.size; have := HST.out.fr.size; omega)
          have HF10 := Lib.hid (HF3.out.trans hF10)
          obtain ⟨rs18, ho18, hb18⟩ := hg10
          have hl18 := hb18.len
          rw [List.length_append, List.length_singleton] at hl18
          have hat18 := ho18.at
          rcases hat18.2 with ⟨_, _, _, e18, _⟩ | ⟨bk, oo, cc, hf18, q1, q2, q3, q4⟩
          · have := congrArg List.length e18; rw [List.length_map, hl18] at this; simp at this
          rw [List.length_map, hl18] at hf18 q1
          cases hf18
          unfold maxLen at q2
          obtain ⟨sl, hsl⟩ : ∃ sl, rs18[(restL fs g).length]? = some sl := ⟨_, List.getElem?_eq_getElem (by omega)⟩
          obtain ⟨gl, hgl2, hrl2⟩ := hb18.get hsl
          rw [List.getElem?_append_right (Nat.le_refl _), Nat.sub_self] at hgl2
          obtain rfl : g.usedN j = gl := by simpa using hgl2
          have hY := q4 (restL fs g).length sl.cells (by rw [List.getElem?_map, hsl]; rfl)
          have HSG := Lib.hid (show ∀ U, Fr noB u10 U → Calls Tryd.prog 19 #[.agg sl.cells.toArray, .agg q.cells.toArray] U fun e w' => e = .returned (.bool true) ∧ Fr noB U w' from fun U hU => by
            have h1 := hrl2.mono (fun _ _ h => (h.frN hU).rd)
            have h2 := hrd10.mono (fun _ _ h => (h.frN hU).rd)
            have l1 := hrd10.2.2.2.2.2.2.few
            have l2 := hrd10.2.2.2.2.1.2.2.2.2.2.2.2.few
            exact sameGrant_same sl q (g.usedN j) U h1 h2 (by omega) (by omega))
          unfold GrantOf.cells at HSG
          obtain ⟨rsx, hx1, hx2, hx3⟩ := hgi.rows
          have hbt := hb18.take (restL fs g).length
          rw [List.take_left'] at hbt
          rotate_left
          · rfl
          have hpre : RowsAt 16 u10 (.slice (some ⟨bk, oo, none⟩) (restL fs g).length cvx) ((rs18.take (restL fs g).length).map GrantOf.cells) := by
            refine ⟨fun y hy => hat18.1 y (by rw [List.map_take] at hy; exact List.mem_of_mem_take hy), Or.inr ⟨bk, oo, cvx, by rw [List.length_map, List.length_take, hl18]; congr 1; omega, by rw [List.length_map, List.length_take, hl18]; omega, by unfold maxLen; omega, q3, fun i y hi => q4 i y ?_⟩⟩
            rw [List.map_take] at hi
            have hil := (List.getElem?_eq_some_iff.1 hi).1
            rw [List.length_take] at hil
            rw [List.getElem?_take_of_lt (by omega)] at hi
            exact hi
          have HEQ := Lib.hid (show ∀ U, Fr noB u10 U → Calls Tryd.prog 18 #[.slice (some ⟨bk, oo, none⟩) (restL fs g).length cvx, .slice a10 (restL fs g).length c10, .func (.func 19) #[] #[]] U fun e w' => e = .returned (.bool true) ∧ Fr noB U w' from fun U hU =>
            EqualG_same _ _ _ rsx _ U (hpre.frNone hU) (hx1.frNone hU) (hbt.mono (fun _ _ h => h.mono (fun _ _ h => (h.frN hU).rd))) (hx2.mono (fun _ _ h => h.mono (fun _ _ h => h.frNone hU))) hx3)
          have HC := Lib.hid (show ∀ U, Fr noB u10 U → ((U.cell? ⟨bk, oo + (restL fs g).length * 16, none⟩ = some (.bool sl.o.secure) ∧ U.cell? ⟨bk, oo + (restL fs g).length * 16 + 1, none⟩ = some (.string sl.o.host) ∧ U.cell? ⟨bk, oo + (restL fs g).length * 16 + 2, none⟩ = some (.int .i64 sl.o.port) ∧ U.cell? ⟨bk, oo + (restL fs g).length * 16 + 3, none⟩ = some (.bool sl.proxy) ∧ U.cell? ⟨bk, oo + (restL fs g).length * 16 + 4, none⟩ = some (.string sl.user) ∧ U.cell? ⟨bk, oo + (restL fs g).length * 16 + 5, none⟩ = some (.string sl.pass) ∧ U.cell? ⟨bk, oo + (restL fs g).length * 16 + 6, none⟩ = some (.int .i64 sl.a.scheme) ∧ U.cell? ⟨bk, oo + (restL fs g).length * 16 + 7, none⟩ = some (.string sl.a.realm) ∧ U.cell? ⟨bk, oo + (restL fs g).length * 16 + 8, none⟩ = some (.string sl.a.nonce) ∧ U.cell? ⟨bk, oo + (restL fs g).length * 16 + 9, none⟩ = some (.string sl.a.opaq) ∧ U.cell? ⟨bk, oo + (restL fs g).length * 16 + 10, none⟩ = some (.bool sl.a.sess) ∧ U.cell? ⟨bk, oo + (restL fs g).length * 16 + 11, none⟩ = some (.string sl.a.qop) ∧ U.cell? ⟨bk, oo + (restL fs g).length * 16 + 12, none⟩ = some (.bool sl.a.stale) ∧ U.cell? ⟨bk, oo + (restL fs g).length * 16 + 13, none⟩ = some (sl.a.dom) ∧ U.cell? ⟨bk, oo + (restL fs g).length * 16 + 14, none⟩ = some (.int .i64 sl.count) ∧ U.cell? ⟨bk, oo + (restL fs g).length * 16 + 15, none⟩ = some (sl.paths)) ∧ U.cell? ⟨bw, 0, none⟩ = some (.bool q.o.secure) ∧ U.cell? ⟨bw, 1, none⟩ = some (.string q.o.host) ∧ U.cell? ⟨bw, 2, none⟩ = some (.int .i64 q.o.port) ∧ U.cell? ⟨bw, 3, none⟩ = some (.bool q.proxy) ∧ U.cell? ⟨bw, 4, none⟩ = some (.string q.user) ∧ U.cell? ⟨bw, 5, none⟩ = some (.string q.pass) ∧ U.cell? ⟨bw, 6, none⟩ = some (.int .i64 q.a.scheme) ∧ U.cell? ⟨bw, 7, none⟩ = some (.string q.a.realm) ∧ U.cell? ⟨bw, 8, none⟩ = some (.string q.a.nonce) ∧ U.cell? ⟨bw, 9, none⟩ = some (.string q.a.opaq) ∧ U.cell? ⟨bw, 10, none⟩ = some (.bool q.a.sess) ∧ U.cell? ⟨bw, 11, none⟩ = some (.string q.a.qop) ∧ U.cell? ⟨bw, 12, none⟩ = some (.bool q.a.stale) ∧ U.cell? ⟨bw, 13, none⟩ = some (q.a.dom) ∧ U.cell? ⟨bw, 14, none⟩ = some (.int .i64 q.count) ∧ U.cell? ⟨bw, 15, none⟩ = some (q.paths)) from fun U hU => by
            have X : ∀ (i : Nat) u, sl.cells[i]? = some u → U.cell? ⟨bk, oo + (restL fs g).length * 16 + i, none⟩ = some u := fun i u hu => (hU.cell (p := ⟨bk, oo + (restL fs g).length * 16 + i, none⟩) q3 (fun h => h)).trans (hY i u hu)
            have Y := grant_cells (hU.keep hw10 (fun h => h))
            exact ⟨⟨X 0 _ rfl, X 1 _ rfl, X 2 _ rfl, X 3 _ rfl, X 4 _ rfl, X 5 _ rfl, X 6 _ rfl, X 7 _ rfl, X 8 _ rfl, X 9 _ rfl, X 10 _ rfl, X 11 _ rfl, X 12 _ rfl, X 13 _ rfl, X 14 _ rfl, X 15 _ rfl⟩, Y⟩)
          clear hd hb10 hgi hgl hqr hrest hw10 hrd10 hF10 ho18 hb18 hl18 hat18 q3 q4 hsl hrl2 hY hx1 hx2 hx3 hbt hpre hf10 ho10 hown10 hgl2 HST HS9 HG9 HB9 HB14 HOF9 HN9 HG18
          generalize (restL fs g).length = rl at *
          have hA2 : (0 : Int) ≤ (rl : Int) := by omega
          have hB2 : (rl : Int) < (rl : Int) + 1 := by omega
          have hW2 : IntKind.i64.wrap (rl : Int) = (rl : Int) := IntWalk.i64_in _ (by omega)
          have hC2 : (rl : Int) + 1 - 1 = (rl : Int) := by omega
          have hS2 : (rl : Int) ≤ (cvx : Int) := by omega
          have hW3 : IntKind.i64.wrap ((rl : Int) + 1) = (rl : Int) + 1 := IntWalk.i64_in _ (by omega)
          go_wp2_with fail
          go_region_held3 (fun U => Fr noB u10 U ∧ (U.cell? ⟨bk, oo + rl * 16, none⟩ = some (.bool sl.o.secure) ∧ U.cell? ⟨bk, oo + rl * 16 + 1, none⟩ = some (.string sl.o.host) ∧ U.cell? ⟨bk, oo + rl * 16 + 2, none⟩ = some (.int .i64 sl.o.port) ∧ U.cell? ⟨bk, oo + rl * 16 + 3, none⟩ = some (.bool sl.proxy) ∧ U.cell? ⟨bk, oo + rl * 16 + 4, none⟩ = some (.string sl.user) ∧ U.cell? ⟨bk, oo + rl * 16 + 5, none⟩ = some (.string sl.pass) ∧ U.cell? ⟨bk, oo + rl * 16 + 6, none⟩ = some (.int .i64 sl.a.scheme) ∧ U.cell? ⟨bk, oo + rl * 16 + 7, none⟩ = some (.string sl.a.realm) ∧ U.cell? ⟨bk, oo + rl * 16 + 8, none⟩ = some (.string sl.a.nonce) ∧ U.cell? ⟨bk, oo + rl * 16 + 9, none⟩ = some (.string sl.a.opaq) ∧ U.cell? ⟨bk, oo + rl * 16 + 10, none⟩ = some (.bool sl.a.sess) ∧ U.cell? ⟨bk, oo + rl * 16 + 11, none⟩ = some (.string sl.a.qop) ∧ U.cell? ⟨bk, oo + rl * 16 + 12, none⟩ = some (.bool sl.a.stale) ∧ U.cell? ⟨bk, oo + rl * 16 + 13, none⟩ = some (sl.a.dom) ∧ U.cell? ⟨bk, oo + rl * 16 + 14, none⟩ = some (.int .i64 sl.count) ∧ U.cell? ⟨bk, oo + rl * 16 + 15, none⟩ = some (sl.paths)) ∧ U.cell? ⟨bw, 0, none⟩ = some (.bool q.o.secure) ∧ U.cell? ⟨bw, 1, none⟩ = some (.string q.o.host) ∧ U.cell? ⟨bw, 2, none⟩ = some (.int .i64 q.o.port) ∧ U.cell? ⟨bw, 3, none⟩ = some (.bool q.proxy) ∧ U.cell? ⟨bw, 4, none⟩ = some (.string q.user) ∧ U.cell? ⟨bw, 5, none⟩ = some (.string q.pass) ∧ U.cell? ⟨bw, 6, none⟩ = some (.int .i64 q.a.scheme) ∧ U.cell? ⟨bw, 7, none⟩ = some (.string q.a.realm) ∧ U.cell? ⟨bw, 8, none⟩ = some (.string q.a.nonce) ∧ U.cell? ⟨bw, 9, none⟩ = some (.string q.a.opaq) ∧ U.cell? ⟨bw, 10, none⟩ = some (.bool q.a.sess) ∧ U.cell? ⟨bw, 11, none⟩ = some (.string q.a.qop) ∧ U.cell? ⟨bw, 12, none⟩ = some (.bool q.a.stale) ∧ U.cell? ⟨bw, 13, none⟩ = some (q.a.dom) ∧ U.cell? ⟨bw, 14, none⟩ = some (.int .i64 q.count) ∧ U.cell? ⟨bw, 15, none⟩ = some (q.paths)) ((refine (fun hU => ⟨hU, HC.out _ hU⟩) ?_; repeat (first | exact Fr.refl _ _ | assumption | apply Fr.alloc | apply Fr.drew | refine Fr.trans ?_ (by assumption))))
            ((first
              | (go_at_call 19; refine (HSG.out _ (by repeat (first | exact Fr.refl _ _ | assumption | apply Fr.drew | apply Fr.alloc | refine Fr.trans ?_ (by assumption)))).mono ?_; rintro e w1 ⟨rfl, hw1⟩)
              | (go_at_call 18; refine (HEQ.out _ (by repeat (first | exact Fr.refl _ _ | assumption | apply Fr.drew | apply Fr.alloc | refine Fr.trans ?_ (by assumption)))).mono ?_; rintro e w2 ⟨rfl, hw2⟩)))
          all_goals
            have HFZ := Lib.hid (show Fr noB u10 w2 from by repeat (first | exact Fr.refl _ _ | assumption | apply Fr.drew | apply Fr.alloc | refine Fr.trans ?_ (by assumption)))
            clear hw1 hw2
            go_wp2
            go_ret
            exact ⟨rfl, (HF10.out.trans HFZ.out).none_below⟩
end Go.Proofs.YtkoobhgedoanhaaDoor
