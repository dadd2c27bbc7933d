/- The package bank: Sweep. -/
import Derived.Test.YteffnckhapmpgaaBank6
namespace Go.Proofs.Yteffnckhapmpgaa
open Go.RowKit

/-- of an origin -/
def ofO (o : Ori) (g : GrantOf Texts) : Bool := g.o.eqB o
def ofOW (o : Ori) (g : WaitOf Texts) : Bool := g.o.eqB o
def ofC (o : Ori) (x : List Value) : Bool := (oriC x).eqB o
set_option maxHeartbeats 1000000 in
set_option maxRecDepth 100000 in
theorem Sweep1_any (g : GrantOf Value) (o : Ori) (bo : Nat) (w : World) (ho : w.heap[bo]? = some (.cells #[.bool o.secure, .string o.host, .int .i64 o.port] 38 (0, 0))) :
    Calls Try.prog 72 #[.agg g.cells.toArray, .pointer (some ⟨bo, 0, none⟩)] w fun e w' => e = .returned (.bool (ofC o g.cells)) ∧ Fr noB w w' := by
  have hC := Lib.hid (show ofC o g.cells = g.o.eqB o from rfl)
  have heq := run_eql_ori g.o o
  rw [hC.out]
  unfold GrantOf.cells
  have hfa : Fr noB w _ := (Fr.refl noB w).alloc (.cells #[.bool g.o.secure, .string g.o.host, .int .i64 g.o.port, .bool g.proxy, .string g.user, .string g.pass, .int .i64 g.a.scheme, .string g.a.realm, .string g.a.nonce, .string g.a.opaq, .bool g.a.sess, .string g.a.qop, .bool g.a.stale, g.a.dom, .int .i64 g.count, g.paths] 48)
  have ho2 := Lib.hid (hfa.keep ho (fun h => h))
  clear hC ho
  go_enter Try.func72, Try.ntmps72
  go_wp2_with (first | ((with_reducible refine wpList_at ⟨some 6, _, _, _, _, _⟩ ?_); go_must (refine wpList_load_row rfl 38 (.tmp 1) rfl bo rfl _ _ (0, 0) _ ho2.out Try.underlying38 rfl (by kernel_rfl) ?_)) | fail)
  go_ret
  exact ⟨rfl, hfa⟩
set_option maxHeartbeats 1000000 in
set_option maxRecDepth 100000 in
theorem Sweep2_any (g : WaitOf Value) (o : Ori) (bo : Nat) (w : World) (ho : w.heap[bo]? = some (.cells #[.bool o.secure, .string o.host, .int .i64 o.port] 38 (0, 0))) :
    Calls Try.prog 74 #[.agg g.cells.toArray, .pointer (some ⟨bo, 0, none⟩)] w fun e w' => e = .returned (.bool (ofC o g.cells)) ∧ Fr noB w w' := by
  have hC := Lib.hid (show ofC o g.cells = g.o.eqB o from rfl)
  have heq := run_eql_ori g.o o
  rw [hC.out]
  unfold WaitOf.cells
  have hfa : Fr noB w _ := (Fr.refl noB w).alloc (.cells #[.bool g.o.secure, .string g.o.host, .int .i64 g.o.port, .bool g.proxy, .string g.path, .int .i64 g.a.scheme, .string g.a.realm, .string g.a.nonce, .string g.a.opaq, .bool g.a.sess, .string g.a.qop, .bool g.a.stale, g.a.dom] 66)
  have ho2 := Lib.hid (hfa.keep ho (fun h => h))
  clear hC ho
  go_enter Try.func74, Try.ntmps74
  go_wp2_with (first | ((with_reducible refine wpList_at ⟨some 6, _, _, _, _, _⟩ ?_); go_must (refine wpList_load_row rfl 38 (.tmp 1) rfl bo rfl _ _ (0, 0) _ ho2.out Try.underlying38 rfl (by kernel_rfl) ?_)) | fail)
  go_ret
  exact ⟨rfl, hfa⟩
theorem Sweep1_answers (S : Nat → Prop) (w : World) (o : Ori) (bo : Nat) (rs : List (GrantOf Value))
    (ho : w.heap[bo]? = some (.cells #[.bool o.secure, .string o.host, .int .i64 o.port] 38 (0, 0))) (h1 : ¬ S bo) :
    AnswersK S w 72 #[.pointer (some ⟨bo, 0, none⟩)] (ofC o) (rs.map GrantOf.cells) := by
  intro x hx u hu
  obtain ⟨r, hr0, rfl⟩ := List.mem_map.1 hx
  exact Sweep1_any r o bo u (hu.keep ho h1)
theorem Sweep2_answers (S : Nat → Prop) (w : World) (o : Ori) (bo : Nat) (rs : List (WaitOf Value))
    (ho : w.heap[bo]? = some (.cells #[.bool o.secure, .string o.host, .int .i64 o.port] 38 (0, 0))) (h1 : ¬ S bo) :
    AnswersK S w 74 #[.pointer (some ⟨bo, 0, none⟩)] (ofC o) (rs.map WaitOf.cells) := by
  intro x hx u hu
  obtain ⟨r, hr0, rfl⟩ := List.mem_map.1 hx
  exact Sweep2_any r o bo u (hu.keep ho h1)
theorem ofC_reads {base : Nat} {w : World} {r : GrantOf Value} {g : GrantOf Texts} (h : GrantOf.Reads (StrsIn base w) r g) (o : Ori) : ofC o r.cells = ofO o g := by
  unfold ofO; rw [← h.1]; rfl
theorem ofC_readsW {base : Nat} {w : World} {r : WaitOf Value} {g : WaitOf Texts} (h : WaitOf.Reads (StrsIn base w) r g) (o : Ori) : ofC o r.cells = ofOW o g := by
  unfold ofOW; rw [← h.1]; rfl
theorem WaitsIn.filtered {base : Nat} {w : World} {v : Value} {rs : List (WaitOf Value)} {gs : List (WaitOf Texts)} {p : List Value → Bool} {q : WaitOf Texts → Bool} (h1 : OwnRows base 66 13 w v ((rs.map WaitOf.cells).filter (fun x => !p x))) (h2 : Both (WaitOf.Reads (StrsIn base w)) rs gs)
    (hpq : ∀ r g, WaitOf.Reads (StrsIn base w) r g → p r.cells = q g) : WaitsIn base w v (gs.filter (fun g => !q g)) ∧ ((rs.map WaitOf.cells).filter (fun x => !p x)).length = (gs.filter (fun g => !q g)).length := by
  have hb : Both (WaitOf.Reads (StrsIn base w)) (rs.filter (fun r => !p r.cells)) (gs.filter (fun g => !q g)) := h2.filter (fun r g h => by rw [hpq r g h])
  have he : (rs.map WaitOf.cells).filter (fun x => !p x) = (rs.filter (fun r => !p r.cells)).map WaitOf.cells := by rw [List.filter_map]; rfl
  refine ⟨⟨_, by rw [he] at h1; exact h1, hb⟩, ?_⟩
  rw [he, List.length_map, hb.len]

def SweepPost (base : Nat) (w : World) (b : Nat) (gv wv : Value) (gs : List (GrantOf Texts)) (ws : List (WaitOf Texts)) (o : Ori) (e : Ending) (w' : World) : Prop :=
  e = .returned (.int .i64 ((gs.length : Int) - ((gs.filter (fun g => !ofO o g)).length : Int))) ∧ BankPost base w b gv wv (gs.filter (fun g => !ofO o g)) (ws.filter (fun g => !ofOW o g)) w'
set_option maxHeartbeats 2000000 in
set_option maxRecDepth 100000 in
theorem Sweep_any (base : Nat) (w : World) (b : Nat) (gv wv : Value) (gs : List (GrantOf Texts)) (ws : List (WaitOf Texts)) (o : Ori) (h : BankIs base w b gv wv gs ws) (hgl : gs.length < 34359738368) :
    Calls Try.prog 43 #[.pointer (some ⟨b, 0, none⟩), .agg o.cells.toArray] w (SweepPost base w b gv wv gs ws o) := by
  unfold Ori.cells
  obtain ⟨av, cv, hv⟩ := h.grants.form
  obtain ⟨aw, cw, hw⟩ := h.waits.form
  subst hv hw
  have hlt := h.lt
  have hlow := h.low
  have hf0 : Fr noB w (w.alloc (.cells #[.bool o.secure, .string o.host, .int .i64 o.port] 38)) := (Fr.refl noB w).alloc _
  have b0 : (w.alloc (.cells #[.bool o.secure, .string o.host, .int .i64 o.port] 38)).heap[w.heap.size]? = some (.cells #[.bool o.secure, .string o.host, .int .i64 o.port] 38 (0, 0)) := new_block _ _
  have h1 := h.frN hf0
  have h0 := h1.c0
  have B0 := Lib.hid b0
  clear b0
  go_enter Try.func43, Try.ntmps43
  go_wp2_with fail
  clear h0
  generalize w.alloc (.cells _ 38) = W at *
  obtain ⟨rs, ho1, ho2⟩ := h1.grants
  have hW : w.heap.size ≤ W.heap.size := hf0.size
  have hkg : ∀ k, own (.slice av gs.length cv) k → k < w.heap.size := fun k hk => by
    obtain ⟨c, e⟩ := h.gkind hk
    exact lt_of_some e
  have hkw : ∀ k, own (.slice aw ws.length cw) k → k < w.heap.size := fun k hk => by
    obtain ⟨c, e⟩ := h.wkind hk
    exact lt_of_some e
  have hd := Lib.hid (DeleteFunc_Gr base 72 #[.pointer (some ⟨w.heap.size, 0, none⟩)] (ofC o) _ _ W Try.call72
    (Sweep1_answers _ W o w.heap.size rs B0.out (fun hk => by have := hkg _ hk; omega)) ho1)
  refine hd.out.mono ?_
  rintro e w2 ⟨a2, c2, rfl, ho3, hf2, hown2⟩
  have ho2' := ho2.mono (fun _ _ h => h.mono (fun _ _ h => h.fr hf2 (fun k hk hl => h1.off k (Or.inr (Or.inl hk)) hl)))
  obtain ⟨hgi, hgl2⟩ := GrantsIn.filtered ho3 ho2' (fun r g h => ofC_reads h o)
  rw [hgl2] at hgi hown2 ⊢
  have hb2 := hf2.keep h1.blk h1.gb
  have hw2 := h1.waits.fr hf2 (fun k hk hl => h1.off k (Or.inr (Or.inl hk)) hl) (fun k hk hg => h1.gw hg hk)
  have hset := BankIs.setG hlow hb2 hgi hw2
  have c0 : w2.cell? ⟨b, 0, none⟩ = some (.slice av gs.length cv) := by simp [World.cell?, hb2]
  have f0 : w2.frozen? ⟨b, 0, none⟩ = false := by simp [World.frozen?, hb2]
  have HB0 : Fr (bankF b (.slice av gs.length cv) (.slice aw ws.length cw)) w w2 := Fr.step (hf0.mono (fun _ _ h => absurd h (fun h => h))) hf2 (fun k _ hk => Or.inr (Or.inl hk))
  have HB := HB0.setCell (p := ⟨b, 0, none⟩) (fun _ => Or.inl rfl) (.slice a2 (gs.filter (fun g => !ofO o g)).length c2)
  have hbo2 := hf2.keep B0.out (fun hk => by have := hkg _ hk; omega)
  have hbo3 : (w2.setCell ⟨b, 0, none⟩ (.slice a2 (gs.filter (fun g => !ofO o g)).length c2)).heap[w.heap.size]? = _ := (setCell_other (by omega) 0 _).trans hbo2
  have hfoot : ∀ k, bankF b (.slice a2 (gs.filter (fun g => !ofO o g)).length c2) (.slice aw ws.length cw) k → bankF b (.slice av gs.length cv) (.slice aw ws.length cw) k ∨ w.heap.size ≤ k := by
    intro k hk
    unfold bankF at hk
    rw [hown2] at hk
    exact Or.inl hk
  have hfl : (gs.filter (fun g => !ofO o g)).length ≤ gs.length := List.length_filter_le _ _
  clear hd ho1 ho2 ho2' ho3 hb2 hw2 hgi h1 hkg hgl2 HB0 hbo2
  obtain ⟨fs, hfs⟩ : ∃ fs, fs = gs.filter (fun g => !ofO o g) := ⟨_, rfl⟩
  rw [← hfs] at hset hown2 HB hfoot hbo3 hfl ⊢
  have HFS := Lib.hid hfs
  have HSET := Lib.hid hset
  have HBO := Lib.hid hbo3
  have k1 := hset.c1
  clear hfs hset hbo3
  go_wp2_with fail
  clear c0 f0 k1
  generalize w2.setCell ⟨b, 0, none⟩ (.slice a2 fs.length c2) = w3 at *
  have h3 := HSET.out
  obtain ⟨rw', hq1, hq2⟩ := h3.waits
  have hd := Lib.hid (DeleteFunc_Wa base 74 #[.pointer (some ⟨w.heap.size, 0, none⟩)] (ofC o) _ _ w3 Try.call74
    (Sweep2_answers _ w3 o w.heap.size rw' HBO.out (fun hk => by have := hkw _ hk; omega)) hq1)
  refine hd.out.mono ?_
  rintro e w4 ⟨a4, c4, rfl, hq3, hf4, hown4⟩
  have hq2' := hq2.mono (fun _ _ h => h.mono (fun _ _ h => h.fr hf4 (fun k hk hl => h3.off k (Or.inr (Or.inr hk)) hl)))
  obtain ⟨hwi, hwl⟩ := WaitsIn.filtered hq3 hq2' (fun r g h => ofC_readsW h o)
  rw [hwl] at hwi hown4 ⊢
  have hb4 := hf4.keep h3.blk h3.wb
  have hg4 := h3.grants.fr hf4 (fun k hk hl => h3.off k (Or.inr (Or.inr hk)) hl) (fun k hk hg => h3.gw hk hg)
  have hset := BankIs.setW hlow hb4 hg4 hwi
  have c1 : w4.cell? ⟨b, 1, none⟩ = some (.slice aw ws.length cw) := by simp [World.cell?, hb4]
  have f1 : w4.frozen? ⟨b, 1, none⟩ = false := by simp [World.frozen?, hb4]
  have HB4 := HB.step hf4 (fun k _ hk => Or.inr (Or.inr hk))
  have HB5 := HB4.setCell (p := ⟨b, 1, none⟩) (fun _ => Or.inl rfl) (.slice a4 (ws.filter (fun g => !ofOW o g)).length c4)
  have hfoot2 : ∀ k, bankF b (.slice a2 fs.length c2) (.slice a4 (ws.filter (fun g => !ofOW o g)).length c4) k → bankF b (.slice av gs.length cv) (.slice aw ws.length cw) k ∨ w.heap.size ≤ k := by
    intro k hk
    refine hfoot k ?_
    unfold bankF at hk ⊢
    rw [hown4] at hk
    exact hk
  obtain ⟨fw, hfw⟩ : ∃ fw, fw = ws.filter (fun g => !ofOW o g) := ⟨_, rfl⟩
  rw [← hfw] at hset hown4 HB5 hfoot2 ⊢
  have HFW := Lib.hid hfw
  have HSET5 := Lib.hid hset
  have HB5' := Lib.hid HB5
  have k0 := hset.c0
  clear hfw hset hd hq1 hq2 hq2' hq3 hwi hwl hb4 hg4 h3 HB HB4 HB5 hfoot HSET HBO
  go_wp2_with fail
  go_ret
  unfold SweepPost
  rw [← HFS.out, ← HFW.out]
  exact ⟨rfl, _, _, HSET5.out, HB5'.out, hfoot2⟩
end Go.Proofs.Yteffnckhapmpgaa
