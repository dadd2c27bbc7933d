/- The package bank: same, Drop; a bank's footprint. -/
import Derived.Test.YtkoobhgedoanhaaDoorBank4
import Derived.Test.YtkoobhgedoanhaaDoorRowGr
namespace Go.Proofs.YtkoobhgedoanhaaDoor
open Go.RowKit

theorem OwnRows.kind {b k : Nat} {e : TypeId} {w : World} {v : Value} {xs : List (List Value)} (h : OwnRows b e k w v xs) {g : Nat} (hg : own v g) : ∃ c, w.heap[g]? = some (.cells c e (0, 0)) := by
  obtain ⟨cap, cur, _, _, h2, _⟩ := h.open hg
  exact ⟨cur, h2⟩
/-- the blocks that a bank's methods write -/
def bankF (b : Nat) (gv wv : Value) : Nat → Prop := fun k => k = b ∨ own gv k ∨ own wv k
section
variable {base : Nat} {w w' : World} {b : Nat} {gv wv : Value} {gs : List (GrantOf Texts)} {ws : List (WaitOf Texts)}
theorem BankIs.gkind (h : BankIs base w b gv wv gs ws) {k : Nat} (hk : own gv k) : ∃ c, w.heap[k]? = some (.cells c 34 (0, 0)) := by
  obtain ⟨rs, h1, _⟩ := h.grants
  exact h1.kind hk
theorem BankIs.wkind (h : BankIs base w b gv wv gs ws) {k : Nat} (hk : own wv k) : ∃ c, w.heap[k]? = some (.cells c 215 (0, 0)) := by
  obtain ⟨rs, h1, _⟩ := h.waits
  exact h1.kind hk
theorem BankIs.gw (h : BankIs base w b gv wv gs ws) {k : Nat} (hk : own gv k) : ¬ own wv k := by
  intro h2
  obtain ⟨c, e1⟩ := h.gkind hk
  obtain ⟨d, e2⟩ := h.wkind h2
  rw [e1] at e2; cases e2
theorem BankIs.gb (h : BankIs base w b gv wv gs ws) : ¬ own gv b := by
  intro h2
  obtain ⟨c, e1⟩ := h.gkind h2
  have e2 := h.blk
  rw [e1] at e2; cases e2
theorem BankIs.wb (h : BankIs base w b gv wv gs ws) : ¬ own wv b := by
  intro h2
  obtain ⟨c, e1⟩ := h.wkind h2
  have e2 := h.blk
  rw [e1] at e2; cases e2
theorem BankIs.glow (h : BankIs base w b gv wv gs ws) {k : Nat} (hk : own gv k) : base ≤ k := by
  obtain ⟨rs, h1, _⟩ := h.grants
  exact h1.block k hk
theorem BankIs.wlow (h : BankIs base w b gv wv gs ws) {k : Nat} (hk : own wv k) : base ≤ k := by
  obtain ⟨rs, h1, _⟩ := h.waits
  exact h1.block k hk
theorem BankIs.off (h : BankIs base w b gv wv gs ws) : Off base w (bankF b gv wv) := by
  intro k hk _
  rcases hk with rfl | hk | hk
  · exact ⟨h.low, fun c f e => by rw [h.blk] at e; cases e⟩
  · obtain ⟨c, e1⟩ := h.gkind hk
    exact ⟨h.glow hk, fun c f e => by rw [e1] at e; cases e⟩
  · obtain ⟨c, e1⟩ := h.wkind hk
    exact ⟨h.wlow hk, fun c f e => by rw [e1] at e; cases e⟩
end
/-- a bank behind a method: what it holds; what was written; where it lies now -/
def BankPost (base : Nat) (w : World) (b : Nat) (gv wv : Value) (gs : List (GrantOf Texts)) (ws : List (WaitOf Texts)) (w' : World) : Prop :=
  ∃ gv' wv', BankIs base w' b gv' wv' gs ws ∧ Fr (bankF b gv wv) w w' ∧ ∀ k, bankF b gv' wv' k → bankF b gv wv k ∨ w.heap.size ≤ k

/-- bank.same -/
def sameB (go : Ori) (gx : Bool) (gr : ByteArray) (o : Ori) (proxy : Bool) (realm : ByteArray) : Bool := go.eqB o && (gx == proxy && gr.toList == realm.toList)
def sameG (o : Ori) (proxy : Bool) (realm : ByteArray) (g : GrantOf Texts) : Bool := sameB g.o g.proxy g.a.realm o proxy realm
def sameC (o : Ori) (proxy : Bool) (realm : ByteArray) (x : List Value) : Bool := sameB (oriC x) (cB x 3) (cS x 7) o proxy realm
set_option maxHeartbeats 1000000 in
set_option maxRecDepth 100000 in
theorem same_any (g : GrantOf Value) (o : Ori) (proxy : Bool) (realm : ByteArray) (w : World) :
    Calls Tryd.prog 97 #[.agg g.cells.toArray, .agg o.cells.toArray, .bool proxy, .string realm] w fun e w' => e = .returned (.bool (sameB g.o g.proxy g.a.realm o proxy realm)) ∧ Fr noB w w' := by
  have heq := run_eql_ori g.o o
  unfold GrantOf.cells Ori.cells
  cases e1 : g.o.eqB o
  · have HR := Lib.hid (show sameB g.o g.proxy g.a.realm o proxy realm = false by unfold sameB; rw [e1]; rfl)
    go_enter Tryd.func97, Tryd.ntmps97
    go_wp2
    go_ret
    exact ⟨by rw [HR.out]; rfl, ((Fr.refl _ _).alloc _).alloc _⟩
  · have HR := Lib.hid (show sameB g.o g.proxy g.a.realm o proxy realm = (g.proxy == proxy && g.a.realm.toList == realm.toList) by unfold sameB; rw [e1]; rfl)
    cases e2 : g.proxy == proxy
    · go_enter Tryd.func97, Tryd.ntmps97
      go_wp2
      go_ret
      exact ⟨by rw [HR.out, e2]; rfl, ((Fr.refl _ _).alloc _).alloc _⟩
    · go_enter Tryd.func97, Tryd.ntmps97
      go_wp2
      go_ret
      exact ⟨by rw [HR.out, e2]; rfl, ((Fr.refl _ _).alloc _).alloc _⟩
set_option maxHeartbeats 1000000 in
set_option maxRecDepth 100000 in
/-- Drop's closure -/
theorem Drop1_any (g : GrantOf Value) (hone : ∀ u ∈ g.cells, u.oneCell' = true) (o : Ori) (proxy : Bool) (realm : ByteArray) (bo bp br : Nat) (w : World) (ho : w.heap[bo]? = some (.cells #[.bool o.secure, .string o.host, .int .i64 o.port] 24 (0, 0)))
    (hp : w.heap[bp]? = some (.cells #[.bool proxy] 4 (0, 0))) (hr : w.heap[br]? = some (.cells #[.string realm] 9 (0, 0))) :
    Calls Tryd.prog 96 #[.agg g.cells.toArray, .pointer (some ⟨bo, 0, none⟩), .pointer (some ⟨bp, 0, none⟩), .pointer (some ⟨br, 0, none⟩)] w fun e w' => e = .returned (.bool (sameC o proxy realm g.cells)) ∧ Fr noB w w' := by
  obtain ⟨x, hx⟩ : ∃ x, x = g.cells := ⟨_, rfl⟩
  have hxk : x.length = 16 := by rw [hx]; rfl
  have HX := Lib.hid hx
  have hxi := Lib.hid (sizeGr hxk)
  have hst := fun W => run_storeCells_new (P := Tryd.prog) W 34 #[.bool false, .string ⟨#[]⟩, .int .i64 0, .bool false, .string ⟨#[]⟩, .string ⟨#[]⟩, .int .i64 0, .string ⟨#[]⟩, .string ⟨#[]⟩, .string ⟨#[]⟩, .bool false, .string ⟨#[]⟩, .bool false, .slice none 0 0, .int .i64 0, .slice none 0 0] x (by rw [hxk]; rfl) (by rw [hx]; exact hone)
  have hfa : Fr noB w (w.alloc (.cells x.toArray 34)) := (Fr.refl noB w).alloc _
  have ho2 := Lib.hid (hfa.keep ho (fun h => h))
  have hp2 := hfa.keep hp (fun h => h)
  have hr2 := hfa.keep hr (fun h => h)
  have cp : (w.alloc (.cells x.toArray 34)).cell? ⟨bp, 0, none⟩ = some (.bool proxy) := by simp only [World.cell?, hp2]; rfl
  have cr : (w.alloc (.cells x.toArray 34)).cell? ⟨br, 0, none⟩ = some (.string realm) := by simp only [World.cell?, hr2]; rfl
  have hcall := Lib.hid (same_any g o proxy realm (w.alloc (.cells x.toArray 34)))
  rw [← hx]
  rw [← hx] at hcall
  clear hx ho hp hr hp2 hr2
  go_enter Tryd.func96, Tryd.ntmps96
  go_wp2_with (first | ((with_reducible refine wpList_at ⟨some 6, _, _, _, _, _⟩ ?_); go_must (refine wpList_load_row rfl 34 (.tmp 4) rfl w.heap.size rfl _ x.toArray (0, 0) _ (new_block w _) Tryd.underlying34 rfl (by rw [List.size_toArray]; exact hxi.out) ?_)) | ((with_reducible refine wpList_at ⟨some 7, _, _, _, _, _⟩ ?_); go_must (refine wpList_load_row rfl 24 (.tmp 1) rfl bo rfl _ _ (0, 0) _ ho2.out Tryd.underlying24 rfl (by kernel_rfl) ?_)) | fail)
  refine hcall.out.mono ?_
  rintro e w2 ⟨rfl, hf2⟩
  go_wp2
  go_ret
  rw [HX.out]
  exact ⟨rfl, hfa.trans hf2⟩
theorem Drop1_answers (S : Nat → Prop) (w : World) (o : Ori) (proxy : Bool) (realm : ByteArray) (bo bp br : Nat) (rs : List (GrantOf Value)) (hone : ∀ r ∈ rs, ∀ u ∈ r.cells, u.oneCell' = true)
    (ho : w.heap[bo]? = some (.cells #[.bool o.secure, .string o.host, .int .i64 o.port] 24 (0, 0))) (hp : w.heap[bp]? = some (.cells #[.bool proxy] 4 (0, 0))) (hr : w.heap[br]? = some (.cells #[.string realm] 9 (0, 0)))
    (h1 : ¬ S bo) (h2 : ¬ S bp) (h3 : ¬ S br) :
    AnswersK S w 96 #[.pointer (some ⟨bo, 0, none⟩), .pointer (some ⟨bp, 0, none⟩), .pointer (some ⟨br, 0, none⟩)] (sameC o proxy realm) (rs.map GrantOf.cells) := by
  intro x hx u hu
  obtain ⟨r, hr0, rfl⟩ := List.mem_map.1 hx
  exact Drop1_any r (hone r hr0) o proxy realm bo bp br u (hu.keep ho h1) (hu.keep hp h2) (hu.keep hr h3)
theorem BankIs.setG {base : Nat} {w : World} {b : Nat} {gv0 gv wv : Value} {gs : List (GrantOf Texts)} {ws : List (WaitOf Texts)} (hl : base ≤ b) (hb : w.heap[b]? = some (.cells #[gv0, wv] 88 (0, 0))) (hg : GrantsIn base w gv gs) (hw : WaitsIn base w wv ws) :
    BankIs base (w.setCell ⟨b, 0, none⟩ gv) b gv wv gs ws := by
  have hof : Off base w (one b) := by
    rintro k rfl _
    exact ⟨hl, fun c f e => by rw [hb] at e; cases e⟩
  have hfs : Fr (one b) w (w.setCell ⟨b, 0, none⟩ gv) := (Fr.refl (one b) w).setCell (p := ⟨b, 0, none⟩) (fun _ => rfl) _
  refine ⟨hl, setCell_heap hb 0 gv, hg.fr hfs hof ?_, hw.fr hfs hof ?_⟩
  · rintro k hk rfl
    obtain ⟨rs, h1, _⟩ := hg
    obtain ⟨c, e⟩ := h1.kind hk
    rw [hb] at e; cases e
  · rintro k hk rfl
    obtain ⟨rs, h1, _⟩ := hw
    obtain ⟨c, e⟩ := h1.kind hk
    rw [hb] at e; cases e
theorem BankIs.setW {base : Nat} {w : World} {b : Nat} {wv0 gv wv : Value} {gs : List (GrantOf Texts)} {ws : List (WaitOf Texts)} (hl : base ≤ b) (hb : w.heap[b]? = some (.cells #[gv, wv0] 88 (0, 0))) (hg : GrantsIn base w gv gs) (hw : WaitsIn base w wv ws) :
    BankIs base (w.setCell ⟨b, 1, none⟩ wv) b gv wv gs ws := by
  have hof : Off base w (one b) := by
    rintro k rfl _
    exact ⟨hl, fun c f e => by rw [hb] at e; cases e⟩
  have hfs : Fr (one b) w (w.setCell ⟨b, 1, none⟩ wv) := (Fr.refl (one b) w).setCell (p := ⟨b, 1, none⟩) (fun _ => rfl) _
  refine ⟨hl, setCell_heap hb 1 wv, hg.fr hfs hof ?_, hw.fr hfs hof ?_⟩
  · rintro k hk rfl
    obtain ⟨rs, h1, _⟩ := hg
    obtain ⟨c, e⟩ := h1.kind hk
    rw [hb] at e; cases e
  · rintro k hk rfl
    obtain ⟨rs, h1, _⟩ := hw
    obtain ⟨c, e⟩ := h1.kind hk
    rw [hb] at e; cases e
/-- the grants that stay -/
theorem GrantsIn.filtered {base : Nat} {w : World} {v : Value} {rs : List (GrantOf Value)} {gs : List (GrantOf Texts)} {p : List Value → Bool} {q : GrantOf Texts → Bool} (h1 : OwnRows base 34 16 w v ((rs.map GrantOf.cells).filter (fun x => !p x))) (h2 : Both (GrantOf.Reads (StrsIn base w)) rs gs)
    (hpq : ∀ r g, GrantOf.Reads (StrsIn base w) r g → p r.cells = q g) : GrantsIn base w v (gs.filter (fun g => !q g)) ∧ ((rs.map GrantOf.cells).filter (fun x => !p x)).length = (gs.filter (fun g => !q g)).length := by
  have hb : Both (GrantOf.Reads (StrsIn base w)) (rs.filter (fun r => !p r.cells)) (gs.filter (fun g => !q g)) := h2.filter (fun r g h => by rw [hpq r g h])
  have he : (rs.map GrantOf.cells).filter (fun x => !p x) = (rs.filter (fun r => !p r.cells)).map GrantOf.cells := by rw [List.filter_map]; rfl
  refine ⟨⟨_, by rw [he] at h1; exact h1, hb⟩, ?_⟩
  rw [he, List.length_map, hb.len]
theorem sameC_reads {base : Nat} {w : World} {r : GrantOf Value} {g : GrantOf Texts} (h : GrantOf.Reads (StrsIn base w) r g) (o : Ori) (proxy : Bool) (realm : ByteArray) : sameC o proxy realm r.cells = sameG o proxy realm g := by
  obtain ⟨h1, h2, _, _, ⟨_, h3, _⟩, _⟩ := h
  unfold sameG
  rw [← h1, ← h2, ← h3]
  rfl

def DropPost (base : Nat) (w : World) (b : Nat) (gv wv : Value) (gs : List (GrantOf Texts)) (ws : List (WaitOf Texts)) (q : GrantOf Texts → Bool) (e : Ending) (w' : World) : Prop :=
  e = .returned (.bool (decide ((gs.filter (fun g => !q g)).length < gs.length))) ∧ BankPost base w b gv wv (gs.filter (fun g => !q g)) ws w'
set_option maxHeartbeats 2000000 in
set_option maxRecDepth 100000 in
theorem Drop_any (base : Nat) (w : World) (b : Nat) (gv wv : Value) (gs : List (GrantOf Texts)) (ws : List (WaitOf Texts)) (o : Ori) (proxy : Bool) (realm : ByteArray) (h : BankIs base w b gv wv gs ws) :
    Calls Tryd.prog 76 #[.pointer (some ⟨b, 0, none⟩), .agg o.cells.toArray, .bool proxy, .string realm] w (DropPost base w b gv wv gs ws (sameG o proxy realm)) := by
  unfold Ori.cells
  obtain ⟨av, cv, hv⟩ := h.grants.form
  subst hv
  have hlt := h.lt
  have hlow := h.low
  have hf0 : Fr noB w _ := (((Fr.refl noB w).alloc (.cells #[.bool o.secure, .string o.host, .int .i64 o.port] 24)).alloc (.cells #[.bool proxy] 4)).alloc (.cells #[.string realm] 9)
  have b0 : (((w.alloc (.cells #[.bool o.secure, .string o.host, .int .i64 o.port] 24)).alloc (.cells #[.bool proxy] 4)).alloc (.cells #[.string realm] 9)).heap[w.heap.size]? = some (.cells #[.bool o.secure, .string o.host, .int .i64 o.port] 24 (0, 0)) := by
    rw [Below.heap_alloc _ _ _ (by simp; omega), Below.heap_alloc _ _ _ (by simp)]; exact new_block _ _
  have b1 : (((w.alloc (.cells #[.bool o.secure, .string o.host, .int .i64 o.port] 24)).alloc (.cells #[.bool proxy] 4)).alloc (.cells #[.string realm] 9)).heap[w.heap.size + 1]? = some (.cells #[.bool proxy] 4 (0, 0)) := by
    rw [Below.heap_alloc _ _ _ (by simp)]
    have h := new_block (w.alloc (.cells #[.bool o.secure, .string o.host, .int .i64 o.port] 24)) (.cells #[.bool proxy] 4)
    simpa using h
  have b2 : (((w.alloc (.cells #[.bool o.secure, .string o.host, .int .i64 o.port] 24)).alloc (.cells #[.bool proxy] 4)).alloc (.cells #[.string realm] 9)).heap[w.heap.size + 2]? = some (.cells #[.string realm] 9 (0, 0)) := by
    have h := new_block ((w.alloc (.cells #[.bool o.secure, .string o.host, .int .i64 o.port] 24)).alloc (.cells #[.bool proxy] 4)) (.cells #[.string realm] 9)
    simpa using h
  have h1 := h.frN hf0
  have h0 := h1.c0
  have B0 := Lib.hid b0
  have B1 := Lib.hid b1
  have B2 := Lib.hid b2
  clear b0 b1 b2
  go_enter Tryd.func76, Tryd.ntmps76
  go_wp2_with fail
  clear h0
  generalize ((w.alloc (.cells _ 24)).alloc _).alloc _ = W at *
  obtain ⟨rs, ho1, ho2⟩ := h1.grants
  have hone : ∀ r ∈ rs, ∀ u ∈ r.cells, u.oneCell' = true := fun r hr => (ho1.1 r.cells (List.mem_map.2 ⟨r, hr, rfl⟩)).2
  have hW : w.heap.size ≤ W.heap.size := hf0.size
  have hkg : ∀ k, own (.slice av gs.length cv) k → k < w.heap.size := fun k hk => by
    obtain ⟨c, e⟩ := h.gkind hk
    exact lt_of_some e
  have hd := Lib.hid (DeleteFunc_Gr base 96 #[.pointer (some ⟨w.heap.size, 0, none⟩), .pointer (some ⟨w.heap.size + 1, 0, none⟩), .pointer (some ⟨w.heap.size + 1 + 1, 0, none⟩)] (sameC o proxy realm) _ _ W Tryd.call96
    (Drop1_answers _ W o proxy realm w.heap.size (w.heap.size + 1) (w.heap.size + 1 + 1) rs hone B0.out B1.out B2.out (fun hk => by have := hkg _ hk; omega) (fun hk => by have := hkg _ hk; omega) (fun hk => by have := hkg _ hk; omega)) ho1)
  refine hd.out.mono ?_
  rintro e w2 ⟨a2, c2, rfl, ho3, hf2, hown2⟩
  have ho2' := ho2.mono (fun _ _ h => h.mono (fun _ _ h => h.fr hf2 (fun k hk hl => h1.off k (Or.inr (Or.inl hk)) hl)))
  obtain ⟨hgi, hgl⟩ := GrantsIn.filtered ho3 ho2' (fun r g h => sameC_reads h o proxy realm)
  rw [hgl] at hgi hown2 ⊢
  have hb2 := hf2.keep h1.blk h1.gb
  have hw2 := h1.waits.fr hf2 (fun k hk hl => h1.off k (Or.inr (Or.inl hk)) hl) (fun k hk hg => h1.gw hg hk)
  have hset := Lib.hid (BankIs.setG hlow hb2 hgi hw2)
  have c0 : w2.cell? ⟨b, 0, none⟩ = some (.slice av gs.length cv) := by simp [World.cell?, hb2]
  have f0 : w2.frozen? ⟨b, 0, none⟩ = false := by simp [World.frozen?, hb2]
  have HB0 : Fr (bankF b (.slice av gs.length cv) wv) w w2 := Fr.step (hf0.mono (fun _ _ h => absurd h (fun h => h))) hf2 (fun k _ hk => Or.inr (Or.inl hk))
  have HB := HB0.setCell (p := ⟨b, 0, none⟩) (fun _ => Or.inl rfl) (.slice a2 (gs.filter (fun g => !sameG o proxy realm g)).length c2)
  have hfoot : ∀ k, bankF b (.slice a2 (gs.filter (fun g => !sameG o proxy realm g)).length c2) wv k → bankF b (.slice av gs.length cv) wv k ∨ w.heap.size ≤ k := by
    intro k hk
    unfold bankF at hk
    rw [hown2] at hk
    exact Or.inl hk
  clear hd ho1 ho2 ho2' ho3 hb2 hw2 hgi h1 hone hkg hgl HB0
  obtain ⟨fs, hfs⟩ : ∃ fs, fs = gs.filter (fun g => !sameG o proxy realm g) := ⟨_, rfl⟩
  rw [← hfs] at hset hown2 HB hfoot ⊢
  have HFS := Lib.hid hfs
  clear hfs
  go_wp2_with fail
  go_ret
  unfold DropPost
  rw [← HFS.out]
  exact ⟨ret_bool (by simp), _, _, hset.out, HB, hfoot⟩
end Go.Proofs.YtkoobhgedoanhaaDoor
