/- The package bank: Use. -/
import Derived.Test.YtkoobhgedoanhaaDoorBank6
namespace Go.Proofs.YtkoobhgedoanhaaDoor
open Go.RowKit

def GrantOf.used {D : Type} (g : GrantOf D) : GrantOf D := { g with count := g.count + 1 }
/-- bank.Use: what the bank holds then, and what is answered: an error's number, or the grant -/
def useL (gs : List (GrantOf Texts)) (o : Ori) (proxy : Bool) (path : ByteArray) : List (GrantOf Texts) × Except Nat (GrantOf Texts) :=
  if 0 ≤ findI gs o proxy path then
    match gs[(findI gs o proxy path).toNat]? with
    | some g =>
      let l := gs.take (findI gs o proxy path).toNat ++ gs.drop ((findI gs o proxy path).toNat + 1)
      if 4294967295 ≤ g.count then (l, .error 12) else (l ++ [g.used], .ok g.used)
    | none => (gs, .error 8)
  else (gs, .error 8)
def UsePost (base : Nat) (w : World) (b : Nat) (gv wv : Value) (ws : List (WaitOf Texts)) (u : List (GrantOf Texts) × Except Nat (GrantOf Texts)) (e : Ending) (w' : World) : Prop :=
  BankPost base w b gv wv u.1 ws w' ∧ match u.2 with
  | .error n => e = .returned (.tuple #[.agg zGrant, .iface 46 (.int .i64 n)])
  | .ok g => ∃ r : GrantOf Value, e = .returned (.tuple #[.agg r.cells.toArray, .nilIface]) ∧ r.Reads (StrsIn base w') g ∧ ∀ u ∈ r.cells, u.oneCell' = true
theorem BankPost.same {base : Nat} {w w' : World} {b : Nat} {gv wv : Value} {gs : List (GrantOf Texts)} {ws : List (WaitOf Texts)} (h : BankIs base w b gv wv gs ws) (hf : Fr noB w w') : BankPost base w b gv wv gs ws w' :=
  ⟨gv, wv, h.frN hf, hf.mono (fun _ _ h => absurd h (fun h => h)), fun _ hk => Or.inl hk⟩

theorem del_grants {base : Nat} {w5 w6 : World} {b gg cap i n : Nat} {wv : Value} {ls : List (GrantOf Texts)} {ws : List (WaitOf Texts)} {rs : List (GrantOf Value)} (h5 : BankIs base w5 b (.slice (some ⟨gg, 0, none⟩) ls.length cap) wv ls ws)
    (hb : Both (GrantOf.Reads (StrsIn base w5)) rs ls) (ho6 : OwnRows base 34 16 w6 (.slice (some ⟨gg, 0, none⟩) (i + (ls.length - n)) cap) ((rs.map GrantOf.cells).take i ++ (rs.map GrantOf.cells).drop n)) (hf6 : Fr (one gg) w5 w6) :
    BankIs base (w6.setCell ⟨b, 0, none⟩ (.slice (some ⟨gg, 0, none⟩) (i + (ls.length - n)) cap)) b (.slice (some ⟨gg, 0, none⟩) (i + (ls.length - n)) cap) wv (ls.take i ++ ls.drop n) ws ∧
    Fr (bankF b (.slice (some ⟨gg, 0, none⟩) ls.length cap) wv) w5 (w6.setCell ⟨b, 0, none⟩ (.slice (some ⟨gg, 0, none⟩) (i + (ls.length - n)) cap)) ∧ w6.cell? ⟨b, 0, none⟩ = some (.slice (some ⟨gg, 0, none⟩) ls.length cap) ∧ w6.frozen? ⟨b, 0, none⟩ = false := by
  have hlow := h5.low
  have hone : ∀ k, one gg k → own (.slice (some ⟨gg, 0, none⟩) ls.length cap) k := fun k hk => by have e : k = gg := hk; rw [e]; rfl
  have hoff : Off base w5 (one gg) := fun k hk hl => h5.off k (Or.inr (Or.inl (hone k hk))) hl
  have hbk := hf6.keep h5.blk (fun h => h5.gb (hone _ h))
  have hw6 : WaitsIn base w6 wv ws := h5.waits.fr hf6 hoff (fun k hk hg => h5.gw (hone _ hg) hk)
  have hm := hb.mono (fun _ _ h => h.mono (fun _ _ h => h.fr hf6 hoff))
  have hg6 : GrantsIn base w6 (.slice (some ⟨gg, 0, none⟩) (i + (ls.length - n)) cap) (ls.take i ++ ls.drop n) := by
    refine ⟨rs.take i ++ rs.drop n, ?_, (hm.take i).app (hm.drop n)⟩
    rw [List.map_append, List.map_take, List.map_drop]
    exact ho6
  have hF0 : Fr (bankF b (.slice (some ⟨gg, 0, none⟩) ls.length cap) wv) w5 w6 := hf6.mono (fun k _ hk => Or.inr (Or.inl (hone k hk)))
  exact ⟨BankIs.setG hlow hbk hg6 hw6, hF0.setCell (p := ⟨b, 0, none⟩) (fun _ => Or.inl rfl) _, by simp [World.cell?, hbk], by simp [World.frozen?, hbk]⟩
set_option maxHeartbeats 8000000 in
set_option maxRecDepth 100000 in
theorem Use_any (base : Nat) (w : World) (b : Nat) (gv wv : Value) (gs : List (GrantOf Texts)) (ws : List (WaitOf Texts)) (o : Ori) (proxy : Bool) (path : ByteArray) (h : BankIs base w b gv wv gs ws) (hgl : gs.length < 34359738368) (hcn : ∀ g ∈ gs, 0 ≤ g.count) :
    Calls Tryd.prog 16 #[.pointer (some ⟨b, 0, none⟩), .agg o.cells.toArray, .bool proxy, .string path] w (UsePost base w b gv wv ws (useL gs o proxy path)) := by
  unfold Ori.cells
  have hlt := h.lt
  have hlow := h.low
  have hf0 : Fr noB w _ := ((Fr.refl noB w).alloc (.cells #[.bool o.secure, .string o.host, .int .i64 o.port] 24)).alloc (.cells zGrant 34)
  have b1 := new_block (w.alloc (.cells #[.bool o.secure, .string o.host, .int .i64 o.port] 24)) (.cells zGrant 34)
  rw [show (w.alloc (.cells #[.bool o.secure, .string o.host, .int .i64 o.port] 24)).heap.size = w.heap.size + 1 from by simp] at b1
  have h1 := h.frN hf0
  have hfind := Lib.hid (find_any base _ b gv wv gs ws o proxy path h1)
  have HB1 := Lib.hid b1
  clear b1
  go_enter Tryd.func16, Tryd.ntmps16
  go_wp2_with fail
  generalize (w.alloc (.cells _ 24)).alloc _ = W at *
  refine hfind.out.mono ?_
  rintro e u1 ⟨rfl, hf1⟩
  have b1' := Lib.hid (hf1.keep HB1.out (fun h => h))
  have HF := hf0.trans hf1
  have h2 := h1.frN hf1
  clear hfind HB1 hf0 hf1 h1
  have hws : w.heap.size + 1 < u1.heap.size := lt_of_some b1'.out
  rcases findI_in gs o proxy path with ⟨k, hk, he⟩ | he
  · obtain ⟨bk, c, hf2, hml, r, hone, hr, hcell⟩ := h2.grants.at hk
    subst hf2
    unfold maxLen at hml
    have d0 := h2.c0
    obtain ⟨x, hx⟩ : ∃ x, x = r.cells := ⟨_, rfl⟩
    have hxk : x.length = 16 := by rw [hx]; rfl
    have hst := fun W => run_storeCells_new (P := Tryd.prog) W 34 #[.bool false, .string ⟨#[]⟩, .int .i64 0, .bool false, .string ⟨#[]⟩, .string ⟨#[]⟩, .int .i64 0, .string ⟨#[]⟩, .string ⟨#[]⟩, .string ⟨#[]⟩, .bool false, .string ⟨#[]⟩, .bool false, .slice none 0 0, .int .i64 0, .slice none 0 0] x (by rw [hxk]; rfl) (by rw [hx]; exact hone)
    have hxi := Lib.hid (show (Tryd.prog.info? 34).map (·.size) = some x.length by rw [hxk]; kernel_rfl)
    have hcount : r.count = gs[k].count := hr.2.2.2.2.2.1
    have hc0 : 0 ≤ r.count := by rw [hcount]; exact hcn _ (List.getElem_mem hk)
    have HX := Lib.hid hx
    have HE := Lib.hid he
    rw [← hx] at hcell
    have hub : b < u1.heap.size := h2.lt
    have hfa : Fr noB u1 (u1.alloc (.cells x.toArray 34)) := (Fr.refl noB u1).alloc _
    have hbx : (u1.alloc (.cells x.toArray 34)).heap[u1.heap.size]? = some (.cells x.toArray 34 (0, 0)) := new_block _ _
    have h3 := h2.frN hfa
    have hr3 := hr.mono (fun _ _ h => h.frN hfa)
    obtain ⟨rs, ho, hb⟩ := h3.grants
    have hrl := Lib.hid (show (rs.map GrantOf.cells).length = gs.length by rw [List.length_map, hb.len])
    have hdel := Lib.hid (Delete_Gr base bk c k (k + 1) (rs.map GrantOf.cells) _ (by rw [hrl.out]; exact ho) (by omega) (by rw [hrl.out]; omega))
    rw [hrl.out, show ((k + 1 : Nat) : Int) = (k : Int) + 1 from by omega] at hdel
    have hbkl : bk < u1.heap.size := by
      obtain ⟨cc, e⟩ := h2.gkind (k := bk) rfl
      exact lt_of_some e
    have HBX := Lib.hid hbx
    have HCO := Lib.hid hcount
    have HR3 := Lib.hid hr3
    have HONE := Lib.hid hone
    rw [he]
    clear hx he hbx hcount hr hr3 hone h2
    go_wp2_with (first | ((with_reducible refine wpList_at ⟨some 27, _, _, _, _, _⟩ ?_); go_must (refine wpList_load_mid rfl 34 (.tmp 26) rfl bk (k * 16) rfl x _ hcell Tryd.underlying34 rfl hxi.out ?_)) | fail)
    clear hst hcell d0
    have hbase : base ≤ u1.heap.size := by omega
    have hF1 : Fr noB w (u1.alloc (.cells x.toArray 34)) := HF.alloc _
    have hlx : u1.heap.size < (u1.alloc (.cells x.toArray 34)).heap.size := by simp
    have b1v := Lib.hid (hfa.keep b1'.out (fun h => h))
    generalize u1.alloc (.cells x.toArray 34) = V at *
    refine hdel.out.mono ?_
    rintro e w2 ⟨rfl, ho2, hf2⟩
    obtain ⟨h4, hF4, d2, e2⟩ := del_grants h3 hb (by exact ho2) hf2
    obtain ⟨l, hl⟩ : ∃ l, l = gs.take k ++ gs.drop (k + 1) := ⟨_, rfl⟩
    have hm : k + (gs.length - (k + 1)) = l.length := by rw [hl, List.length_append, List.length_take, List.length_drop]; omega
    have hlen : l.length ≤ gs.length := by omega
    rw [← hl] at h4
    rw [hm] at h4 hF4 ⊢
    have HL := Lib.hid hl
    clear hl hm
    have hoffv : Off base V (own (.slice (some ⟨bk, 0, none⟩) gs.length c)) := ho.off (Nat.le_refl _) (by decide)
    have hoffb : Off base V (one bk) := fun j hj hl => hoffv j (by have e : j = bk := hj; rw [e]; rfl) hl
    have hbx2 := hf2.keep HBX.out (fun h => by have e : u1.heap.size = bk := h; omega)
    have hbr2 := hf2.keep b1v.out (fun hh => by have e : w.heap.size + 1 = bk := hh; obtain ⟨cc, e2⟩ := h.gkind (k := bk) rfl; have := lt_of_some e2; omega)
    have hr4 := HR3.out.mono (fun _ _ h => h.fr hf2 hoffb)
    have c14 : w2.cell? ⟨u1.heap.size, 14, none⟩ = some (.int .i64 r.count) := by
      have e := HX.out
      simp only [World.cell?, hbx2, e]; rfl
    have f14 : w2.frozen? ⟨u1.heap.size, 14, none⟩ = false := by simp [World.frozen?, hbx2]
    have hb2b : w2.heap[b]? = some (.cells #[.slice (some ⟨bk, 0, none⟩) gs.length c, wv] 88 (0, 0)) := hf2.keep h3.blk (fun h => h3.gb (by have e : b = bk := h; rw [e]; rfl))
    have hfb : Fr (one b) w2 (w2.setCell ⟨b, 0, none⟩ (.slice (some ⟨bk, 0, none⟩) l.length c)) := (Fr.refl (one b) w2).setCell (p := ⟨b, 0, none⟩) (fun _ => rfl) _
    have hofb : Off base w2 (one b) := by
      rintro j rfl _
      exact ⟨hlow, fun cc f e => by rw [hb2b] at e; cases e⟩
    have hbx3 := hfb.keep hbx2 (fun h => by have e : u1.heap.size = b := h; omega)
    have hbr3 := hfb.keep hbr2 (fun h => by have e : w.heap.size + 1 = b := h; omega)
    have hr5 := hr4.mono (fun _ _ h => h.fr hfb hofb)
    have hFw : Fr (bankF b (.slice (some ⟨bk, 0, none⟩) gs.length c) wv) w (w2.setCell ⟨b, 0, none⟩ (.slice (some ⟨bk, 0, none⟩) l.length c)) := Fr.step (hF1.mono (fun _ _ h => absurd h (fun h => h))) hF4 (fun _ _ h => h)
    have hfoot : ∀ j, bankF b (.slice (some ⟨bk, 0, none⟩) l.length c) wv j → bankF b (.slice (some ⟨bk, 0, none⟩) gs.length c) wv j := fun j hj => by
      rcases hj with h | h | h
      · exact Or.inl h
      · exact Or.inr (Or.inl h)
      · exact Or.inr (Or.inr h)
    have H4 := Lib.hid h4
    have HFW := Lib.hid hFw
    try clear hdel
    try clear ho2
    try clear ho
    try clear hb
    try clear hb2b
    try clear hfb
    try clear hofb
    try clear hbx2
    try clear hbr2
    try clear hr4
    try clear hF4
    try clear hoffb
    try clear hoffv
    try clear h3
    try clear hF1
    try clear hF4
    try clear HBX
    try clear HR3
    try clear b1v
    try clear b1'
    try clear HF
    try clear h4
    try clear hFw
    have HBX3 := Lib.hid hbx3
    have HBR3 := Lib.hid hbr3
    clear hbx3 hbr3
    by_cases hfull : 4294967295 ≤ r.count
    · have hu := Lib.hid (show useL gs o proxy path = (l, .error 12) by
        rw [HL.out]
        unfold useL
        rw [HE.out, if_pos (by omega), show ((k : Int)).toNat = k by simp, List.getElem?_eq_getElem hk]
        simp only
        rw [← HCO.out, if_pos hfull])
      go_wp2_with (first | ((with_reducible refine wpList_at ⟨none, .store 34 _ _, _, _, _, _⟩ ?_); go_must (refine wpList_store_row rfl 34 (.tmp 8) (.tmp 42) rfl (w.heap.size + 1) zGrant rfl rfl _ zGrant HBR3.out (by kernel_rfl) rfl zGrant_one ?_)) | fail)
      refine bodyPost_ret (results_cell_tmp (by rfl) _ _ (w.heap.size + 1) 34 zGrant (0, 0) _ rfl (setRow_heap _ (w.heap.size + 1) _ _ _ _ HBR3.out) Tryd.underlying34 rfl (by kernel_rfl)) rfl ?_
      unfold UsePost
      rw [hu.out]
      have hFr : Fr (one (w.heap.size + 1)) (w2.setCell ⟨b, 0, none⟩ (.slice (some ⟨bk, 0, none⟩) l.length c)) ((w2.setCell ⟨b, 0, none⟩ (.slice (some ⟨bk, 0, none⟩) l.length c)).setRow (w.heap.size + 1) zGrant) := (Fr.refl (one (w.heap.size + 1)) _).setRow (fun _ => rfl) _
      have hne : ∀ j, bankF b (.slice (some ⟨bk, 0, none⟩) gs.length c) wv j → j < w.heap.size := fun j hj => by
        rcases hj with hj | hj | hj
        · omega
        · obtain ⟨cc, e⟩ := h.gkind hj; exact lt_of_some e
        · obtain ⟨cc, e⟩ := h.wkind hj; exact lt_of_some e
      refine ⟨⟨_, _, H4.out.fr hFr ?_ ?_ ?_ ?_, HFW.out.step hFr ?_, fun j hj => Or.inl (hfoot j hj)⟩, rfl⟩
      · rintro j rfl _
        exact ⟨by omega, fun cc f e => by rw [HBR3.out] at e; cases e⟩
      · intro hh; have e : b = w.heap.size + 1 := hh; omega
      · intro j hj hh
        have e : j = w.heap.size + 1 := hh
        have := hne j (hfoot j (Or.inr (Or.inl hj))); omega
      · intro j hj hh
        have e : j = w.heap.size + 1 := hh
        have := hne j (hfoot j (Or.inr (Or.inr hj))); omega
      · intro j hj hh
        have e : j = w.heap.size + 1 := hh
        omega
    · have hu := Lib.hid (show useL gs o proxy path = (l ++ [gs[k].used], .ok gs[k].used) by
        rw [HL.out]
        unfold useL
        rw [HE.out, if_pos (by omega), show ((k : Int)).toNat = k by simp, List.getElem?_eq_getElem hk]
        simp only
        rw [← HCO.out, if_neg hfull])
      have hne : ∀ j, bankF b (.slice (some ⟨bk, 0, none⟩) gs.length c) wv j → j < w.heap.size := fun j hj => by
        rcases hj with hj | hj | hj
        · omega
        · obtain ⟨cc, e⟩ := h.gkind hj; exact lt_of_some e
        · obtain ⟨cc, e⟩ := h.wkind hj; exact lt_of_some e
      go_wp2_with fail
      clear d2 e2 c14 f14
      generalize w2.setCell ⟨b, 0, none⟩ (.slice (some ⟨bk, 0, none⟩) l.length c) = w3 at *
      have hbx4 : (w3.setCell ⟨u1.heap.size, 14, none⟩ (.int .i64 (r.count + 1))).heap[u1.heap.size]? = some (.cells r.used.cells.toArray 34 (0, 0)) := by
        have e := HBX3.out
        rw [HX.out] at e
        exact setCell_heap e 14 _
      have hfx : Fr (one u1.heap.size) w3 (w3.setCell ⟨u1.heap.size, 14, none⟩ (.int .i64 (r.count + 1))) := (Fr.refl (one u1.heap.size) w3).setCell (p := ⟨u1.heap.size, 14, none⟩) (fun _ => rfl) _
      have hofx : Off base w3 (one u1.heap.size) := by
        rintro j rfl _
        exact ⟨hbase, fun cc f e => by rw [HBX3.out] at e; cases e⟩
      have hnx : ¬ bankF b (.slice (some ⟨bk, 0, none⟩) l.length c) wv u1.heap.size := fun hh => by
        have := hne _ (hfoot _ hh); omega
      have h5 := H4.out.fr hfx hofx (fun hh => by have e : b = u1.heap.size := hh; omega) (fun j hj hh => by have e : j = u1.heap.size := hh; subst e; exact hnx (Or.inr (Or.inl hj))) (fun j hj hh => by have e : j = u1.heap.size := hh; subst e; exact hnx (Or.inr (Or.inr hj)))
      have hr6 : GrantOf.Reads (StrsIn base (w3.setCell ⟨u1.heap.size, 14, none⟩ (.int .i64 (r.count + 1)))) r.used gs[k].used := by
        obtain ⟨q1, q2, q3, q4, q5, q6, q7⟩ := hr5.mono (fun _ _ h => h.fr hfx hofx)
        exact ⟨q1, q2, q3, q4, q5, by show r.count + 1 = gs[k].count + 1; rw [q6], q7⟩
      have hbr4 := Lib.hid (hfx.keep HBR3.out (fun hh => by have e : w.heap.size + 1 = u1.heap.size := hh; omega))
      have hFW4 : Fr (bankF b (.slice (some ⟨bk, 0, none⟩) gs.length c) wv) w (w3.setCell ⟨u1.heap.size, 14, none⟩ (.int .i64 (r.count + 1))) := HFW.out.step hfx (fun j hj hh => by have e : j = u1.heap.size := hh; omega)
      have hone5 : ∀ u ∈ r.used.cells, u.oneCell' = true := by
        intro u hu
        simp only [GrantOf.cells, GrantOf.used, List.mem_cons, List.not_mem_nil, or_false] at hu
        have ho := HONE.out
        simp only [GrantOf.cells, List.mem_cons, List.not_mem_nil, or_false] at ho
        rcases hu with rfl | rfl | rfl | rfl | rfl | rfl | rfl | rfl | rfl | rfl | rfl | rfl | rfl | rfl | rfl | rfl <;> first | rfl | exact ho _ (by simp)
      have HONE5 := Lib.hid hone5
      have hbx5 := Lib.hid hbx4
      have HR6 := Lib.hid hr6
      have hw4s : w.heap.size ≤ w3.heap.size := HFW.out.size
      clear hone5 hr5 hfx hofx HBX3 HBR3 H4 HFW hbx4 hr6
      generalize w3.setCell ⟨u1.heap.size, 14, none⟩ (.int .i64 (r.count + 1)) = w4 at *
      have hxl : ∀ i u, r.used.cells[i]? = some u → w4.cell? ⟨u1.heap.size, i, none⟩ = some u := fun i u hu => by
        simp only [World.cell?, hbx5.out]; simpa using hu
      have x0 := hxl 0 _ rfl
      have x1 := hxl 1 _ rfl
      have x2 := hxl 2 _ rfl
      have x3 := hxl 3 _ rfl
      have x4 := hxl 4 _ rfl
      have x5 := hxl 5 _ rfl
      have x6 := hxl 6 _ rfl
      have x7 := hxl 7 _ rfl
      have x8 := hxl 8 _ rfl
      have x9 := hxl 9 _ rfl
      have x10 := hxl 10 _ rfl
      have x11 := hxl 11 _ rfl
      have x12 := hxl 12 _ rfl
      have x13 := hxl 13 _ rfl
      have x14 := hxl 14 _ rfl
      have x15 := hxl 15 _ rfl
      have d0 := h5.c0
      have e0 := h5.free 0
      have hb4 : b < w4.heap.size := h5.lt
      have hx4 : u1.heap.size < w4.heap.size := lt_of_some hbx5.out
      obtain ⟨i0, hi0, hz0, hz1, hz2⟩ := info_parts info_grant
      obtain ⟨rs5, ho5, hb5⟩ := h5.grants
      have HO5 := Lib.hid ho5
      have HB5 := Lib.hid hb5
      have hown5 : w4.ownsRow base 34 16 (.slice (some ⟨bk, 0, none⟩) l.length c) l.length (rs5.map GrantOf.cells).flatten := by
        have hh := ho5.2
        rw [List.length_map, hb5.len] at hh
        exact hh
      have hnb : ¬ own (.slice (some ⟨bk, 0, none⟩) l.length c) b := h5.gb
      clear ho5 hb5 hxl
      simp only [GrantOf.used] at x0 x1 x2 x3 x4 x5 x6 x7 x8 x9 x10 x11 x12 x13 x14 x15
      go_region_law ((with_reducible refine step_at ⟨some 55, _, _, _, _, _⟩ ?_)
                     refine step_append_lies _ (by rfl) _ _ _ (by rfl) base 34 i0 _ 16 216 Tryd.underlying22 hi0 hz0 hz1 hz2 rfl (by omega) (.slice (some ⟨bk, 0, none⟩) l.length c) l.length _ (by rfl) (by repeat (first | exact hown5 | apply World.ownsRow.alloc | apply World.ownsRow.drew)) ⟨w4.heap.size, 0, none⟩ 1 1 r.used.cells (by rfl) (by rfl) (new_cells w4 r.used.cells _) HONE5.out (by omega) (by unfold maxLen; omega) (by omega) (by simp; omega) (w4.heap.size + 1) (by simp) ?_
                     intro gg cap w5 hown6 hgrow hat hlt5
                     have HF45 : Fr (own (.slice (some ⟨bk, 0, none⟩) l.length c)) w4 w5 := Fr.grown (by repeat (first | exact Fr.refl _ _ | apply Fr.drew | apply Fr.alloc)) hgrow (fun _ hk _ => hk)
                     have k4 : w5.cell? ⟨b, 0, none⟩ = some (.slice (some ⟨bk, 0, none⟩) l.length c) := (HF45.cell (p := ⟨b, 0, none⟩) hb4 hnb).trans d0
                     have e4 : w5.frozen? ⟨b, 0, none⟩ = false := (HF45.frozen (p := ⟨b, 0, none⟩) hb4 hnb).trans e0)
      all_goals
        obtain ⟨h6, hF6, hfo6⟩ := bank_grow (m := gs[k].used) h5 HO5.out HB5.out (Fr.refl _ _) HR6.out HONE5.out HF45 hown6 (hat.imp (fun h => h) (fun h => by omega))
        have hnr : ¬ bankF b (.slice (some ⟨bk, 0, none⟩) l.length c) wv (w.heap.size + 1) := fun hh => by have := hne _ (hfoot _ hh); omega
        have hbx6 := Lib.hid (hF6.keep hbx5.out hnx)
        have hbr6 := Lib.hid (hF6.keep hbr4.out hnr)
        have hr7 := HR6.out.mono (fun _ _ h => h.fr hF6 h5.off)
        have hF6' := Lib.hid (hFW4.step hF6 (fun j hj hb => hfoot j hb))
        have hfo7 : ∀ j, bankF b (.slice (some ⟨gg, 0, none⟩) (l.length + 1) cap) wv j → bankF b (.slice (some ⟨bk, 0, none⟩) gs.length c) wv j ∨ w.heap.size ≤ j := fun j hj => by
          rcases hfo6 j hj with h | h
          · exact Or.inl (hfoot j h)
          · exact Or.inr (by have := hFW4.size; omega)
        have H6 := Lib.hid h6
        have hb6 : base ≤ (w5.setCell ⟨b, 0, none⟩ (.slice (some ⟨gg, 0, none⟩) (l.length + 1) cap)).heap.size := by have := h6.lt; omega
        have hcall := Lib.hid (copied_any base r.used gs[k].used _ hb6 hr7)
        clear x0 x1 x2 x3 x4 x5 x6 x7 x8 x9 x10 x11 x12 x13 x14 x15 d0 e0 k4 e4 hgrow hown6 hown5 h6 hF6 hr7 HF45 h5 hb6
        generalize w5.setCell ⟨b, 0, none⟩ (.slice (some ⟨gg, 0, none⟩) (l.length + 1) cap) = w6 at *
        obtain ⟨y, hy⟩ : ∃ y, y = r.used.cells := ⟨_, rfl⟩
        have hyk : y.length = 16 := by rw [hy]; rfl
        rw [← hy] at hbx6 hcall
        have hyi := Lib.hid (show (Tryd.prog.info? 34).map (·.size) = some y.toArray.size by rw [List.size_toArray, hyk]; kernel_rfl)
        clear hy
        go_wp2_with (first | ((with_reducible refine wpList_at ⟨some 58, _, _, _, _, _⟩ ?_); go_must (refine wpList_load_row rfl 34 (.tmp 11) rfl u1.heap.size rfl _ y.toArray (0, 0) _ hbx6.out Tryd.underlying34 rfl hyi.out ?_)) | fail)
        refine hcall.out.mono ?_
        intro e w7 hcop
        obtain ⟨r7, rfl, hr7, hone7, hf7⟩ := hcop
        have b7 := Lib.hid (hf7.keep hbr6.out (fun h => h))
        have h7 := H6.out.frN hf7
        have hF7 := hF6'.out.trans (hf7.mono (fun _ _ h => absurd h (fun h => h)))
        have hri : (Tryd.prog.info? 34).map (·.size) = some r7.cells.toArray.size := by kernel_rfl
        obtain ⟨z, hz⟩ : ∃ z, z = r7.cells := ⟨_, rfl⟩
        have HZ := Lib.hid hz
        have hone8 := Lib.hid hone7
        rw [← hz] at hri hone7 ⊢
        have hz1 := Lib.hid (all_oneCell_toArray hone7)
        have hzk := Lib.hid (show zGrant.size = z.toArray.size by rw [hz]; rfl)
        clear hz hcall
        go_wp2_with (first | ((with_reducible refine wpList_at ⟨none, .store 34 _ _, _, _, _, _⟩ ?_); go_must (refine wpList_store_row rfl 34 (.tmp 8) (.tmp 59) rfl (w.heap.size + 1) z.toArray rfl rfl _ zGrant b7.out hri hzk.out hz1.out ?_)) | fail)
        have hof : Off base w7 (one (w.heap.size + 1)) := by
          rintro j rfl hj
          exact ⟨by omega, fun c f e => by rw [b7.out] at e; cases e⟩
        have hfs : Fr (one (w.heap.size + 1)) w7 (w7.setRow (w.heap.size + 1) z.toArray) := (Fr.refl (one (w.heap.size + 1)) w7).setRow (fun _ => rfl) _
        refine bodyPost_ret (results_cell_tmp (by rfl) _ _ (w.heap.size + 1) 34 z.toArray (0, 0) _ rfl (setRow_heap w7 (w.heap.size + 1) _ _ _ _ b7.out) Tryd.underlying34 rfl hri) rfl ?_
        have hnr7 : ¬ bankF b (.slice (some ⟨gg, 0, none⟩) (l.length + 1) cap) wv (w.heap.size + 1) := fun hh => by
          have hk7 : ∃ cc t f, w7.heap[w.heap.size + 1]? = some (.cells cc t f) := ⟨_, _, _, b7.out⟩
          rcases hfo6 _ hh with h8 | h8
          · exact hnr h8
          · have := hFW4.size
            have := lt_of_some hbr4.out
            omega
        unfold UsePost
        rw [hu.out]
        rw [HZ.out] at *
        refine ⟨⟨_, _, h7.fr hfs hof (fun hh => hnr7 (Or.inl (by have e : b = w.heap.size + 1 := hh; rw [e]))) (fun j hj hh => hnr7 (Or.inr (Or.inl (by have e : j = w.heap.size + 1 := hh; rw [← e]; exact hj)))) (fun j hj hh => hnr7 (Or.inr (Or.inr (by have e : j = w.heap.size + 1 := hh; rw [← e]; exact hj)))), hF7.step hfs (fun j hj hh => by have e : j = w.heap.size + 1 := hh; omega), hfo7⟩, r7, rfl, hr7.mono (fun _ _ h => h.fr hfs hof), hone8.out⟩
  · have hu := Lib.hid (show useL gs o proxy path = (gs, .error 8) by unfold useL; rw [he]; rfl)
    rw [he]
    have hp := BankPost.same h (HF.setRow (g := w.heap.size + 1) (fun h => absurd h (by omega)) zGrant)
    clear h2 h
    go_wp2_with (first | ((with_reducible refine wpList_at ⟨none, .store 34 _ _, _, _, _, _⟩ ?_); go_must (refine wpList_store_row rfl 34 (.tmp 8) (.tmp 19) rfl (w.heap.size + 1) zGrant rfl rfl _ zGrant b1'.out (by kernel_rfl) rfl zGrant_one ?_)) | fail)
    refine bodyPost_ret (results_cell_tmp (by rfl) _ _ (w.heap.size + 1) 34 zGrant (0, 0) _ rfl (setRow_heap u1 (w.heap.size + 1) _ _ _ _ b1'.out) Tryd.underlying34 rfl (by kernel_rfl)) rfl ?_
    unfold UsePost
    rw [hu.out]
    exact ⟨hp, rfl⟩
end Go.Proofs.YtkoobhgedoanhaaDoor
