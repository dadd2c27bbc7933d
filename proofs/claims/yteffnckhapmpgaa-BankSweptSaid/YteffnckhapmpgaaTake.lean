/- The package bank: Take. -/
import Derived.Test.YteffnckhapmpgaaWaits
namespace Go.Proofs.Yteffnckhapmpgaa
open Go.RowKit

/-- a wait of an origin -/
def forW (o : Ori) (proxy : Bool) (g : WaitOf Texts) : Bool := g.o.eqB o && g.proxy == proxy
/-- bank.Take: what is left, and what is taken -/
def takeL (o : Ori) (proxy : Bool) : List (WaitOf Texts) → List (WaitOf Texts) × Option (WaitOf Texts)
  | [] => ([], none)
  | g :: l => if forW o proxy g then (l, some g) else (g :: (takeL o proxy l).1, (takeL o proxy l).2)
theorem takeL_none {o : Ori} {proxy : Bool} : ∀ {l : List (WaitOf Texts)}, l.any (forW o proxy) = false → takeL o proxy l = (l, none)
  | [], _ => rfl
  | g :: l, h => by
    rw [List.any_cons, Bool.or_eq_false_iff] at h
    rw [takeL, h.1, takeL_none h.2]; rfl
theorem takeL_hit {o : Ori} {proxy : Bool} : ∀ {l : List (WaitOf Texts)} {k : Nat} {g : WaitOf Texts}, (l.take k).any (forW o proxy) = false → l[k]? = some g → forW o proxy g = true → takeL o proxy l = (l.take k ++ l.drop (k + 1), some g)
  | [], k, g, _, h, _ => by simp at h
  | a :: l, 0, g, _, h, hg => by
    simp at h; subst h
    rw [takeL, hg]; rfl
  | a :: l, k + 1, g, ha, h, hg => by
    rw [List.take_succ_cons, List.any_cons, Bool.or_eq_false_iff] at ha
    rw [takeL, ha.1, takeL_hit ha.2 (by simpa using h) hg]; rfl
theorem takeL_len (o : Ori) (proxy : Bool) : ∀ (l : List (WaitOf Texts)), (takeL o proxy l).1.length ≤ l.length
  | [] => Nat.le_refl _
  | g :: l => by
    rw [takeL]
    split
    · simp
    · have := takeL_len o proxy l; simp; omega
def TakePost (base : Nat) (w : World) (b : Nat) (gv wv : Value) (gs : List (GrantOf Texts)) (u : List (WaitOf Texts) × Option (WaitOf Texts)) (e : Ending) (w' : World) : Prop :=
  BankPost base w b gv wv gs u.1 w' ∧ match u.2 with
  | none => e = .returned (.tuple #[.agg zWa, .bool false])
  | some g => ∃ r : WaitOf Value, e = .returned (.tuple #[.agg r.cells.toArray, .bool true]) ∧ r.Reads (StrsIn base w') g ∧ ∀ u ∈ r.cells, u.oneCell' = true
theorem zWa_all : (zWa : Array Value).all (·.oneCell') = true := all_oneCell_toArray zWa_one
theorem del_waits {base : Nat} {w5 w6 : World} {b gg cap i n : Nat} {gv : Value} {gs : List (GrantOf Texts)} {ls : List (WaitOf Texts)} {rs : List (WaitOf Value)} (h5 : BankIs base w5 b gv (.slice (some ⟨gg, 0, none⟩) ls.length cap) gs ls)
    (hb : Both (WaitOf.Reads (StrsIn base w5)) rs ls) (ho6 : OwnRows base 66 13 w6 (.slice (some ⟨gg, 0, none⟩) (i + (ls.length - n)) cap) ((rs.map WaitOf.cells).take i ++ (rs.map WaitOf.cells).drop n)) (hf6 : Fr (one gg) w5 w6) :
    BankIs base (w6.setCell ⟨b, 1, none⟩ (.slice (some ⟨gg, 0, none⟩) (i + (ls.length - n)) cap)) b gv (.slice (some ⟨gg, 0, none⟩) (i + (ls.length - n)) cap) gs (ls.take i ++ ls.drop n) ∧
    Fr (bankF b gv (.slice (some ⟨gg, 0, none⟩) ls.length cap)) w5 (w6.setCell ⟨b, 1, none⟩ (.slice (some ⟨gg, 0, none⟩) (i + (ls.length - n)) cap)) ∧ w6.cell? ⟨b, 1, none⟩ = some (.slice (some ⟨gg, 0, none⟩) ls.length cap) ∧ w6.frozen? ⟨b, 1, none⟩ = false := by
  have hlow := h5.low
  have hone : ∀ k, one gg k → own (.slice (some ⟨gg, 0, none⟩) ls.length cap) k := fun k hk => by have e : k = gg := hk; rw [e]; rfl
  have hoff : Off base w5 (one gg) := fun k hk hl => h5.off k (Or.inr (Or.inr (hone k hk))) hl
  have hbk := hf6.keep h5.blk (fun h => h5.wb (hone _ h))
  have hw6 : GrantsIn base w6 gv gs := h5.grants.fr hf6 hoff (fun k hk hg => h5.gw hk (hone _ hg))
  have hm := hb.mono (fun _ _ h => h.mono (fun _ _ h => h.fr hf6 hoff))
  have hg6 : WaitsIn base w6 (.slice (some ⟨gg, 0, none⟩) (i + (ls.length - n)) cap) (ls.take i ++ ls.drop n) := by
    refine ⟨rs.take i ++ rs.drop n, ?_, (hm.take i).app (hm.drop n)⟩
    rw [List.map_append, List.map_take, List.map_drop]
    exact ho6
  have hF0 : Fr (bankF b gv (.slice (some ⟨gg, 0, none⟩) ls.length cap)) w5 w6 := hf6.mono (fun k _ hk => Or.inr (Or.inr (hone k hk)))
  exact ⟨BankIs.setW hlow hbk hw6 hg6, hF0.setCell (p := ⟨b, 1, none⟩) (fun _ => Or.inl rfl) _, by simp [World.cell?, hbk], by simp [World.frozen?, hbk]⟩

theorem BankPost.sameW {base : Nat} {w w' : World} {b : Nat} {gv wv : Value} {gs : List (GrantOf Texts)} {ws : List (WaitOf Texts)} (h : BankIs base w b gv wv gs ws) (hf : Fr noB w w') : BankPost base w b gv wv gs ws w' :=
  ⟨gv, wv, h.frN hf, hf.mono (fun _ _ h => absurd h (fun h => h)), fun _ hk => Or.inl hk⟩
def TkRel (w : World) (ws : List (WaitOf Texts)) (o : Ori) (proxy : Bool) (i : Value) (wr : World) : Prop :=
  ∃ k : Nat, k ≤ ws.length ∧ i = .int .i64 k ∧ (ws.take k).any (forW o proxy) = false ∧ Fr noB w wr
set_option maxHeartbeats 4000000 in
set_option maxRecDepth 100000 in
theorem Take_any (base : Nat) (w : World) (b : Nat) (gv wv : Value) (gs : List (GrantOf Texts)) (ws : List (WaitOf Texts)) (o : Ori) (proxy : Bool) (h : BankIs base w b gv wv gs ws) (hwl : ws.length < 34359738368) :
    Calls Try.prog 37 #[.pointer (some ⟨b, 0, none⟩), .agg o.cells.toArray, .bool proxy] w (TakePost base w b gv wv gs (takeL o proxy ws)) := by
  unfold Ori.cells
  have hlt := h.lt
  have hlow := h.low
  obtain ⟨aw, cw, hwv⟩ := h.waits.form
  subst hwv
  have hf0 : Fr noB w _ := ((Fr.refl noB w).alloc (.cells #[.bool o.secure, .string o.host, .int .i64 o.port] 38)).alloc (.cells zWa 66)
  have b1 := new_block (w.alloc (.cells #[.bool o.secure, .string o.host, .int .i64 o.port] 38)) (.cells zWa 66)
  rw [show (w.alloc (.cells #[.bool o.secure, .string o.host, .int .i64 o.port] 38)).heap.size = w.heap.size + 1 from by simp] at b1
  have b0 := Below.heap_alloc (w.alloc (.cells #[.bool o.secure, .string o.host, .int .i64 o.port] 38)) (.cells zWa 66) w.heap.size (by simp)
  rw [new_block] at b0
  have h1 := h.frN hf0
  have c1 := h1.c1
  have HB0 := Lib.hid b0
  have HB1 := Lib.hid b1
  clear b0 b1
  go_enter Try.func37, Try.ntmps37
  go_wp2_with fail
  clear c1
  generalize (w.alloc (.cells _ 38)).alloc _ = W at *
  go_loopw [15] (TkRel W ws o proxy) (fun i _ => ws.length - (intOf i).toNat)
  case atStart => exact ⟨0, Nat.zero_le _, rfl, rfl, Fr.refl _ _⟩
  case round =>
    obtain ⟨k, hk, rfl, hany, hfr⟩ := hrel
    have HANY := Lib.hid hany
    clear hany
    by_cases hks : k < ws.length
    · obtain ⟨bk, c, hf1, hml, r, hone, hr, hcell⟩ := (h1.frN hfr).waits.at hks
      cases hf1
      unfold maxLen at hml
      have hat := Lib.hid (List.getElem?_eq_getElem hks)
      obtain ⟨x, hx⟩ : ∃ x, x = r.cells := ⟨_, rfl⟩
      have hxk : x.length = 13 := by rw [hx]; rfl
      have hst := fun W => run_storeCells_new (P := Try.prog) W 66 zWa x (by rw [hxk]; rfl) (by rw [hx]; exact hone)
      rw [← hx] at hcell
      have HXI := Lib.hid (sizeWa hxk)
      have hfa : Fr noB wr (wr.alloc (.cells x.toArray 66)) := (Fr.refl noB wr).alloc _
      have hbx : (wr.alloc (.cells x.toArray 66)).heap[wr.heap.size]? = some (.cells x.toArray 66 (0, 0)) := new_block _ _
      have hfld : ∀ i u, r.cells[i]? = some u → (wr.alloc (.cells x.toArray 66)).cell? ⟨wr.heap.size, i, none⟩ = some u := fun i u hu => by
        rw [← hx] at hu
        simp only [World.cell?, hbx]; simpa using hu
      have c0 := hfld 0 _ rfl
      have c1 := hfld 1 _ rfl
      have c2 := hfld 2 _ rfl
      have c3 := hfld 3 _ rfl
      have heq := run_eql_ori r.o o
      have hO3 := Lib.hid (hfa.keep (hfr.keep HB0.out (fun h => h)) (fun h => h))
      have HFA := hfr.trans hfa
      have h3 := h1.frN HFA
      have hr3 := Lib.hid (hr.mono (fun _ _ h => h.frN hfa))
      have hq := Lib.hid (show forW o proxy ws[k] = (r.o.eqB o && r.proxy == proxy) by unfold forW; rw [hr.1, hr.2.1])
      have HX := Lib.hid hx
      have HBX := Lib.hid hbx
      have HONE := Lib.hid hone
      have hlw : wr.heap.size < (wr.alloc (.cells x.toArray 66)).heap.size := by simp
      clear hx hr hfa hbx hfld hone
      cases e1 : r.o.eqB o
      · have hno := Lib.hid (any_take_succ hat.out HANY.out (by rw [hq.out, e1]; rfl))
        go_wp2_with (first | ((with_reducible refine wpList_at ⟨some 19, _, _, _, _, _⟩ ?_); go_must (refine wpList_load_mid rfl 66 (.tmp 18) rfl bk (k * 13) rfl x _ hcell Try.underlying66 rfl HXI.out ?_)) | ((with_reducible refine wpList_at ⟨some 22, _, _, _, _, _⟩ ?_); go_must (refine wpList_load_row rfl 38 (.tmp 4) rfl w.heap.size rfl _ _ (0, 0) _ hO3.out Try.underlying38 rfl (by kernel_rfl) ?_)) | fail)
        go_roundw
        case rel => exact ⟨k + 1, by omega, by go_num, hno.out, HFA⟩
        case measure => simp [intOf]; omega
      · cases e2 : r.proxy == proxy
        · have hno := Lib.hid (any_take_succ hat.out HANY.out (by rw [hq.out, e1, e2]; rfl))
          go_wp2_with (first | ((with_reducible refine wpList_at ⟨some 19, _, _, _, _, _⟩ ?_); go_must (refine wpList_load_mid rfl 66 (.tmp 18) rfl bk (k * 13) rfl x _ hcell Try.underlying66 rfl HXI.out ?_)) | ((with_reducible refine wpList_at ⟨some 22, _, _, _, _, _⟩ ?_); go_must (refine wpList_load_row rfl 38 (.tmp 4) rfl w.heap.size rfl _ _ (0, 0) _ hO3.out Try.underlying38 rfl (by kernel_rfl) ?_)) | fail)
          go_roundw
          case rel => exact ⟨k + 1, by omega, by go_num, hno.out, HFA⟩
          case measure => simp [intOf]; omega
        · have htk := Lib.hid (takeL_hit HANY.out hat.out (by rw [hq.out, e1, e2]; rfl))
          obtain ⟨rs, ho, hb⟩ := h3.waits
          have hrl := Lib.hid (show (rs.map WaitOf.cells).length = ws.length by rw [List.length_map, hb.len])
          have hdel := Lib.hid (Delete_Wa base bk cw k (k + 1) (rs.map WaitOf.cells) _ (by rw [hrl.out]; exact ho) (by omega) (by rw [hrl.out]; omega))
          rw [hrl.out, show ((k + 1 : Nat) : Int) = (k : Int) + 1 from by omega] at hdel
          have hbkl : bk < w.heap.size := by obtain ⟨cc, e⟩ := h.wkind (k := bk) rfl; exact lt_of_some e
          have d1 := h3.c1
          have hF1 := hf0.trans HFA
          have b1v := Lib.hid (HFA.keep HB1.out (fun h => h))
          have hsz1 : w.heap.size + 1 < W.heap.size := lt_of_some HB1.out
          have hsz2 : W.heap.size ≤ wr.heap.size := hfr.size
          have hne : ∀ j, bankF b gv (.slice (some ⟨bk, 0, none⟩) ws.length cw) j → j < w.heap.size := fun j hj => by
            rcases hj with hj | hj | hj
            · omega
            · obtain ⟨cc, e⟩ := h.gkind hj; exact lt_of_some e
            · obtain ⟨cc, e⟩ := h.wkind hj; exact lt_of_some e
          have hxz := Lib.hid (show (zWa : Array Value).size = x.toArray.size from zWa_size.trans (by simp [hxk]))
          have hx1 := Lib.hid (show x.toArray.all (·.oneCell') = true from all_oneCell_toArray (by rw [HX.out]; exact HONE.out))
          have hxa := Lib.hid (show (Try.prog.info? 66).map (·.size) = some x.toArray.size by rw [List.size_toArray]; exact HXI.out)
          clear HFA
          go_wp2_with (first | ((with_reducible refine wpList_at ⟨some 19, _, _, _, _, _⟩ ?_); go_must (refine wpList_load_mid rfl 66 (.tmp 18) rfl bk (k * 13) rfl x _ hcell Try.underlying66 rfl HXI.out ?_)) | ((with_reducible refine wpList_at ⟨some 22, _, _, _, _, _⟩ ?_); go_must (refine wpList_load_row rfl 38 (.tmp 4) rfl w.heap.size rfl _ _ (0, 0) _ hO3.out Try.underlying38 rfl (by kernel_rfl) ?_)) | fail)
          clear hst hcell c0 c1 c2 c3 d1 hO3 heq
          generalize wr.alloc (.cells x.toArray 66) = V at *
          refine hdel.out.mono ?_
          rintro e w2 ⟨rfl, ho2, hf2⟩
          obtain ⟨h4, hF4, d2, e2'⟩ := del_waits h3 hb (by exact ho2) hf2
          obtain ⟨l, hl⟩ : ∃ l, l = ws.take k ++ ws.drop (k + 1) := ⟨_, rfl⟩
          have hm : k + (ws.length - (k + 1)) = l.length := by rw [hl, List.length_append, List.length_take, List.length_drop]; omega
          rw [← hl] at h4
          rw [← hl] at htk
          rw [hm] at h4 hF4 ⊢
          clear hl hm
          have hoffv : Off base V (own (.slice (some ⟨bk, 0, none⟩) ws.length cw)) := ho.off (Nat.le_refl _) (by decide)
          have hoffb : Off base V (one bk) := fun j hj hl => hoffv j (by have e : j = bk := hj; rw [e]; rfl) hl
          have hbx2 := hf2.keep HBX.out (fun h => by have e : wr.heap.size = bk := h; omega)
          have hbr2 := hf2.keep b1v.out (fun hh => by have e : w.heap.size + 1 = bk := hh; omega)
          have hr4 := hr3.out.mono (fun _ _ h => h.fr hf2 hoffb)
          have hb2b : w2.heap[b]? = some (.cells #[gv, .slice (some ⟨bk, 0, none⟩) ws.length cw] 63 (0, 0)) := hf2.keep h3.blk (fun h => h3.wb (by have e : b = bk := h; rw [e]; rfl))
          have hfb : Fr (one b) w2 (w2.setCell ⟨b, 1, none⟩ (.slice (some ⟨bk, 0, none⟩) l.length cw)) := (Fr.refl (one b) w2).setCell (p := ⟨b, 1, none⟩) (fun _ => rfl) _
          have hofb : Off base w2 (one b) := by
            rintro j rfl _
            exact ⟨hlow, fun cc f e => by rw [hb2b] at e; cases e⟩
          have hbx3 := Lib.hid (hfb.keep hbx2 (fun h => by have e : wr.heap.size = b := h; omega))
          have hbr3 := Lib.hid (hfb.keep hbr2 (fun h => by have e : w.heap.size + 1 = b := h; omega))
          have hr5 := Lib.hid (hr4.mono (fun _ _ h => h.fr hfb hofb))
          have hFw := Lib.hid (show Fr (bankF b gv (.slice (some ⟨bk, 0, none⟩) ws.length cw)) w (w2.setCell ⟨b, 1, none⟩ (.slice (some ⟨bk, 0, none⟩) l.length cw)) from Fr.step (hF1.mono (fun _ _ h => absurd h (fun h => h))) hF4 (fun _ _ h => h))
          have hfoot : ∀ j, bankF b gv (.slice (some ⟨bk, 0, none⟩) l.length cw) j → bankF b gv (.slice (some ⟨bk, 0, none⟩) ws.length cw) j := fun j hj => by
            rcases hj with h | h | h
            · exact Or.inl h
            · exact Or.inr (Or.inl h)
            · exact Or.inr (Or.inr h)
          have H4 := Lib.hid h4
          clear hdel ho2 ho hb hb2b hfb hofb hbx2 hbr2 hr4 hF4 hoffb hoffv h3 hF1 HBX hr3 b1v h4
          go_wp2_with (first | ((with_reducible refine wpList_at ⟨some 41, _, _, _, _, _⟩ ?_); go_must (refine wpList_load_row rfl 66 (.tmp 9) rfl wr.heap.size rfl _ x.toArray (0, 0) _ hbx3.out Try.underlying66 rfl hxa.out ?_)) | ((with_reducible refine wpList_at ⟨none, .store 66 _ _, _, _, _, _⟩ ?_); go_must (refine wpList_store_row rfl 66 (.tmp 6) (.tmp 41) rfl (w.heap.size + 1) x.toArray rfl rfl _ zWa hbr3.out hxa.out hxz.out hx1.out ?_)) | fail)
          refine bodyPost_ret (results_cell_tmp (by rfl) _ _ (w.heap.size + 1) 66 x.toArray (0, 0) _ rfl (setRow_heap _ (w.heap.size + 1) _ _ _ _ hbr3.out) Try.underlying66 rfl hxa.out) rfl ?_
          unfold TakePost
          rw [htk.out]
          have hFr : Fr (one (w.heap.size + 1)) (w2.setCell ⟨b, 1, none⟩ (.slice (some ⟨bk, 0, none⟩) l.length cw)) ((w2.setCell ⟨b, 1, none⟩ (.slice (some ⟨bk, 0, none⟩) l.length cw)).setRow (w.heap.size + 1) x.toArray) := (Fr.refl (one (w.heap.size + 1)) _).setRow (fun _ => rfl) _
          have hof : Off base (w2.setCell ⟨b, 1, none⟩ (.slice (some ⟨bk, 0, none⟩) l.length cw)) (one (w.heap.size + 1)) := by
            rintro j rfl _
            exact ⟨by omega, fun cc f e => by rw [hbr3.out] at e; cases e⟩
          refine ⟨⟨_, _, H4.out.fr hFr hof ?_ ?_ ?_, hFw.out.step hFr ?_, fun j hj => Or.inl (hfoot j hj)⟩, r, by rw [HX.out]; rfl, hr5.out.mono (fun _ _ h => h.fr hFr hof), HONE.out⟩
          · intro hh; have e : b = w.heap.size + 1 := hh; omega
          · intro j hj hh
            have e : j = w.heap.size + 1 := hh
            have := hne j (hfoot j (Or.inr (Or.inl hj))); omega
          · intro j hj hh
            have e : j = w.heap.size + 1 := hh
            have := hne j (hfoot j (Or.inr (Or.inr hj))); omega
          · intro j hj hh
            have e : j = w.heap.size + 1 := hh
            omega
    · have hs := Lib.hid (takeL_none (o := o) (proxy := proxy) (l := ws) (by have h := HANY.out; rw [List.take_of_length_le (by omega)] at h; exact h))
      have hb1 := Lib.hid (hfr.keep HB1.out (fun h => h))
      have HF := hf0.trans hfr
      have hp := BankPost.sameW h (HF.setRow (g := w.heap.size + 1) (fun h => absurd h (by omega)) zWa)
      go_wp2_with (first | ((with_reducible refine wpList_at ⟨none, .store 66 _ _, _, _, _, _⟩ ?_); go_must (refine wpList_store_row rfl 66 (.tmp 6) (.tmp 43) rfl (w.heap.size + 1) zWa rfl rfl _ zWa hb1.out (by kernel_rfl) rfl zWa_all ?_)) | fail)
      refine bodyPost_ret (results_cell_tmp (by rfl) _ _ (w.heap.size + 1) 66 zWa (0, 0) _ rfl (setRow_heap wr (w.heap.size + 1) _ _ _ _ hb1.out) Try.underlying66 rfl (by kernel_rfl)) rfl ?_
      unfold TakePost
      rw [hs.out]
      exact ⟨hp, rfl⟩
end Go.Proofs.Yteffnckhapmpgaa
