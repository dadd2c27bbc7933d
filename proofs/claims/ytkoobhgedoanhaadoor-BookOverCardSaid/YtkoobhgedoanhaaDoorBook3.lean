/- Package pass: Put. -/
import Derived.Test.YtkoobhgedoanhaaDoorBook2
import Derived.Deep.RegionHeld3
import Derived.Deep.AppendLies
namespace Go.Proofs.YtkoobhgedoanhaaDoor
open Go.RowKit

theorem info_pass : (Tryd.prog.info? 63).map (fun i => (i.zero, i.size, i.bytes)) = some (some (.agg zPa), 12, 144) := by kernel_rfl
/-- behind an append and its store -/
theorem book_grow {base : Nat} {w2 w4 : World} {b : Nat} {v0 v : Value} {fs : List Pas} {p : Pas} {gg cap : Nat} (hl : base ≤ b) (hb : w2.heap[b]? = some (.cells #[v0] 57 (0, 0))) (hvb : ¬ own v b) (hf4 : Fr (own v) w2 w4)
    (hown4 : w4.ownsRow base 63 12 (.slice (some ⟨gg, 0, none⟩) (fs.length + 1) cap) (fs.length + 1) ((fs.map Pas.cells).flatten ++ p.cells)) :
    BookIs base (w4.setCell ⟨b, 0, none⟩ (.slice (some ⟨gg, 0, none⟩) (fs.length + 1) cap)) b (.slice (some ⟨gg, 0, none⟩) (fs.length + 1) cap) (fs ++ [p]) := by
  refine BookIs.set hl (hf4.keep hb hvb) ⟨?_, ?_⟩
  · intro x hx
    obtain ⟨q, _, rfl⟩ := List.mem_map.1 hx
    exact ⟨rfl, q.cells_one⟩
  · rw [List.map_append, List.flatten_append, List.length_append, List.length_map]
    simpa using hown4
theorem RowsAt.lt {k : Nat} {w : World} {v : Value} {xs : List (List Value)} (h : RowsAt k w v xs) (hne : xs ≠ []) : ∀ j, v.ownBlock = some j → j < w.heap.size := by
  intro j hj
  rcases h.2 with ⟨_, _, _, e, _⟩ | ⟨bk, o, c, hf, _, _, h3, _⟩
  · exact absurd e hne
  · rw [hf] at hj
    have e : bk = j := by simpa [Value.ownBlock] using hj
    omega
def BpRel (base : Nat) (w1 : World) (b : Nat) (v : Value) (ps ls : List Pas) (t : Value) (wr : World) : Prop :=
  ∃ k vk, k ≤ ls.length ∧ t = .int .i64 k ∧ BookIs base wr b vk ((ls.take k).foldl putP ps) ∧ Fr (bookF b v) w1 wr ∧ ∀ j, bookF b vk j → bookF b v j ∨ w1.heap.size ≤ j
theorem puts_step {ps ls : List Pas} {k : Nat} {p : Pas} (h : ls[k]? = some p) : (ls.take (k + 1)).foldl putP ps = ((ls.take k).foldl putP ps).filter (fun q => !p.like q) ++ [p] := by
  rw [take_snocG h, List.foldl_append]; rfl
theorem filter_cells (ps : List Pas) (f : Pas → Bool) : (ps.map Pas.cells).filter (fun x => !f (pasC x)) = (ps.filter (fun q => !f q)).map Pas.cells := by
  rw [List.filter_map]; rfl
theorem kept_news {S : Nat → Prop} {n : Nat} {U w3 : World} {x : List Value} {t : TypeId} (hU : U.heap[n]? = some (.cells x.toArray t (0, 0))) (hf : Fr S U w3) (hn : ¬ S n) : ∀ j u, x[j]? = some u → w3.cell? ((⟨n, 0, none⟩ : Addr).add j) = some u := by
  intro j u hj
  have h := hf.keep hU hn
  have e : (Addr.add ⟨n, 0, none⟩ j) = ⟨n, j, none⟩ := by unfold Addr.add; split <;> simp_all
  rw [e]
  simp only [World.cell?, h]
  simpa using hj
set_option maxHeartbeats 4000000 in
set_option maxRecDepth 100000 in
theorem BookPut_any (base : Nat) (w : World) (b : Nat) (v : Value) (ps : List Pas) (lv : Value) (ls : List Pas) (now : Int) (h : BookIs base w b v ps) (hl : PasAt w lv ls) (hnl : ls ≠ [] → ∀ k, lv.ownBlock = some k → ¬ bookF b v k) (hlen : ps.length + ls.length < 1000000) :
    Calls Tryd.prog 25 #[.pointer (some ⟨b, 0, none⟩), lv, .int .i64 now] w fun e w' => e = .returned (.tuple #[]) ∧ BookPost base w b v (bookPut ps ls now) w' := by
  obtain ⟨al, cl, hlf⟩ := RowsAt.form hl
  rw [List.length_map] at hlf
  subst hlf
  obtain ⟨w1, hw1⟩ : ∃ w1, w1 = w.alloc (.cells #[.int .i64 now] 3) := ⟨_, rfl⟩
  have hf1 : Fr noB w w1 := by rw [hw1]; exact (Fr.refl _ _).alloc _
  have hnb : w1.heap[w.heap.size]? = some (.cells #[.int .i64 now] 3 (0, 0)) := by rw [hw1]; exact new_block _ _
  have hs1 : w.heap.size < w1.heap.size := lt_of_some hnb
  have h1 := h.frN hf1
  have hl1 : PasAt w1 (.slice al ls.length cl) ls := RowsAt.frNone hl hf1
  have HLT := Lib.hid (show ∀ k, bookF b v k → k < w.heap.size from fun k hk => h.foot_lt hk)
  have HW1 := Lib.hid hw1
  have HF1 := Lib.hid hf1
  have HNB := Lib.hid hnb
  clear hl hw1 hf1 hnb h
  go_enter Tryd.func25, Tryd.ntmps25
  go_wp2_with fail
  rw [← HW1.out]
  go_loopw [11] (BpRel base w1 b v ps ls) (fun t _ => ls.length - (intOf t).toNat)
  case atStart => exact ⟨0, v, Nat.zero_le _, rfl, h1, Fr.refl _ _, fun _ h => Or.inl h⟩
  case round =>
    obtain ⟨k, vk, hk, rfl, hb, hfr, hfo⟩ := hrel
    have hlow := hb.low
    have hpl := puts_len (ls.take k) ps
    rw [List.length_take] at hpl
    by_cases hks : k < ls.length
    · have hki : (k : Int) < (ls.length : Int) := by omega
      have hat := Lib.hid (List.getElem?_eq_getElem hks)
      generalize ls[k] = p at hat
      have HST := Lib.hid (puts_step (ps := ps) hat.out)
      generalize (ls.take k).foldl putP ps = fs at hb hpl HST
      have hrow : RowsAt 12 wr (.slice al ls.length cl) (ls.map Pas.cells) := RowsAt.fr hl1 hfr (hnl (fun e => by rw [e] at hat; have := hat.out; simp at this))
      rcases hrow.2 with ⟨_, _, _, e, _⟩ | ⟨bk, of, c, hf, g1, g2, g3, g4⟩
      · have : ls.length = 0 := by have := congrArg List.length e; simpa using this
        omega
      rw [List.length_map] at hf g1
      cases hf
      unfold maxLen at g2
      obtain ⟨x, hx⟩ : ∃ x, x = p.cells := ⟨_, rfl⟩
      have hxk : x.length = 12 := by rw [hx]; rfl
      have hone : ∀ u ∈ x, u.oneCell' = true := by rw [hx]; exact p.cells_one
      have hcell := g4 k x (by rw [List.getElem?_map, hat.out, hx]; rfl)
      have hst := fun W => run_storeCells_new (P := Tryd.prog) W 63 zPa x (by rw [hxk]; rfl) hone
      have hxi : (Tryd.prog.info? 63).map (·.size) = some x.length := sizePa hxk
      clear g4 hrow
      have HX := Lib.hid hx
      have HXI := Lib.hid hxi
      clear hx hxi
      go_wp2_with (first | ((with_reducible refine wpList_at ⟨some 14, _, _, _, _, _⟩ ?_); go_must (refine wpList_load_mid rfl 63 (.tmp 13) rfl bk (of + k * 12) rfl x _ hcell Tryd.underlying63 rfl HXI.out ?_)) | fail)
      have hf2 : Fr noB wr (wr.alloc (.cells x.toArray 63)) := (Fr.refl _ _).alloc _
      have hp2 : (wr.alloc (.cells x.toArray 63)).heap[wr.heap.size]? = some (.cells x.toArray 63 (0, 0)) := new_block _ _
      have hfr2 := hfr.alloc (.cells x.toArray 63)
      have hb2 := hb.frN hf2
      have hwn : ¬ own vk wr.heap.size := fun hk => by have := hb.own_lt hk; omega
      have hwb : b < wr.heap.size := hb.lt
      have HS2 := Lib.hid (show wr.heap.size < (wr.alloc (.cells x.toArray 63)).heap.size from lt_of_some hp2)
      clear hst hcell hf2
      generalize wr.alloc (.cells x.toArray 63) = W2 at *
      obtain ⟨ak, ck, hvk⟩ := hb2.form
      subst hvk
      obtain ⟨fs', hfs'⟩ : ∃ fs', fs' = fs.filter (fun q => !p.like q) := ⟨_, rfl⟩
      have hfl : fs'.length ≤ fs.length := by rw [hfs']; exact List.length_filter_le _ _
      rw [← hfs'] at HST
      have HK := Lib.hid (show ∀ U, Fr (bookF b (.slice ak fs.length ck)) W2 U → (U.cell? ⟨wr.heap.size, 0, none⟩ = some (.bool p.frm.secure) ∧ U.cell? ⟨wr.heap.size, 1, none⟩ = some (.string p.frm.host) ∧ U.cell? ⟨wr.heap.size, 2, none⟩ = some (.int .i64 p.frm.port) ∧ U.cell? ⟨wr.heap.size, 3, none⟩ = some (.bool p.o.secure) ∧ U.cell? ⟨wr.heap.size, 4, none⟩ = some (.string p.o.host) ∧ U.cell? ⟨wr.heap.size, 5, none⟩ = some (.int .i64 p.o.port) ∧ U.cell? ⟨wr.heap.size, 6, none⟩ = some (.string p.path) ∧ U.cell? ⟨wr.heap.size, 7, none⟩ = some (.string p.query) ∧ U.cell? ⟨wr.heap.size, 8, none⟩ = some (.bool p.wth) ∧ U.cell? ⟨wr.heap.size, 9, none⟩ = some (.string p.method) ∧ U.cell? ⟨wr.heap.size, 10, none⟩ = some (.string p.head) ∧ U.cell? ⟨wr.heap.size, 11, none⟩ = some (.int .i64 p.til)) from fun U hU => by
        have j2 := hU.keep hp2 (fun h => by
          rcases h with h | h
          · omega
          · exact hwn h)
        rw [HX.out] at j2
        have hc : ∀ i u, p.cells[i]? = some u → U.cell? ⟨wr.heap.size, i, none⟩ = some u := fun i u hu => by simp only [World.cell?, j2]; simpa using hu
        exact ⟨hc 0 _ rfl, hc 1 _ rfl, hc 2 _ rfl, hc 3 _ rfl, hc 4 _ rfl, hc 5 _ rfl, hc 6 _ rfl, hc 7 _ rfl, hc 8 _ rfl, hc 9 _ rfl, hc 10 _ rfl, hc 11 _ rfl⟩)
      have HBC := Lib.hid (show ∀ U, Fr (own (.slice ak fs.length ck)) W2 U → U.cell? ⟨b, 0, none⟩ = some (.slice ak fs.length ck) from fun U hU => by
        have j1 := hU.keep hb2.blk hb2.nb
        simp [World.cell?, j1])
      have hb0 : (⟨b, 0, none⟩ : Addr).block < W2.heap.size → bookF b (.slice ak fs.length ck) (⟨b, 0, none⟩ : Addr).block := fun _ => Or.inl rfl
      have d0 := HBC.out W2 (Fr.refl _ _)
      have dA : ∀ o : Obj, (W2.alloc o).cell? ⟨b, 0, none⟩ = some (.slice ak fs.length ck) := fun o => HBC.out _ ((Fr.refl _ _).alloc o)
      have HFRZ := Lib.hid (show ∀ U, Fr (own (.slice ak fs.length ck)) W2 U → U.frozen? ⟨b, 0, none⟩ = false from fun U hU => by
        have j1 := hU.keep hb2.blk hb2.nb
        simp [World.frozen?, j1])
      have hcall := Lib.hid (show ∀ U, Fr noB W2 U → Calls Tryd.prog 42 #[.slice ak fs.length ck, .func (.func 60) #[] #[.pointer (some ⟨wr.heap.size, 0, none⟩)]] U fun e w' => ∃ a c, e = .returned (.slice a fs'.length c) ∧ OwnRows base 63 12 w' (.slice a fs'.length c) (fs'.map Pas.cells) ∧ Fr (own (.slice ak fs.length ck)) U w' ∧ own (.slice a fs'.length c) = own (.slice ak fs.length ck) from fun U hU => by
        have hd := DeleteFunc_Pa base 60 #[.pointer (some ⟨wr.heap.size, 0, none⟩)] (fun y => p.like (pasC y)) (.slice ak fs.length ck) (fs.map Pas.cells) U Tryd.call60 (fun y hy u hu => by
          obtain ⟨q, _, rfl⟩ := List.mem_map.1 hy
          have hpu := hu.keep (hU.keep hp2 (fun h => h)) hwn
          rw [HX.out] at hpu
          exact Put1_any p q wr.heap.size u hpu) (hb2.rows.fr hU (fun _ _ h => h))
        rw [filter_cells, List.length_map, ← hfs'] at hd
        exact hd)
      clear hfs'
      obtain ⟨i0, hi0, hz0, hz1, hz2⟩ := info_parts info_pass
      have hnW : ¬ own (.slice ak fs.length ck) W2.heap.size := fun hk => by have := hb2.own_lt hk; omega
      have hbase2 : base ≤ W2.heap.size := by have := HS2.out; omega
      have P0 := HK.out W2 (Fr.refl _ _)
      obtain ⟨x0, x1, x2, x3, x4, x5, x6, x7, x8, x9, x10, x11⟩ := P0
      go_region_law (first
          | ((with_reducible refine step_at ⟨some 21, _, _, _, _, _⟩ ?_)
             refine step_call rfl 42 _ (by go_simp) (hcall.out _ (by repeat (first | exact Fr.refl _ _ | apply Fr.drew | apply Fr.alloc))) ?_
             intro e w3 hdel
             obtain ⟨a3, c3, rfl, hown3, hf3, hoo⟩ := hdel
             refine ⟨_, rfl, ?_⟩
             have HF3 : Fr (own (.slice ak fs.length ck)) W2 w3 := Fr.step (S := own (.slice ak fs.length ck)) (by repeat (first | exact Fr.refl _ _ | apply Fr.drew | apply Fr.alloc)) hf3 (fun _ _ h => h)
             have HF3B : Fr (bookF b (.slice ak fs.length ck)) W2 w3 := HF3.mono (fun _ _ h => Or.inr h)
             have HOWN3 : w3.ownsRow base 63 12 (.slice a3 fs'.length c3) fs'.length (fs'.map Pas.cells).flatten := by
               have h := hown3.2
               rw [List.length_map] at h
               exact h
             have hk3 := HK.out w3 HF3B
             have hb3 : base ≤ w3.heap.size := by have := HF3.size; omega)
          | ((with_reducible refine step_at ⟨some 24, _, _, _, _, _⟩ ?_)
             (first
               | refine step_append_lies _ (by rfl) _ _ _ (by rfl) base 63 i0 _ 12 144 Tryd.underlying53 hi0 hz0 hz1 hz2 rfl (by omega) (.slice a3 fs'.length c3) fs'.length _ (by rfl) (by repeat (first | exact HOWN3 | apply World.ownsRow.alloc | apply World.ownsRow.drew)) ⟨w3.heap.size, 0, none⟩ 1 1 p.cells (by rfl) (by rfl) (new_cells w3 p.cells _) p.cells_one (by omega) (by unfold maxLen; omega) (by omega) (by simp; omega) (w3.heap.size + 1) (by simp) ?_
               | refine step_append_lies _ (by rfl) _ _ _ (by rfl) base 63 i0 _ 12 144 Tryd.underlying53 hi0 hz0 hz1 hz2 rfl (by omega) (.slice a3 fs'.length c3) fs'.length _ (by rfl) (by repeat (first | exact HOWN3 | apply World.ownsRow.alloc | apply World.ownsRow.drew)) ⟨W2.heap.size, 0, none⟩ 1 1 p.cells (by rfl) (by rfl) (kept_news (by exact new_block _ _) hf3 hnW) p.cells_one (by omega) (by unfold maxLen; omega) (by omega) (by omega) (w3.heap.size) (by simp) ?_)
             intro gg cap w4 hown4 hgrow hat hlt4
             have HF4 : Fr (own (.slice ak fs.length ck)) W2 w4 := Fr.grown (by repeat (first | exact HF3 | apply Fr.drew | apply Fr.alloc)) hgrow (fun k hk _ => by rw [← hoo]; exact hk)
             have HF4B : Fr (bookF b (.slice ak fs.length ck)) W2 w4 := HF4.mono (fun _ _ h => Or.inr h)
             have k4 := HBC.out w4 HF4
             have e4 := HFRZ.out w4 HF4))
      all_goals
        have h5 := book_grow (v := .slice ak fs.length ck) hlow hb2.blk hb2.nb HF4 hown4
        rw [← HST.out] at h5
        have hF5 : Fr (bookF b v) w1 (w4.setCell ⟨b, 0, none⟩ (.slice (some ⟨gg, 0, none⟩) (fs'.length + 1) cap)) := hfr2.step (HF4B.setCell (p := ⟨b, 0, none⟩) hb0 _) (fun j hj hb => by
          rcases hfo j hb with h | h
          · exact h
          · omega)
        have hs3 : w1.heap.size ≤ w3.heap.size := by have h1 := hfr2.size; have h2 := HF3.size; omega
        have hfo5 : ∀ j, bookF b (.slice (some ⟨gg, 0, none⟩) (fs'.length + 1) cap) j → bookF b v j ∨ w1.heap.size ≤ j := by
          rintro j (hj | hj)
          · exact Or.inl (Or.inl hj)
          · have e : gg = j := by simpa [own, Value.ownBlock] using hj
            subst e
            rcases hat with hat | hat
            · exact hfo gg (Or.inr (by rw [← hoo]; exact hat))
            · exact Or.inr (by omega)
        have H5 := Lib.hid (And.intro h5 (And.intro hF5 hfo5))
        clear hcall HK HBC HFRZ hown4 hgrow HF4 HF4B HF3 HF3B HOWN3 k4 e4 hk3 x0 x1 x2 x3 x4 x5 x6 x7 x8 x9 x10 x11 d0 dA hb0 h5 hF5 hfo5 hat hoo hown3 hf3
        generalize w4.setCell ⟨b, 0, none⟩ (.slice (some ⟨gg, 0, none⟩) (fs'.length + 1) cap) = w5 at *
        go_wp2
        go_roundw
        case rel => exact ⟨k + 1, _, by omega, by go_num, H5.out.1, H5.out.2.1, H5.out.2.2⟩
        case measure => simp [intOf]; omega
    · have hki : ¬ (k : Int) < (ls.length : Int) := by omega
      have htl : ls.take k = ls := List.take_of_length_le (by omega)
      rw [htl] at hb hpl
      obtain ⟨fs, hfs⟩ : ∃ fs, fs = ls.foldl putP ps := ⟨_, rfl⟩
      rw [← hfs] at hb hpl
      have hnw : ¬ own vk w.heap.size := fun hk => by
        rcases hfo _ (Or.inr hk) with h | h
        · have := HLT.out _ h; omega
        · omega
      have hnbr := hfr.keep HNB.out (fun hk => by have := HLT.out _ hk; omega)
      have hd := DeleteFunc_Pa base 62 #[.pointer (some ⟨w.heap.size, 0, none⟩)] (fun y => !(pasC y).alive now) vk (fs.map Pas.cells) wr Tryd.call62 (fun y hy u hu => by
        obtain ⟨q, _, rfl⟩ := List.mem_map.1 hy
        exact Put2_any q now w.heap.size u (hu.keep hnbr hnw)) hb.rows
      rw [filter_cells fs (fun q => !q.alive now), List.length_map] at hd
      obtain ⟨ys, hys⟩ : ∃ ys, ys = fs.filter (fun q => !!q.alive now) := ⟨_, rfl⟩
      rw [← hys] at hd
      have hyl : ys.length ≤ fs.length := by rw [hys]; exact List.length_filter_le _ _
      have HRES := Lib.hid (show bookPut ps ls now = ys.drop (ys.length - 32) by
        rw [hys, hfs]
        unfold bookPut
        simp only [Bool.not_not])
      obtain ⟨ak, ck, hvk⟩ := hb.form
      have hb' := hb
      subst hvk
      have hd' := Lib.hid hd
      have c0 := hb.c0
      have e0 := hb.free 0
      have HB := Lib.hid hb
      have HFR := Lib.hid hfr
      have HFO := Lib.hid hfo
      have hbsz : b < w1.heap.size := Nat.lt_trans (HLT.out b (Or.inl rfl)) hs1
      clear hd hys hfs hb hb' hfr hfo
      go_wp2_with fail
      refine hd'.out.mono ?_
      rintro e w2 ⟨a2, c2, rfl, ho2, hf2, hoo⟩
      have hbk2 := hf2.keep HB.out.blk HB.out.nb
      have d0 : w2.cell? ⟨b, 0, none⟩ = some (.slice ak fs.length ck) := by simp [World.cell?, hbk2]
      have e2 : w2.frozen? ⟨b, 0, none⟩ = false := by simp [World.frozen?, hbk2]
      have h3 := BookIs.set HB.out.low hbk2 ho2
      have hF3 : Fr (bookF b v) w1 (w2.setCell ⟨b, 0, none⟩ (.slice a2 ys.length c2)) := (HFR.out.step hf2 (fun j hj ho => by
        rcases HFO.out j (Or.inr ho) with h | h
        · exact h
        · omega)).setCell (p := ⟨b, 0, none⟩) (fun _ => Or.inl rfl) _
      have hfo3 : ∀ j, bookF b (.slice a2 ys.length c2) j → bookF b v j ∨ w1.heap.size ≤ j := by
        rintro j (hj | hj)
        · exact Or.inl (Or.inl hj)
        · exact HFO.out j (Or.inr (by rw [← hoo]; exact hj))
      have H3 := Lib.hid (And.intro h3 (And.intro hF3 hfo3))
      have d3 := h3.c0
      have e3 := h3.free 0
      clear h3 hF3 hfo3 hd' ho2 hbk2 c0 e0 hf2 HB HFR HFO hoo
      by_cases h32 : 32 < ys.length
      · have h32' : (32 : Int) < (ys.length : Int) := by omega
        have hpos : (0 : Int) < (ys.length : Int) - 32 := by omega
        obtain ⟨n, hn⟩ : ∃ n : Nat, ys.length = n + 32 := ⟨ys.length - 32, by omega⟩
        obtain ⟨gg, rfl⟩ : ∃ gg, a2 = some ⟨gg, 0, none⟩ := by
          rcases H3.out.1.rows.2.2 with ⟨hv, hq⟩ | ⟨g, cap, cur, hv, _⟩
          · rw [List.length_map] at hq; omega
          · injection hv with h1; exact ⟨g, h1⟩
        have hrow := H3.out.1.rows
        have hml : (ys.map Pas.cells).length = ys.length := List.length_map _
        have hdel := Delete_Pa base gg c2 0 n (ys.map Pas.cells) (w2.setCell ⟨b, 0, none⟩ (.slice (some ⟨gg, 0, none⟩) ys.length c2)) (by rw [hml]; exact hrow) (by omega) (by omega)
        rw [hml] at hdel
        have HDEL := Lib.hid hdel
        have HN := Lib.hid hn
        clear hdel hn hrow hml
        go_wp2_with fail
        rw [show ((ys.length : Int) - 32) = (n : Int) from by have := HN.out; omega]
        clear d0 e2
        generalize w2.setCell ⟨b, 0, none⟩ (.slice (some ⟨gg, 0, none⟩) ys.length c2) = w3 at *
        refine HDEL.out.mono ?_
        rintro e w6 ⟨rfl, ho6, hf6⟩
        have hone : ∀ j, one gg j → own (.slice (some ⟨gg, 0, none⟩) ys.length c2) j := fun j hj => by have e : j = gg := hj; rw [e]; rfl
        have hbk6 := hf6.keep H3.out.1.blk (fun h => H3.out.1.nb (hone _ h))
        have d6 : w6.cell? ⟨b, 0, none⟩ = some (.slice (some ⟨gg, 0, none⟩) ys.length c2) := by simp [World.cell?, hbk6]
        have e6 : w6.frozen? ⟨b, 0, none⟩ = false := by simp [World.frozen?, hbk6]
        rw [List.take_zero, List.nil_append, ← List.map_drop, Nat.zero_add] at ho6
        rw [Nat.zero_add]
        have h7 := BookIs.set H3.out.1.low hbk6 ho6
        have hF7 : Fr (bookF b v) w1 (w6.setCell ⟨b, 0, none⟩ (.slice (some ⟨gg, 0, none⟩) (ys.length - n) c2)) := (H3.out.2.1.step hf6 (fun j hj ho => by
          rcases H3.out.2.2 j (Or.inr (hone j ho)) with h | h
          · exact h
          · omega)).setCell (p := ⟨b, 0, none⟩) (fun _ => Or.inl rfl) _
        have hfo7 : ∀ j, bookF b (.slice (some ⟨gg, 0, none⟩) (ys.length - n) c2) j → bookF b v j ∨ w1.heap.size ≤ j := by
          rintro j (hj | hj)
          · exact Or.inl (Or.inl hj)
          · exact H3.out.2.2 j (Or.inr hj)
        have H7 := Lib.hid (And.intro h7 (And.intro hF7 hfo7))
        clear h7 hF7 hfo7 ho6 hf6 hbk6 HDEL d3 e3
        go_wp2
        go_end0
        refine ⟨rfl, _, by rw [HRES.out, show ys.length - 32 = n from by have := HN.out; omega]; exact H7.out.1, Fr.step (HF1.out.mono (fun _ _ h => absurd h (fun h => h))) H7.out.2.1 (fun _ _ h => h), fun j hj => ?_⟩
        rcases H7.out.2.2 j hj with h | h
        · exact Or.inl h
        · exact Or.inr (by omega)
      · have h32' : ¬ (32 : Int) < (ys.length : Int) := by omega
        have hpos : ¬ (0 : Int) < (ys.length : Int) - 32 := by omega
        go_wp2
        go_end0
        refine ⟨rfl, _, by rw [HRES.out, show ys.length - 32 = 0 from by omega, List.drop_zero]; exact H3.out.1, Fr.step (HF1.out.mono (fun _ _ h => absurd h (fun h => h))) H3.out.2.1 (fun _ _ h => h), fun j hj => ?_⟩
        rcases H3.out.2.2 j hj with h | h
        · exact Or.inl h
        · exact Or.inr (by omega)
end Go.Proofs.YtkoobhgedoanhaaDoor
