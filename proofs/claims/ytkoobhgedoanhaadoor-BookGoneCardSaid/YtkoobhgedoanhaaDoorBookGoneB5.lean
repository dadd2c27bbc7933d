/- Package pass: Put. slices.Clone at passes. Package pass: List, Forget, Sweep. Package pass: Forget, Sweep. Package pass: For. Package pass: Covers; the laws' passes. The laws' passes. The laws' home. -/
import Derived.Test.YtkoobhgedoanhaaDoorBookGoneB4
import Derived.Deep.RegionHeld3
import Derived.Deep.AppendLies
import Derived.Test.YtkoobhgedoanhaaDoorBookGoneB3
import Derived.Test.YtkoobhgedoanhaaDoorShelf
import Derived.Test.YtkoobhgedoanhaaDoorBookGoneB1
namespace Go.Proofs.YtkoobhgedoanhaaDoor
open Go.RowKit

theorem info_pass : (Tryd.prog.info? 63).map (fun i => (i.zero, i.size, i.bytes)) = some (some (.agg zPa), 12, 144) := by kernel_rfl
/-- behind an append and its store -/
theorem book_grow {base : Nat} {w2 w4 : World} {b : Nat} {v0 v : Value} {fs : List Pas} {p : Pas} {gg cap : Nat} (hl : base ≤ b) (hb : w2.heap[b]? = some (.cells #[v0] 57 (0, 0))) (hvb : ¬ own v b) (hf4 : Fr (own v) w2 w4)
    (hown4 : w4.ownsRow base 63 12 (.slice (some ⟨gg, 0, none⟩) (fs.length + 1) cap) (fs.length + 1) ((fs.map Pas.cells).flatten ++ p.cells)) :
    BookIs base (w4.setCell ⟨b, 0, none⟩ (.slice (some ⟨gg, 0, none⟩) (fs.length + 1) cap)) b (.slice (some ⟨gg, 0, none⟩) (fs.length + 1) cap) (fs ++ [p]) := by
  refine BookIs.set hl (hf4.keep hb hvb) ⟨?_, ?_⟩
  · intro x hx
    obtain ⟨q, _, rfl⟩ := List.mem_map.1 hx
    exact ⟨rfl, q.cells_one⟩
  · rw [List.map_append, List.flatten_append, List.length_append, List.length_map]
    simpa using hown4
theorem RowsAt.lt {k : Nat} {w : World} {v : Value} {xs : List (List Value)} (h : RowsAt k w v xs) (hne : xs ≠ []) : ∀ j, v.ownBlock = some j → j < w.heap.size := by
  intro j hj
  rcases h.2 with ⟨_, _, _, e, _⟩ | ⟨bk, o, c, hf, _, _, h3, _⟩
  · exact absurd e hne
  · rw [hf] at hj
    have e : bk = j := by simpa [Value.ownBlock] using hj
    omega
def BpRel (base : Nat) (w1 : World) (b : Nat) (v : Value) (ps ls : List Pas) (t : Value) (wr : World) : Prop :=
  ∃ k vk, k ≤ ls.length ∧ t = .int .i64 k ∧ BookIs base wr b vk ((ls.take k).foldl putP ps) ∧ Fr (bookF b v) w1 wr ∧ ∀ j, bookF b vk j → bookF b v j ∨ w1.heap.size ≤ j
theorem puts_step {ps ls : List Pas} {k : Nat} {p : Pas} (h : ls[k]? = some p) : (ls.take (k + 1)).foldl putP ps = ((ls.take k).foldl putP ps).filter (fun q => !p.like q) ++ [p] := by
  rw [take_snocG h, List.foldl_append]; rfl
theorem filter_cells (ps : List Pas) (f : Pas → Bool) : (ps.map Pas.cells).filter (fun x => !f (pasC x)) = (ps.filter (fun q => !f q)).map Pas.cells := by
  rw [List.filter_map]; rfl
theorem kept_news {S : Nat → Prop} {n : Nat} {U w3 : World} {x : List Value} {t : TypeId} (hU : U.heap[n]? = some (.cells x.toArray t (0, 0))) (hf : Fr S U w3) (hn : ¬ S n) : ∀ j u, x[j]? = some u → w3.cell? ((⟨n, 0, none⟩ : Addr).add j) = some u := by
  intro j u hj
  have h := hf.keep hU hn
  have e : (Addr.add ⟨n, 0, none⟩ j) = ⟨n, j, none⟩ := by unfold Addr.add; split <;> simp_all
  rw [e]
  simp only [World.cell?, h]
  simpa using hj
set_option maxHeartbeats 4000000 in
set_option maxRecDepth 100000 in
theorem BookPut_any (base : Nat) (w : World) (b : Nat) (v : Value) (ps : List Pas) (lv : Value) (ls : List Pas) (now : Int) (h : BookIs base w b v ps) (hl : PasAt w lv ls) (hnl : ls ≠ [] → ∀ k, lv.ownBlock = some k → ¬ bookF b v k) (hlen : ps.length + ls.length < 1000000) :
    Calls Tryd.prog 25 #[.pointer (some ⟨b, 0, none⟩), lv, .int .i64 now] w fun e w' => e = .returned (.tuple #[]) ∧ BookPost base w b v (bookPut ps ls now) w' := by
  obtain ⟨al, cl, hlf⟩ := RowsAt.form hl
  rw [List.length_map] at hlf
  subst hlf
  obtain ⟨w1, hw1⟩ : ∃ w1, w1 = w.alloc (.cells #[.int .i64 now] 3) := ⟨_, rfl⟩
  have hf1 : Fr noB w w1 := by rw [hw1]; exact (Fr.refl _ _).alloc _
  have hnb : w1.heap[w.heap.size]? = some (.cells #[.int .i64 now] 3 (0, 0)) := by rw [hw1]; exact new_block _ _
  have hs1 : w.heap.size < w1.heap.size := lt_of_some hnb
  have h1 := h.frN hf1
  have hl1 : PasAt w1 (.slice al ls.length cl) ls := RowsAt.frNone hl hf1
  have HLT := Lib.hid (show ∀ k, bookF b v k → k < w.heap.size from fun k hk => h.foot_lt hk)
  have HW1 := Lib.hid hw1
  have HF1 := Lib.hid hf1
  have HNB := Lib.hid hnb
  clear hl hw1 hf1 hnb h
  go_enter Tryd.func25, Tryd.ntmps25
  go_wp2_with fail
  rw [← HW1.out]
  go_loopw [11] (BpRel base w1 b v ps ls) (fun t _ => ls.length - (intOf t).toNat)
  case atStart => exact ⟨0, v, Nat.zero_le _, rfl, h1, Fr.refl _ _, fun _ h => Or.inl h⟩
  case round =>
    obtain ⟨k, vk, hk, rfl, hb, hfr, hfo⟩ := hrel
    have hlow := hb.low
    have hpl := puts_len (ls.take k) ps
    rw [List.length_take] at hpl
    by_cases hks : k < ls.length
    · have hki : (k : Int) < (ls.length : Int) := by omega
      have hat := Lib.hid (List.getElem?_eq_getElem hks)
      generalize ls[k] = p at hat
      have HST := Lib.hid (puts_step (ps := ps) hat.out)
      generalize (ls.take k).foldl putP ps = fs at hb hpl HST
      have hrow : RowsAt 12 wr (.slice al ls.length cl) (ls.map Pas.cells) := RowsAt.fr hl1 hfr (hnl (fun e => by rw [e] at hat; have := hat.out; simp at this))
      rcases hrow.2 with ⟨_, _, _, e, _⟩ | ⟨bk, of, c, hf, g1, g2, g3, g4⟩
      · have : ls.length = 0 := by have := congrArg List.length e; simpa using this
        omega
      rw [List.length_map] at hf g1
      cases hf
      unfold maxLen at g2
      obtain ⟨x, hx⟩ : ∃ x, x = p.cells := ⟨_, rfl⟩
      have hxk : x.length = 12 := by rw [hx]; rfl
      have hone : ∀ u ∈ x, u.oneCell' = true := by rw [hx]; exact p.cells_one
      have hcell := g4 k x (by rw [List.getElem?_map, hat.out, hx]; rfl)
      have hst := fun W => run_storeCells_new (P := Tryd.prog) W 63 zPa x (by rw [hxk]; rfl) hone
      have hxi : (Tryd.prog.info? 63).map (·.size) = some x.length := sizePa hxk
      clear g4 hrow
      have HX := Lib.hid hx
      have HXI := Lib.hid hxi
      clear hx hxi
      go_wp2_with (first | ((with_reducible refine wpList_at ⟨some 14, _, _, _, _, _⟩ ?_); go_must (refine wpList_load_mid rfl 63 (.tmp 13) rfl bk (of + k * 12) rfl x _ hcell Tryd.underlying63 rfl HXI.out ?_)) | fail)
      have hf2 : Fr noB wr (wr.alloc (.cells x.toArray 63)) := (Fr.refl _ _).alloc _
      have hp2 : (wr.alloc (.cells x.toArray 63)).heap[wr.heap.size]? = some (.cells x.toArray 63 (0, 0)) := new_block _ _
      have hfr2 := hfr.alloc (.cells x.toArray 63)
      have hb2 := hb.frN hf2
      have hwn : ¬ own vk wr.heap.size := fun hk => by have := hb.own_lt hk; omega
      have hwb : b < wr.heap.size := hb.lt
      have HS2 := Lib.hid (show wr.heap.size < (wr.alloc (.cells x.toArray 63)).heap.size from lt_of_some hp2)
      clear hst hcell hf2
      generalize wr.alloc (.cells x.toArray 63) = W2 at *
      obtain ⟨ak, ck, hvk⟩ := hb2.form
      subst hvk
      obtain ⟨fs', hfs'⟩ : ∃ fs', fs' = fs.filter (fun q => !p.like q) := ⟨_, rfl⟩
      have hfl : fs'.length ≤ fs.length := by rw [hfs']; exact List.length_filter_le _ _
      rw [← hfs'] at HST
      have HK := Lib.hid (show ∀ U, Fr (bookF b (.slice ak fs.length ck)) W2 U → (U.cell? ⟨wr.heap.size, 0, none⟩ = some (.bool p.frm.secure) ∧ U.cell? ⟨wr.heap.size, 1, none⟩ = some (.string p.frm.host) ∧ U.cell? ⟨wr.heap.size, 2, none⟩ = some (.int .i64 p.frm.port) ∧ U.cell? ⟨wr.heap.size, 3, none⟩ = some (.bool p.o.secure) ∧ U.cell? ⟨wr.heap.size, 4, none⟩ = some (.string p.o.host) ∧ U.cell? ⟨wr.heap.size, 5, none⟩ = some (.int .i64 p.o.port) ∧ U.cell? ⟨wr.heap.size, 6, none⟩ = some (.string p.path) ∧ U.cell? ⟨wr.heap.size, 7, none⟩ = some (.string p.query) ∧ U.cell? ⟨wr.heap.size, 8, none⟩ = some (.bool p.wth) ∧ U.cell? ⟨wr.heap.size, 9, none⟩ = some (.string p.method) ∧ U.cell? ⟨wr.heap.size, 10, none⟩ = some (.string p.head) ∧ U.cell? ⟨wr.heap.size, 11, none⟩ = some (.int .i64 p.til)) from fun U hU => by
        have j2 := hU.keep hp2 (fun h => by
          rcases h with h | h
          · omega
          · exact hwn h)
        rw [HX.out] at j2
        have hc : ∀ i u, p.cells[i]? = some u → U.cell? ⟨wr.heap.size, i, none⟩ = some u := fun i u hu => by simp only [World.cell?, j2]; simpa using hu
        exact ⟨hc 0 _ rfl, hc 1 _ rfl, hc 2 _ rfl, hc 3 _ rfl, hc 4 _ rfl, hc 5 _ rfl, hc 6 _ rfl, hc 7 _ rfl, hc 8 _ rfl, hc 9 _ rfl, hc 10 _ rfl, hc 11 _ rfl⟩)
      have HBC := Lib.hid (show ∀ U, Fr (own (.slice ak fs.length ck)) W2 U → U.cell? ⟨b, 0, none⟩ = some (.slice ak fs.length ck) from fun U hU => by
        have j1 := hU.keep hb2.blk hb2.nb
        simp [World.cell?, j1])
      have hb0 : (⟨b, 0, none⟩ : Addr).block < W2.heap.size → bookF b (.slice ak fs.length ck) (⟨b, 0, none⟩ : Addr).block := fun _ => Or.inl rfl
      have d0 := HBC.out W2 (Fr.refl _ _)
      have dA : ∀ o : Obj, (W2.alloc o).cell? ⟨b, 0, none⟩ = some (.slice ak fs.length ck) := fun o => HBC.out _ ((Fr.refl _ _).alloc o)
      have HFRZ := Lib.hid (show ∀ U, Fr (own (.slice ak fs.length ck)) W2 U → U.frozen? ⟨b, 0, none⟩ = false from fun U hU => by
        have j1 := hU.keep hb2.blk hb2.nb
        simp [World.frozen?, j1])
      have hcall := Lib.hid (show ∀ U, Fr noB W2 U → Calls Tryd.prog 42 #[.slice ak fs.length ck, .func (.func 60) #[] #[.pointer (some ⟨wr.heap.size, 0, none⟩)]] U fun e w' => ∃ a c, e = .returned (.slice a fs'.length c) ∧ OwnRows base 63 12 w' (.slice a fs'.length c) (fs'.map Pas.cells) ∧ Fr (own (.slice ak fs.length ck)) U w' ∧ own (.slice a fs'.length c) = own (.slice ak fs.length ck) from fun U hU => by
        have hd := DeleteFunc_Pa base 60 #[.pointer (some ⟨wr.heap.size, 0, none⟩)] (fun y => p.like (pasC y)) (.slice ak fs.length ck) (fs.map Pas.cells) U Tryd.call60 (fun y hy u hu => by
          obtain ⟨q, _, rfl⟩ := List.mem_map.1 hy
          have hpu := hu.keep (hU.keep hp2 (fun h => h)) hwn
          rw [HX.out] at hpu
          exact Put1_any p q wr.heap.size u hpu) (hb2.rows.fr hU (fun _ _ h => h))
        rw [filter_cells, List.length_map, ← hfs'] at hd
        exact hd)
      clear hfs'
      obtain ⟨i0, hi0, hz0, hz1, hz2⟩ := info_parts info_pass
      have hnW : ¬ own (.slice ak fs.length ck) W2.heap.size := fun hk => by have := hb2.own_lt hk; omega
      have hbase2 : base ≤ W2.heap.size := by have := HS2.out; omega
      have P0 := HK.out W2 (Fr.refl _ _)
      obtain ⟨x0, x1, x2, x3, x4, x5, x6, x7, x8, x9, x10, x11⟩ := P0
      go_region_law (first
          | ((with_reducible refine step_at ⟨some 21, _, _, _, _, _⟩ ?_)
             refine step_call rfl 42 _ (by go_simp) (hcall.out _ (by repeat (first | exact Fr.refl _ _ | apply Fr.drew | apply Fr.alloc))) ?_
             intro e w3 hdel
             obtain ⟨a3, c3, rfl, hown3, hf3, hoo⟩ := hdel
             refine ⟨_, rfl, ?_⟩
             have HF3 : Fr (own (.slice ak fs.length ck)) W2 w3 := Fr.step (S := own (.slice ak fs.length ck)) (by repeat (first | exact Fr.refl _ _ | apply Fr.drew | apply Fr.alloc)) hf3 (fun _ _ h => h)
             have HF3B : Fr (bookF b (.slice ak fs.length ck)) W2 w3 := HF3.mono (fun _ _ h => Or.inr h)
             have HOWN3 : w3.ownsRow base 63 12 (.slice a3 fs'.length c3) fs'.length (fs'.map Pas.cells).flatten := by
               have h := hown3.2
               rw [List.length_map] at h
               exact h
             have hk3 := HK.out w3 HF3B
             have hb3 : base ≤ w3.heap.size := by have := HF3.size; omega)
          | ((with_reducible refine step_at ⟨some 24, _, _, _, _, _⟩ ?_)
             (first
               | refine step_append_lies _ (by rfl) _ _ _ (by rfl) base 63 i0 _ 12 144 Tryd.underlying53 hi0 hz0 hz1 hz2 rfl (by omega) (.slice a3 fs'.length c3) fs'.length _ (by rfl) (by repeat (first | exact HOWN3 | apply World.ownsRow.alloc | apply World.ownsRow.drew)) ⟨w3.heap.size, 0, none⟩ 1 1 p.cells (by rfl) (by rfl) (new_cells w3 p.cells _) p.cells_one (by omega) (by unfold maxLen; omega) (by omega) (by simp; omega) (w3.heap.size + 1) (by simp) ?_
               | refine step_append_lies _ (by rfl) _ _ _ (by rfl) base 63 i0 _ 12 144 Tryd.underlying53 hi0 hz0 hz1 hz2 rfl (by omega) (.slice a3 fs'.length c3) fs'.length _ (by rfl) (by repeat (first | exact HOWN3 | apply World.ownsRow.alloc | apply World.ownsRow.drew)) ⟨W2.heap.size, 0, none⟩ 1 1 p.cells (by rfl) (by rfl) (kept_news (by exact new_block _ _) hf3 hnW) p.cells_one (by omega) (by unfold maxLen; omega) (by omega) (by omega) (w3.heap.size) (by simp) ?_)
             intro gg cap w4 hown4 hgrow hat hlt4
             have HF4 : Fr (own (.slice ak fs.length ck)) W2 w4 := Fr.grown (by repeat (first | exact HF3 | apply Fr.drew | apply Fr.alloc)) hgrow (fun k hk _ => by rw [← hoo]; exact hk)
             have HF4B : Fr (bookF b (.slice ak fs.length ck)) W2 w4 := HF4.mono (fun _ _ h => Or.inr h)
             have k4 := HBC.out w4 HF4
             have e4 := HFRZ.out w4 HF4))
      all_goals
        have h5 := book_grow (v := .slice ak fs.length ck) hlow hb2.blk hb2.nb HF4 hown4
        rw [← HST.out] at h5
        have hF5 : Fr (bookF b v) w1 (w4.setCell ⟨b, 0, none⟩ (.slice (some ⟨gg, 0, none⟩) (fs'.length + 1) cap)) := hfr2.step (HF4B.setCell (p := ⟨b, 0, none⟩) hb0 _) (fun j hj hb => by
          rcases hfo j hb with h | h
          · exact h
          · omega)
        have hs3 : w1.heap.size ≤ w3.heap.size := by have h1 := hfr2.size; have h2 := HF3.size; omega
        have hfo5 : ∀ j, bookF b (.slice (some ⟨gg, 0, none⟩) (fs'.length + 1) cap) j → bookF b v j ∨ w1.heap.size ≤ j := by
          rintro j (hj | hj)
          · exact Or.inl (Or.inl hj)
          · have e : gg = j := by simpa [own, Value.ownBlock] using hj
            subst e
            rcases hat with hat | hat
            · exact hfo gg (Or.inr (by rw [← hoo]; exact hat))
            · exact Or.inr (by omega)
        have H5 := Lib.hid (And.intro h5 (And.intro hF5 hfo5))
        clear hcall HK HBC HFRZ hown4 hgrow HF4 HF4B HF3 HF3B HOWN3 k4 e4 hk3 x0 x1 x2 x3 x4 x5 x6 x7 x8 x9 x10 x11 d0 dA hb0 h5 hF5 hfo5 hat hoo hown3 hf3
        generalize w4.setCell ⟨b, 0, none⟩ (.slice (some ⟨gg, 0, none⟩) (fs'.length + 1) cap) = w5 at *
        go_wp2
        go_roundw
        case rel => exact ⟨k + 1, _, by omega, by go_num, H5.out.1, H5.out.2.1, H5.out.2.2⟩
        case measure => simp [intOf]; omega
    · have hki : ¬ (k : Int) < (ls.length : Int) := by omega
      have htl : ls.take k = ls := List.take_of_length_le (by omega)
      rw [htl] at hb hpl
      obtain ⟨fs, hfs⟩ : ∃ fs, fs = ls.foldl putP ps := ⟨_, rfl⟩
      rw [← hfs] at hb hpl
      have hnw : ¬ own vk w.heap.size := fun hk => by
        rcases hfo _ (Or.inr hk) with h | h
        · have := HLT.out _ h; omega
        · omega
      have hnbr := hfr.keep HNB.out (fun hk => by have := HLT.out _ hk; omega)
      have hd := DeleteFunc_Pa base 62 #[.pointer (some ⟨w.heap.size, 0, none⟩)] (fun y => !(pasC y).alive now) vk (fs.map Pas.cells) wr Tryd.call62 (fun y hy u hu => by
        obtain ⟨q, _, rfl⟩ := List.mem_map.1 hy
        exact Put2_any q now w.heap.size u (hu.keep hnbr hnw)) hb.rows
      rw [filter_cells fs (fun q => !q.alive now), List.length_map] at hd
      obtain ⟨ys, hys⟩ : ∃ ys, ys = fs.filter (fun q => !!q.alive now) := ⟨_, rfl⟩
      rw [← hys] at hd
      have hyl : ys.length ≤ fs.length := by rw [hys]; exact List.length_filter_le _ _
      have HRES := Lib.hid (show bookPut ps ls now = ys.drop (ys.length - 32) by
        rw [hys, hfs]
        unfold bookPut
        simp only [Bool.not_not])
      obtain ⟨ak, ck, hvk⟩ := hb.form
      have hb' := hb
      subst hvk
      have hd' := Lib.hid hd
      have c0 := hb.c0
      have e0 := hb.free 0
      have HB := Lib.hid hb
      have HFR := Lib.hid hfr
      have HFO := Lib.hid hfo
      have hbsz : b < w1.heap.size := Nat.lt_trans (HLT.out b (Or.inl rfl)) hs1
      clear hd hys hfs hb hb' hfr hfo
      go_wp2_with fail
      refine hd'.out.mono ?_
      rintro e w2 ⟨a2, c2, rfl, ho2, hf2, hoo⟩
      have hbk2 := hf2.keep HB.out.blk HB.out.nb
      have d0 : w2.cell? ⟨b, 0, none⟩ = some (.slice ak fs.length ck) := by simp [World.cell?, hbk2]
      have e2 : w2.frozen? ⟨b, 0, none⟩ = false := by simp [World.frozen?, hbk2]
      have h3 := BookIs.set HB.out.low hbk2 ho2
      have hF3 : Fr (bookF b v) w1 (w2.setCell ⟨b, 0, none⟩ (.slice a2 ys.length c2)) := (HFR.out.step hf2 (fun j hj ho => by
        rcases HFO.out j (Or.inr ho) with h | h
        · exact h
        · omega)).setCell (p := ⟨b, 0, none⟩) (fun _ => Or.inl rfl) _
      have hfo3 : ∀ j, bookF b (.slice a2 ys.length c2) j → bookF b v j ∨ w1.heap.size ≤ j := by
        rintro j (hj | hj)
        · exact Or.inl (Or.inl hj)
        · exact HFO.out j (Or.inr (by rw [← hoo]; exact hj))
      have H3 := Lib.hid (And.intro h3 (And.intro hF3 hfo3))
      have d3 := h3.c0
      have e3 := h3.free 0
      clear h3 hF3 hfo3 hd' ho2 hbk2 c0 e0 hf2 HB HFR HFO hoo
      by_cases h32 : 32 < ys.length
      · have h32' : (32 : Int) < (ys.length : Int) := by omega
        have hpos : (0 : Int) < (ys.length : Int) - 32 := by omega
        obtain ⟨n, hn⟩ : ∃ n : Nat, ys.length = n + 32 := ⟨ys.length - 32, by omega⟩
        obtain ⟨gg, rfl⟩ : ∃ gg, a2 = some ⟨gg, 0, none⟩ := by
          rcases H3.out.1.rows.2.2 with ⟨hv, hq⟩ | ⟨g, cap, cur, hv, _⟩
          · rw [List.length_map] at hq; omega
          · injection hv with h1; exact ⟨g, h1⟩
        have hrow := H3.out.1.rows
        have hml : (ys.map Pas.cells).length = ys.length := List.length_map _
        have hdel := Delete_Pa base gg c2 0 n (ys.map Pas.cells) (w2.setCell ⟨b, 0, none⟩ (.slice (some ⟨gg, 0, none⟩) ys.length c2)) (by rw [hml]; exact hrow) (by omega) (by omega)
        rw [hml] at hdel
        have HDEL := Lib.hid hdel
        have HN := Lib.hid hn
        clear hdel hn hrow hml
        go_wp2_with fail
        rw [show ((ys.length : Int) - 32) = (n : Int) from by have := HN.out; omega]
        clear d0 e2
        generalize w2.setCell ⟨b, 0, none⟩ (.slice (some ⟨gg, 0, none⟩) ys.length c2) = w3 at *
        refine HDEL.out.mono ?_
        rintro e w6 ⟨rfl, ho6, hf6⟩
        have hone : ∀ j, one gg j → own (.slice (some ⟨gg, 0, none⟩) ys.length c2) j := fun j hj => by have e : j = gg := hj; rw [e]; rfl
        have hbk6 := hf6.keep H3.out.1.blk (fun h => H3.out.1.nb (hone _ h))
        have d6 : w6.cell? ⟨b, 0, none⟩ = some (.slice (some ⟨gg, 0, none⟩) ys.length c2) := by simp [World.cell?, hbk6]
        have e6 : w6.frozen? ⟨b, 0, none⟩ = false := by simp [World.frozen?, hbk6]
        rw [List.take_zero, List.nil_append, ← List.map_drop, Nat.zero_add] at ho6
        rw [Nat.zero_add]
        have h7 := BookIs.set H3.out.1.low hbk6 ho6
        have hF7 : Fr (bookF b v) w1 (w6.setCell ⟨b, 0, none⟩ (.slice (some ⟨gg, 0, none⟩) (ys.length - n) c2)) := (H3.out.2.1.step hf6 (fun j hj ho => by
          rcases H3.out.2.2 j (Or.inr (hone j ho)) with h | h
          · exact h
          · omega)).setCell (p := ⟨b, 0, none⟩) (fun _ => Or.inl rfl) _
        have hfo7 : ∀ j, bookF b (.slice (some ⟨gg, 0, none⟩) (ys.length - n) c2) j → bookF b v j ∨ w1.heap.size ≤ j := by
          rintro j (hj | hj)
          · exact Or.inl (Or.inl hj)
          · exact H3.out.2.2 j (Or.inr hj)
        have H7 := Lib.hid (And.intro h7 (And.intro hF7 hfo7))
        clear h7 hF7 hfo7 ho6 hf6 hbk6 HDEL d3 e3
        go_wp2
        go_end0
        refine ⟨rfl, _, by rw [HRES.out, show ys.length - 32 = n from by have := HN.out; omega]; exact H7.out.1, Fr.step (HF1.out.mono (fun _ _ h => absurd h (fun h => h))) H7.out.2.1 (fun _ _ h => h), fun j hj => ?_⟩
        rcases H7.out.2.2 j hj with h | h
        · exact Or.inl h
        · exact Or.inr (by omega)
      · have h32' : ¬ (32 : Int) < (ys.length : Int) := by omega
        have hpos : ¬ (0 : Int) < (ys.length : Int) - 32 := by omega
        go_wp2
        go_end0
        refine ⟨rfl, _, by rw [HRES.out, show ys.length - 32 = 0 from by omega, List.drop_zero]; exact H3.out.1, Fr.step (HF1.out.mono (fun _ _ h => absurd h (fun h => h))) H3.out.2.1 (fun _ _ h => h), fun j hj => ?_⟩
        rcases H3.out.2.2 j hj with h | h
        · exact Or.inl h
        · exact Or.inr (by omega)
end Go.Proofs.YtkoobhgedoanhaaDoor

namespace Go.Proofs.YtkoobhgedoanhaaDoor
open Go.RowKit

theorem info_Ax : (Tryd.prog.info? 63).map (fun i => (i.zero, i.size, i.bytes)) = some (some (.agg #[.bool false, .string ⟨#[]⟩, .int .i64 0, .bool false, .string ⟨#[]⟩, .int .i64 0, .string ⟨#[]⟩, .string ⟨#[]⟩, .bool false, .string ⟨#[]⟩, .string ⟨#[]⟩, .int .i64 0]), 12, 144) := by kernel_rfl
set_option maxHeartbeats 2000000 in
set_option maxRecDepth 100000 in
theorem Clone_A (v : Value) (xs : List (List Value)) (w : World) (h : RowsAt 12 w v xs) (hl : xs.length ≤ 1000000000) :
    Calls Tryd.prog 43 #[v] w fun e w' => ∃ v', e = .returned v' ∧ OwnRows w.heap.size 63 12 w' v' xs ∧ Fr noB w w' := by
  obtain ⟨a, c, hv⟩ := h.form
  subst hv
  have q22 : ∀ (w : World) (a : Option Addr) (n c n' c' : Nat), (binOp .eql 53 (.slice a n c) (.slice none n' c')).run Tryd.prog w = .ok (.bool a.isNone) w := fun w a n c n' c' => Lib.run_eql_slice_nil w _ _ a n c n' c' Tryd.underlying53
  cases a with
  | none =>
    obtain ⟨rfl, rfl⟩ : xs = [] ∧ c = 0 := by
      rcases h.2 with ⟨a', c', hv, hs, hc⟩ | ⟨bk, o', c', hf, _⟩
      · injection hv with e1 e2 e3
        exact ⟨hs, e3.trans (hc e1.symm)⟩
      · injection hf with e1; cases e1
    go_enter Tryd.func43, Tryd.ntmps43
    go_wp2
    go_ret
    exact ⟨_, rfl, OwnRows.nil _ _ _ _, Fr.refl _ _⟩
  | some ad =>
    have HX := h.1
    have HC := Lib.hid (show ∀ j u, xs.flatten[j]? = some u → w.cell? (ad.add j) = some u from fun j u hj => by
      rcases h.2 with ⟨_, _, _, e, _⟩ | ⟨bk, o', c', hf, g1, g2, g3, g4⟩
      · subst e; simp at hj
      · cases hf
        have hfl : xs.flatten.length = xs.length * 12 := flatten_len (fun x hx => (HX x hx).1)
        have hjl := (List.getElem?_eq_some_iff.1 hj).1
        have hd : j / 12 < xs.length := by omega
        have hm : j % 12 < 12 := by omega
        have hx : (xs[j / 12]).length = 12 := (HX _ (List.getElem_mem hd)).1
        have e1 := flatten_at (k := 12) (xs := xs) (fun x hx => (HX x hx).1) (j := j / 12) (List.getElem?_eq_getElem hd) (i := j % 12) (List.getElem?_eq_getElem (by rw [hx]; exact hm))
        rw [Nat.div_add_mod'] at e1
        rw [e1] at hj
        cases hj
        have := g4 (j / 12) _ (List.getElem?_eq_getElem hd) (j % 12) _ (List.getElem?_eq_getElem (by rw [hx]; exact hm))
        have ea : (Addr.add ⟨bk, o', none⟩ j) = ⟨bk, o' + j, none⟩ := by unfold Addr.add; split <;> simp_all
        rw [ea, ← this]
        congr 2
        omega)
    have HF := Lib.hid (show xs.flatten.length = xs.length * 12 from flatten_len (fun x hx => (HX x hx).1))
    have HXX := Lib.hid HX
    obtain ⟨i0, hi, hz0, hz1, hz2⟩ := info_parts info_Ax
    clear HX h
    go_enter Tryd.func43, Tryd.ntmps43
    go_wp2_with (at_builtin; refine wpList_append_own _ rfl _ _ 53 rfl w.heap.size 63 i0 (.agg #[.bool false, .string ⟨#[]⟩, .int .i64 0, .bool false, .string ⟨#[]⟩, .int .i64 0, .string ⟨#[]⟩, .string ⟨#[]⟩, .bool false, .string ⟨#[]⟩, .string ⟨#[]⟩, .int .i64 0]) 12 144 Tryd.underlying53 hi hz0 hz1 hz2 rfl (by decide) _ _ _ rfl (World.ownsRow_made w #[] 0 (Nat.le_refl _) (Nat.zero_le _) rfl) ad xs.length c xs.flatten rfl HF.out ?qc2 ?qc3 ?qc4 ?qc5 ?qc6 ?_)
    case qc2 =>
      intro j u hj
      exact Lib.cell?_alloc_some _ (HC.out j u hj)
    case qc3 =>
      intro u hu
      obtain ⟨x, hx, hux⟩ := List.mem_flatten.1 hu
      exact (HXX.out x hx).2 u hux
    case qc4 => unfold maxLen; omega
    case qc5 => omega
    case qc6 => simp
    intro v' w1 hown hgrow hnil
    go_wp2
    go_ret
    refine ⟨v', rfl, ⟨HXX.out, by simpa using hown⟩, Fr.of_below (((Below.refl _ w).alloc (Nat.le_refl _) _).grown hgrow (by simp) (by intro k hk; simp [Value.ownBlock] at hk; omega))⟩
end Go.Proofs.YtkoobhgedoanhaaDoor

namespace Go.Proofs.YtkoobhgedoanhaaDoor
open Go.RowKit

set_option maxHeartbeats 1000000 in
set_option maxRecDepth 100000 in
theorem BookList_any (base : Nat) (w : World) (b : Nat) (v : Value) (ps : List Pas) (h : BookIs base w b v ps) (hlen : ps.length < 1000000) :
    Calls Tryd.prog 26 #[.pointer (some ⟨b, 0, none⟩)] w fun e w' => ∃ v', e = .returned v' ∧ OwnRows w.heap.size 63 12 w' v' (ps.map Pas.cells) ∧ Fr noB w w' := by
  obtain ⟨av, cv, hv⟩ := h.form
  subst hv
  have c0 := h.c0
  have hc := Lib.hid (Clone_A _ _ w h.rows.at (by rw [List.length_map]; omega))
  clear h
  go_enter Tryd.func26, Tryd.ntmps26
  go_wp2_with fail
  refine hc.out.mono ?_
  rintro e u ⟨v', rfl, ho, hf⟩
  obtain ⟨a', c', hv'⟩ := ho.form
  subst hv'
  rw [List.length_map] at ho
  have HO := Lib.hid ho
  clear ho
  go_wp2
  go_ret
  exact ⟨_, rfl, HO.out, hf⟩

/-- for just what a request asks for -/
def Pas.ofReq (r : ReqL) (p : Pas) : Bool := p.frm.eqB r.frm && (p.o.eqB r.o && (p.path.toList == r.path.toList && p.query.toList == r.query.toList))
/-- comes from an origin, or goes to it -/
def Pas.ofOri (o : Ori) (p : Pas) : Bool := p.frm.eqB o || p.o.eqB o
theorem run_eql_urlP (o : Ori) (pa qu : ByteArray) (o' : Ori) (pa' qu' : ByteArray) (w : World) : (binOp .eql 61 (.agg #[.bool o.secure, .string o.host, .int .i64 o.port, .string pa, .string qu]) (.agg #[.bool o'.secure, .string o'.host, .int .i64 o'.port, .string pa', .string qu'])).run Tryd.prog w = .ok (.bool (o.eqB o' && (pa.toList == pa'.toList && qu.toList == qu'.toList))) w := by
  go_simp
  simp only [show ∀ (P : Prop) [Decidable P] (W : World) (b : Bool), (if P then (Result.ok (Value.bool b) W : Result Value) else .ok (.bool false) W) = .ok (.bool (decide P && b)) W from fun P _ W b => by by_cases h : P <;> simp [h]]
  congr 2
  rw [Bool.eq_iff_iff]
  simp only [Ori.eqB, Bool.and_eq_true, decide_eq_true_eq, beq_iff_eq, and_assoc, and_true]
set_option maxHeartbeats 1000000 in
set_option maxRecDepth 100000 in
theorem Forget1_any (p : Pas) (r : ReqOf Value) (hs : List Prm) (br : Nat) (w : World) (hr : w.heap[br]? = some (.cells r.cells.toArray 67 (0, 0))) :
    Calls Tryd.prog 74 #[.agg p.cells.toArray, .pointer (some ⟨br, 0, none⟩)] w fun e w' => e = .returned (.bool (p.ofReq (r.toL hs))) ∧ Fr noB w w' := by
  have heq := run_eql_ori p.frm r.frm
  have heu := run_eql_urlP p.o p.path p.query r.o r.path r.query
  have hfa : Fr noB w (w.alloc (.cells p.cells.toArray 63)) := (Fr.refl noB w).alloc _
  have g0 := hfa.keep hr (fun h => h)
  have g1 : (w.alloc (.cells p.cells.toArray 63)).heap[w.heap.size]? = some (.cells p.cells.toArray 63 (0, 0)) := new_block _ _
  have hc : ∀ i u, r.cells[i]? = some u → (w.alloc (.cells p.cells.toArray 63)).cell? ⟨br, i, none⟩ = some u := fun i u hu => by simp only [World.cell?, g0]; simpa using hu
  have c1 := hc 1 _ rfl
  have c2 := hc 2 _ rfl
  have c3 := hc 3 _ rfl
  have c4 := hc 4 _ rfl
  have c5 := hc 5 _ rfl
  have c6 := hc 6 _ rfl
  have c7 := hc 7 _ rfl
  have c8 := hc 8 _ rfl
  have HF := Lib.hid hfa
  clear hr g0 g1 hc hfa
  unfold Pas.cells at *
  cases e1 : p.frm.eqB r.frm
  · have HR := Lib.hid (show p.ofReq (r.toL hs) = false by unfold Pas.ofReq ReqOf.toL; simp only; rw [e1]; rfl)
    rw [e1] at heq
    clear e1
    go_enter Tryd.func74, Tryd.ntmps74
    go_wp2
    go_ret
    exact ⟨by rw [HR.out]; rfl, HF.out⟩
  · have HR := Lib.hid (show p.ofReq (r.toL hs) = (p.o.eqB r.o && (p.path.toList == r.path.toList && p.query.toList == r.query.toList)) by unfold Pas.ofReq ReqOf.toL; simp only; rw [e1]; rfl)
    rw [e1] at heq
    generalize (p.o.eqB r.o && (p.path.toList == r.path.toList && p.query.toList == r.query.toList)) = res at *
    clear e1
    go_enter Tryd.func74, Tryd.ntmps74
    go_wp2
    go_ret
    exact ⟨by rw [HR.out]; rfl, HF.out⟩
set_option maxHeartbeats 1000000 in
set_option maxRecDepth 100000 in
theorem BSweep1_any (p : Pas) (o : Ori) (bo : Nat) (w : World) (ho : w.heap[bo]? = some (.cells #[.bool o.secure, .string o.host, .int .i64 o.port] 24 (0, 0))) :
    Calls Tryd.prog 75 #[.agg p.cells.toArray, .pointer (some ⟨bo, 0, none⟩)] w fun e w' => e = .returned (.bool (p.ofOri o)) ∧ Fr noB w w' := by
  have heq := run_eql_ori p.frm o
  have heo := run_eql_ori p.o o
  have hfa : Fr noB w (w.alloc (.cells p.cells.toArray 63)) := (Fr.refl noB w).alloc _
  have g0 := hfa.keep ho (fun h => h)
  have c0 : (w.alloc (.cells p.cells.toArray 63)).cell? ⟨bo, 0, none⟩ = some (.bool o.secure) := by simp [World.cell?, g0]
  have c1 : (w.alloc (.cells p.cells.toArray 63)).cell? ⟨bo, 1, none⟩ = some (.string o.host) := by simp [World.cell?, g0]
  have c2 : (w.alloc (.cells p.cells.toArray 63)).cell? ⟨bo, 2, none⟩ = some (.int .i64 o.port) := by simp [World.cell?, g0]
  have HF := Lib.hid hfa
  clear ho g0 hfa
  unfold Pas.cells at *
  cases e1 : p.frm.eqB o
  · have HR := Lib.hid (show p.ofOri o = p.o.eqB o by unfold Pas.ofOri; rw [e1]; rfl)
    rw [e1] at heq
    generalize p.o.eqB o = res at *
    clear e1
    go_enter Tryd.func75, Tryd.ntmps75
    go_wp2
    go_ret
    exact ⟨by rw [HR.out]; rfl, HF.out⟩
  · have HR := Lib.hid (show p.ofOri o = true by unfold Pas.ofOri; rw [e1]; rfl)
    rw [e1] at heq
    clear e1
    go_enter Tryd.func75, Tryd.ntmps75
    go_wp2
    go_ret
    exact ⟨by rw [HR.out]; rfl, HF.out⟩
end Go.Proofs.YtkoobhgedoanhaaDoor

namespace Go.Proofs.YtkoobhgedoanhaaDoor
open Go.RowKit

def GonePost (base : Nat) (w : World) (b : Nat) (v : Value) (ps : List Pas) (f : Pas → Bool) (e : Ending) (w' : World) : Prop :=
  e = .returned (.int .i64 ((ps.length : Int) - ((ps.filter (fun p => !f p)).length : Int))) ∧ BookPost base w b v (ps.filter (fun p => !f p)) w'
/-- behind DeleteFunc and its store -/
theorem book_gone {base : Nat} {w w1 w2 : World} {b : Nat} {v : Value} {ps ys : List Pas} {a : Option Addr} {c : Nat} (h : BookIs base w1 b v ps) (hf1 : Fr noB w w1) (hf2 : Fr (own v) w1 w2) (hoo : own (.slice a ys.length c) = own v) (ho : OwnRows base 63 12 w2 (.slice a ys.length c) (ys.map Pas.cells)) :
    BookIs base (w2.setCell ⟨b, 0, none⟩ (.slice a ys.length c)) b (.slice a ys.length c) ys ∧ Fr (bookF b v) w (w2.setCell ⟨b, 0, none⟩ (.slice a ys.length c)) ∧ (∀ k, bookF b (.slice a ys.length c) k → bookF b v k ∨ w.heap.size ≤ k) ∧ w2.cell? ⟨b, 0, none⟩ = some v ∧ w2.frozen? ⟨b, 0, none⟩ = false := by
  have hbk2 := hf2.keep h.blk h.nb
  refine ⟨BookIs.set h.low hbk2 ho, ?_, ?_, by simp [World.cell?, hbk2], by simp [World.frozen?, hbk2]⟩
  · exact (Fr.step (S := bookF b v) (hf1.mono (fun _ _ h => absurd h (fun h => h))) hf2 (fun _ _ h => Or.inr h)).setCell (p := ⟨b, 0, none⟩) (fun _ => Or.inl rfl) _
  · rintro k (hk | hk)
    · exact Or.inl (Or.inl hk)
    · exact Or.inl (Or.inr (by rw [← hoo]; exact hk))
set_option maxHeartbeats 2000000 in
set_option maxRecDepth 100000 in
theorem BForget_any (base : Nat) (w : World) (b : Nat) (v : Value) (ps : List Pas) (r : ReqOf Value) (hs : List Prm) (h : BookIs base w b v ps) (hlen : ps.length < 1000000) :
    Calls Tryd.prog 40 #[.pointer (some ⟨b, 0, none⟩), .agg r.cells.toArray] w (GonePost base w b v ps (Pas.ofReq (r.toL hs))) := by
  obtain ⟨rc, hrc⟩ : ∃ rc, rc = r.cells.toArray := ⟨_, rfl⟩
  have hf1 : Fr noB w (w.alloc (.cells rc 67)) := (Fr.refl _ _).alloc _
  have hk1 : (w.alloc (.cells rc 67)).heap[w.heap.size]? = some (.cells rc 67 (0, 0)) := new_block _ _
  have h1 := h.frN hf1
  obtain ⟨ak, ck, hvk⟩ := h.form
  subst hvk
  have hnw : ¬ own (.slice ak ps.length ck) w.heap.size := fun hk => by have := h.own_lt hk; omega
  have hd := DeleteFunc_Pa base 74 #[.pointer (some ⟨w.heap.size, 0, none⟩)] (fun y => (pasC y).ofReq (r.toL hs)) (.slice ak ps.length ck) (ps.map Pas.cells) _ Tryd.call74 (fun y hy u hu => by
    obtain ⟨q, _, rfl⟩ := List.mem_map.1 hy
    exact Forget1_any q r hs w.heap.size u (by rw [← hrc]; exact hu.keep hk1 hnw)) h1.rows
  rw [filter_cells ps (Pas.ofReq (r.toL hs)), List.length_map] at hd
  obtain ⟨ys, hys⟩ : ∃ ys, ys = ps.filter (fun p => !p.ofReq (r.toL hs)) := ⟨_, rfl⟩
  have hyl : ys.length ≤ ps.length := by rw [hys]; exact List.length_filter_le _ _
  unfold GonePost
  rw [← hys] at hd ⊢
  have HD := Lib.hid hd
  have H1 := Lib.hid h1
  have HF1 := Lib.hid hf1
  have c0 := h1.c0
  have e0 := h1.free 0
  rw [← hrc]
  clear hd hys h1 h hf1 hk1 hrc hnw
  go_enter Tryd.func40, Tryd.ntmps40
  go_wp2_with fail
  refine HD.out.mono ?_
  rintro e w2 ⟨a2, c2, rfl, ho2, hf2, hoo⟩
  obtain ⟨g1, g2, g3, d0, e2⟩ := book_gone H1.out HF1.out hf2 hoo ho2
  have d3 := g1.c0
  have G := Lib.hid (And.intro g1 (And.intro g2 g3))
  clear g1 g2 g3 ho2 hf2 hoo HD H1 HF1 c0 e0
  go_wp2
  go_ret
  exact ⟨rfl, _, G.out.1, G.out.2.1, G.out.2.2⟩
set_option maxHeartbeats 2000000 in
set_option maxRecDepth 100000 in
theorem BSweep_any (base : Nat) (w : World) (b : Nat) (v : Value) (ps : List Pas) (o : Ori) (h : BookIs base w b v ps) (hlen : ps.length < 1000000) :
    Calls Tryd.prog 41 #[.pointer (some ⟨b, 0, none⟩), .agg o.cells.toArray] w (GonePost base w b v ps (Pas.ofOri o)) := by
  unfold Ori.cells
  have hf1 : Fr noB w (w.alloc (.cells #[.bool o.secure, .string o.host, .int .i64 o.port] 24)) := (Fr.refl _ _).alloc _
  have hk1 : (w.alloc (.cells #[.bool o.secure, .string o.host, .int .i64 o.port] 24)).heap[w.heap.size]? = some (.cells #[.bool o.secure, .string o.host, .int .i64 o.port] 24 (0, 0)) := new_block _ _
  have h1 := h.frN hf1
  obtain ⟨ak, ck, hvk⟩ := h.form
  subst hvk
  have hnw : ¬ own (.slice ak ps.length ck) w.heap.size := fun hk => by have := h.own_lt hk; omega
  have hd := DeleteFunc_Pa base 75 #[.pointer (some ⟨w.heap.size, 0, none⟩)] (fun y => (pasC y).ofOri o) (.slice ak ps.length ck) (ps.map Pas.cells) _ Tryd.call75 (fun y hy u hu => by
    obtain ⟨q, _, rfl⟩ := List.mem_map.1 hy
    exact BSweep1_any q o w.heap.size u (hu.keep hk1 hnw)) h1.rows
  rw [filter_cells ps (Pas.ofOri o), List.length_map] at hd
  obtain ⟨ys, hys⟩ : ∃ ys, ys = ps.filter (fun p => !p.ofOri o) := ⟨_, rfl⟩
  have hyl : ys.length ≤ ps.length := by rw [hys]; exact List.length_filter_le _ _
  unfold GonePost
  rw [← hys] at hd ⊢
  have HD := Lib.hid hd
  have H1 := Lib.hid h1
  have HF1 := Lib.hid hf1
  have c0 := h1.c0
  have e0 := h1.free 0
  clear hd hys h1 h hf1 hk1 hnw
  go_enter Tryd.func41, Tryd.ntmps41
  go_wp2_with fail
  refine HD.out.mono ?_
  rintro e w2 ⟨a2, c2, rfl, ho2, hf2, hoo⟩
  obtain ⟨g1, g2, g3, d0, e2⟩ := book_gone H1.out HF1.out hf2 hoo ho2
  have d3 := g1.c0
  have G := Lib.hid (And.intro g1 (And.intro g2 g3))
  clear g1 g2 g3 ho2 hf2 hoo HD H1 HF1 c0 e0
  go_wp2
  go_ret
  exact ⟨rfl, _, G.out.1, G.out.2.1, G.out.2.2⟩
end Go.Proofs.YtkoobhgedoanhaaDoor

namespace Go.Proofs.YtkoobhgedoanhaaDoor
open Go.RowKit

def FoRel (ps : List Pas) (r : ReqL) (now : Int) (w1 : World) (out t : Value) (wr : World) : Prop :=
  ∃ k : Nat, k ≤ ps.length ∧ t = .int .i64 k ∧ OwnRows w1.heap.size 63 12 wr out ((bookFor (ps.take k) r now).map Pas.cells) ∧ Fr noB w1 wr
theorem for_hit {ps : List Pas} {r : ReqL} {now : Int} {k : Nat} {p : Pas} (h : ps[k]? = some p) (hm : r.mine now p = true) : bookFor (ps.take (k + 1)) r now = bookFor (ps.take k) r now ++ [p] := by
  unfold bookFor; rw [take_snocG h, List.filter_append]; simp [hm]
theorem for_miss {ps : List Pas} {r : ReqL} {now : Int} {k : Nat} {p : Pas} (h : ps[k]? = some p) (hm : r.mine now p = false) : bookFor (ps.take (k + 1)) r now = bookFor (ps.take k) r now := by
  unfold bookFor; rw [take_snocG h, List.filter_append]; simp [hm]
set_option maxHeartbeats 8000000 in
set_option maxRecDepth 100000 in
theorem For_any (base : Nat) (w : World) (b : Nat) (v : Value) (ps : List Pas) (r : ReqOf Value) (hs : List Prm) (now : Int) (h : BookIs base w b v ps) (hlen : ps.length < 1000000) :
    Calls Tryd.prog 28 #[.pointer (some ⟨b, 0, none⟩), .agg r.cells.toArray, .int .i64 now] w fun e w' => ∃ v', e = .returned v' ∧ OwnRows w.heap.size 63 12 w' v' ((bookFor ps (r.toL hs) now).map Pas.cells) ∧ Fr noB w w' := by
  obtain ⟨rc, hrc⟩ : ∃ rc, rc = r.cells.toArray := ⟨_, rfl⟩
  obtain ⟨w1, hw1⟩ : ∃ w1, w1 = w.alloc (.cells rc 67) := ⟨_, rfl⟩
  have hf1 : Fr noB w w1 := by rw [hw1]; exact (Fr.refl _ _).alloc _
  have hk1 : w1.heap[w.heap.size]? = some (.cells rc 67 (0, 0)) := by rw [hw1]; exact new_block _ _
  have h1 := h.frN hf1
  obtain ⟨ak, ck, hvk⟩ := h.form
  subst hvk
  have hrows : RowsAt 12 w1 (.slice ak ps.length ck) (ps.map Pas.cells) := h1.rows.at
  have HC := Lib.hid (show ∀ U, Fr noB w1 U → U.cell? ⟨w.heap.size, 1, none⟩ = some (.bool r.frm.secure) ∧ U.cell? ⟨w.heap.size, 2, none⟩ = some (.string r.frm.host) ∧ U.cell? ⟨w.heap.size, 3, none⟩ = some (.int .i64 r.frm.port) ∧ U.cell? ⟨w.heap.size, 4, none⟩ = some (.bool r.o.secure) ∧ U.cell? ⟨w.heap.size, 5, none⟩ = some (.string r.o.host) ∧ U.cell? ⟨w.heap.size, 6, none⟩ = some (.int .i64 r.o.port) ∧ U.cell? ⟨w.heap.size, 7, none⟩ = some (.string r.path) ∧ U.cell? ⟨w.heap.size, 8, none⟩ = some (.string r.query) ∧ U.cell? ⟨w.heap.size, 11, none⟩ = some (.bool r.wth) from fun U hU => by
    have j := hU.keep hk1 (fun h => h)
    rw [hrc] at j
    have hc : ∀ i u, r.cells[i]? = some u → U.cell? ⟨w.heap.size, i, none⟩ = some u := fun i u hu => by simp only [World.cell?, j]; simpa using hu
    exact ⟨hc 1 _ rfl, hc 2 _ rfl, hc 3 _ rfl, hc 4 _ rfl, hc 5 _ rfl, hc 6 _ rfl, hc 7 _ rfl, hc 8 _ rfl, hc 11 _ rfl⟩)
  have HM := Lib.hid (show ∀ p : Pas, (r.toL hs).mine now p = (p.alive now && (p.frm.eqB r.frm && ((p.o.eqB r.o && (p.path.toList == r.path.toList && p.query.toList == r.query.toList)) && (p.wth || !r.wth)))) from fun _ => rfl)
  generalize r.toL hs = rl at HM ⊢
  have c0 := h1.c0
  rw [hw1] at c0
  have HW1 := Lib.hid hw1
  have HF1 := Lib.hid hf1
  have hs1 : w.heap.size ≤ w1.heap.size := hf1.size
  rw [← hrc]
  clear hw1 hf1 hk1 h1 h hrc
  go_enter Tryd.func28, Tryd.ntmps28
  go_wp2_with fail
  rw [← HW1.out]
  go_loopw [7, 15] (FoRel ps rl now w1) (fun _ t _ => ps.length - (intOf t).toNat)
  case atStart => exact ⟨0, Nat.zero_le _, rfl, OwnRows.nil _ _ _ _, Fr.refl _ _⟩
  case round =>
    obtain ⟨k, hk, rfl, ho, hfr⟩ := hrel
    obtain ⟨ao, co, hoe⟩ := ho.form
    rw [List.length_map] at hoe
    subst hoe
    have hol : (bookFor (ps.take k) rl now).length ≤ 1000000 := by
      have h1 := List.length_filter_le (rl.mine now) (ps.take k)
      rw [List.length_take] at h1
      unfold bookFor; omega
    by_cases hks : k < ps.length
    · have hki : (k : Int) < (ps.length : Int) := by omega
      have hat := Lib.hid (List.getElem?_eq_getElem hks)
      generalize ps[k] = p at hat
      have hrow : RowsAt 12 wr (.slice ak ps.length ck) (ps.map Pas.cells) := RowsAt.frNone hrows hfr
      rcases hrow.2 with ⟨_, _, _, e, _⟩ | ⟨bk, of, c, hf, g1, g2, g3, g4⟩
      · have : ps.length = 0 := by have := congrArg List.length e; simpa using this
        omega
      rw [List.length_map] at hf g1
      cases hf
      unfold maxLen at g2
      obtain ⟨x, hx⟩ : ∃ x, x = p.cells := ⟨_, rfl⟩
      have hxk : x.length = 12 := by rw [hx]; rfl
      have hone : ∀ u ∈ x, u.oneCell' = true := by rw [hx]; exact p.cells_one
      have hcell := g4 k x (by rw [List.getElem?_map, hat.out, hx]; rfl)
      have hst := fun W => run_storeCells_new (P := Tryd.prog) W 63 zPa x (by rw [hxk]; rfl) hone
      have hxi : (Tryd.prog.info? 63).map (·.size) = some x.length := sizePa hxk
      have HXI2 := Lib.hid (show (Tryd.prog.info? 63).map (·.size) = some x.toArray.size by rw [List.size_toArray]; exact hxi)
      clear g4 hrow
      have HX := Lib.hid hx
      have HXI := Lib.hid hxi
      have HONE := Lib.hid hone
      have HNEW := Lib.hid (new_block wr (.cells x.toArray 63))
      have hf2 : Fr noB wr (wr.alloc (.cells x.toArray 63)) := (Fr.refl _ _).alloc _
      have HP := Lib.hid (show ∀ U, Fr noB (wr.alloc (.cells x.toArray 63)) U → U.heap[wr.heap.size]? = some (.cells x.toArray 63 (0, 0)) from fun U hU => hU.keep (new_block _ _) (fun h => h))
      have HPC := Lib.hid (show ∀ U, Fr noB (wr.alloc (.cells x.toArray 63)) U → U.cell? ⟨wr.heap.size, 0, none⟩ = some (.bool p.frm.secure) ∧ U.cell? ⟨wr.heap.size, 1, none⟩ = some (.string p.frm.host) ∧ U.cell? ⟨wr.heap.size, 2, none⟩ = some (.int .i64 p.frm.port) ∧ U.cell? ⟨wr.heap.size, 3, none⟩ = some (.bool p.o.secure) ∧ U.cell? ⟨wr.heap.size, 4, none⟩ = some (.string p.o.host) ∧ U.cell? ⟨wr.heap.size, 5, none⟩ = some (.int .i64 p.o.port) ∧ U.cell? ⟨wr.heap.size, 6, none⟩ = some (.string p.path) ∧ U.cell? ⟨wr.heap.size, 7, none⟩ = some (.string p.query) ∧ U.cell? ⟨wr.heap.size, 8, none⟩ = some (.bool p.wth) from fun U hU => by
        have j := HP.out U hU
        rw [HX.out] at j
        have hc : ∀ i u, p.cells[i]? = some u → U.cell? ⟨wr.heap.size, i, none⟩ = some u := fun i u hu => by simp only [World.cell?, j]; simpa using hu
        exact ⟨hc 0 _ rfl, hc 1 _ rfl, hc 2 _ rfl, hc 3 _ rfl, hc 4 _ rfl, hc 5 _ rfl, hc 6 _ rfl, hc 7 _ rfl, hc 8 _ rfl⟩)
      have HAL := Lib.hid (show ∀ U, Calls Tryd.prog 63 #[.agg x.toArray, .int .i64 now] U fun e w' => e = .returned (.bool (p.alive now)) ∧ Fr noB U w' from fun U => by rw [HX.out]; exact alive_any p now U)
      have hwr : w.heap.size ≤ wr.heap.size := by have := hfr.size; omega
      have HFR := Lib.hid (hfr.trans hf2)
      have HO := Lib.hid (show ∀ U, Fr noB (wr.alloc (.cells x.toArray 63)) U → OwnRows w1.heap.size 63 12 U (.slice ao (bookFor (ps.take k) rl now).length co) ((bookFor (ps.take k) rl now).map Pas.cells) from fun U hU => (ho.alloc _).fr hU (fun _ _ h => h))
      have HMI := Lib.hid (HM.out p)
      have HHIT := Lib.hid (fun hm => for_hit (r := rl) (now := now) hat.out hm)
      have HMISS := Lib.hid (fun hm => for_miss (r := rl) (now := now) hat.out hm)
      obtain ⟨fs, hfs⟩ : ∃ fs, fs = bookFor (ps.take k) rl now := ⟨_, rfl⟩
      rw [← hfs] at HO HHIT HMISS hol ⊢
      clear hx hxi hone ho hf2 hfr hfs
      go_wp2_with (first | ((with_reducible refine wpList_at ⟨some 18, _, _, _, _, _⟩ ?_); go_must (refine wpList_load_mid rfl 63 (.tmp 17) rfl bk (of + k * 12) rfl x _ hcell Tryd.underlying63 rfl HXI.out ?_)) | ((with_reducible refine wpList_at ⟨some 19, _, _, _, _, _⟩ ?_); go_must (refine wpList_load_row rfl 63 (.tmp 9) rfl wr.heap.size rfl _ x.toArray (0, 0) _ HNEW.out Tryd.underlying63 rfl HXI2.out ?_)) | fail)
      have hfold := fold_zip x #[.bool false, .string ⟨#[]⟩, .int .i64 0, .bool false, .string ⟨#[]⟩, .int .i64 0, .string ⟨#[]⟩, .string ⟨#[]⟩, .bool false, .string ⟨#[]⟩, .string ⟨#[]⟩, .int .i64 0] (by rw [hxk]; rfl)
      clear hst hcell
      generalize wr.alloc (.cells x.toArray 63) = W2 at *
      refine (HAL.out W2).mono ?_
      rintro e w3 ⟨rfl, hf3⟩
      obtain ⟨p0, p1, p2, p3, p4, p5, p6, p7, p8⟩ := HPC.out w3 hf3
      have HF3 := Lib.hid (HFR.out.trans hf3)
      obtain ⟨r1, r2, r3, r4, r5, r6, r7, r8, r11⟩ := HC.out w3 HF3.out
      have HB3 := Lib.hid (HP.out w3 hf3)
      have ho3 := Lib.hid (HO.out w3 hf3)
      have h33 : w1.heap.size ≤ w3.heap.size := HF3.out.size
      have heq := run_eql_ori p.frm r.frm
      have heu := run_eql_urlP p.o p.path p.query r.o r.path r.query
      clear HAL HP HPC hf3
      cases ea : p.alive now
      · have HN := Lib.hid (HMISS.out (by rw [HMI.out, ea]; rfl))
        clear HMI HHIT HMISS ea heq heu
        go_wp2
        go_roundw
        case rel => exact ⟨k + 1, by omega, by go_num, by rw [HN.out]; exact ho3.out, HF3.out⟩
        case measure => simp [intOf]; omega
      · cases e1 : p.frm.eqB r.frm
        · rw [e1] at heq
          have HN := Lib.hid (HMISS.out (by rw [HMI.out, ea, e1]; rfl))
          clear HMI HHIT HMISS ea e1 heu
          go_wp2
          go_roundw
          case rel => exact ⟨k + 1, by omega, by go_num, by rw [HN.out]; exact ho3.out, HF3.out⟩
          case measure => simp [intOf]; omega
        · rw [e1] at heq
          cases e2 : (p.o.eqB r.o && (p.path.toList == r.path.toList && p.query.toList == r.query.toList))
          · rw [e2] at heu
            have HN := Lib.hid (HMISS.out (by rw [HMI.out, ea, e1, e2]; rfl))
            clear HMI HHIT HMISS ea e1 e2
            go_wp2
            go_roundw
            case rel => exact ⟨k + 1, by omega, by go_num, by rw [HN.out]; exact ho3.out, HF3.out⟩
            case measure => simp [intOf]; omega
          · rw [e2] at heu
            cases e3 : p.wth
            · rw [e3] at p8
              cases e4 : r.wth
              · rw [e4] at r11
                have HY := Lib.hid (HHIT.out (by rw [HMI.out, ea, e1, e2, e3, e4]; rfl))
                clear HMI HHIT HMISS ea e1 e2 e3 e4
                go_wp2_with (first | ((with_reducible refine wpList_at ⟨some 46, _, _, _, _, _⟩ ?_); go_must (refine wpList_load_row rfl 63 (.tmp 9) rfl wr.heap.size rfl _ x.toArray (0, 0) _ HB3.out Tryd.underlying63 rfl HXI2.out ?_)) | (at_builtin; go_must (refine wpList_row rfl _ _ 53 63 rfl 12 144 (.agg zPa) Tryd.underlying53 info_pass rfl (by decide) (by decide) w1.heap.size (.slice ao fs.length co) (fs.map Pas.cells) rfl (ho3.out.alloc _) w3.heap.size 1 x rfl hxk HONE.out (fun i u hi => by rw [World.cell?_alloc_mark]; simpa using hi) (by rw [List.length_map]; omega) (by simp; omega) ?_); intro v' w4 hown4 hg4))
                have HF4 := Lib.hid ((HF3.out.alloc (.cells x.toArray 63)).grownNew hg4 (fun j hj => ho3.out.block j hj))
                go_roundw
                case rel => exact ⟨k + 1, by omega, by go_num, by rw [HY.out, List.map_append, List.map_cons, List.map_nil, ← HX.out]; exact hown4, HF4.out⟩
                case measure => simp [intOf]; omega
              · rw [e4] at r11
                have HN := Lib.hid (HMISS.out (by rw [HMI.out, ea, e1, e2, e3, e4]; rfl))
                clear HMI HHIT HMISS ea e1 e2 e3 e4
                go_wp2
                go_roundw
                case rel => exact ⟨k + 1, by omega, by go_num, by rw [HN.out]; exact ho3.out, HF3.out⟩
                case measure => simp [intOf]; omega
            · rw [e3] at p8
              have HY := Lib.hid (HHIT.out (by rw [HMI.out, ea, e1, e2, e3]; rfl))
              clear HMI HHIT HMISS ea e1 e2 e3
              go_wp2_with (first | ((with_reducible refine wpList_at ⟨some 46, _, _, _, _, _⟩ ?_); go_must (refine wpList_load_row rfl 63 (.tmp 9) rfl wr.heap.size rfl _ x.toArray (0, 0) _ HB3.out Tryd.underlying63 rfl HXI2.out ?_)) | (at_builtin; go_must (refine wpList_row rfl _ _ 53 63 rfl 12 144 (.agg zPa) Tryd.underlying53 info_pass rfl (by decide) (by decide) w1.heap.size (.slice ao fs.length co) (fs.map Pas.cells) rfl (ho3.out.alloc _) w3.heap.size 1 x rfl hxk HONE.out (fun i u hi => by rw [World.cell?_alloc_mark]; simpa using hi) (by rw [List.length_map]; omega) (by simp; omega) ?_); intro v' w4 hown4 hg4))
              have HF4 := Lib.hid ((HF3.out.alloc (.cells x.toArray 63)).grownNew hg4 (fun j hj => ho3.out.block j hj))
              go_roundw
              case rel => exact ⟨k + 1, by omega, by go_num, by rw [HY.out, List.map_append, List.map_cons, List.map_nil, ← HX.out]; exact hown4, HF4.out⟩
              case measure => simp [intOf]; omega
    · have hki : ¬ (k : Int) < (ps.length : Int) := by omega
      have htl : ps.take k = ps := List.take_of_length_le (by omega)
      rw [htl] at ho hol ⊢
      obtain ⟨fs, hfs⟩ : ∃ fs, fs = bookFor ps rl now := ⟨_, rfl⟩
      rw [← hfs] at ho hol ⊢
      have HO := Lib.hid ho
      have HEQ := Lib.hid hfs
      clear ho hfs
      go_wp2
      go_ret
      exact ⟨.slice ao fs.length co, rfl, by rw [← HEQ.out]; exact HO.out.up hs1, HF1.out.trans hfr⟩
end Go.Proofs.YtkoobhgedoanhaaDoor

namespace Go.Proofs.YtkoobhgedoanhaaDoor
open Go.RowKit

set_option maxHeartbeats 4000000 in
set_option maxRecDepth 100000 in
theorem BCovers_any (base : Nat) (w : World) (b : Nat) (v : Value) (ps : List Pas) (r : ReqOf Value) (hs : List Prm) (now : Int) (h : BookIs base w b v ps) (hlen : ps.length < 1000000) (hr : PrmsAt w r.heads hs) (hz : ReqOk r hs) :
    Calls Tryd.prog 30 #[.pointer (some ⟨b, 0, none⟩), .agg r.cells.toArray, .int .i64 now] w fun e w' => e = .returned (.bool (bookCovers ps (r.toL hs) now)) ∧ Fr noB w w' := by
  have HRES := Lib.hid (show bookCovers ps (r.toL hs) now = (!(r.toL hs).needs || (r.toL hs).covers (bookFor ps (r.toL hs) now)) from rfl)
  generalize bookCovers ps (r.toL hs) now = res at HRES ⊢
  obtain ⟨w1, hw1⟩ : ∃ w1, w1 = w.alloc (.cells r.cells.toArray 67) := ⟨_, rfl⟩
  have hf1 : Fr noB w w1 := by rw [hw1]; exact (Fr.refl _ _).alloc _
  have hk1 : w1.heap[w.heap.size]? = some (.cells r.cells.toArray 67 (0, 0)) := by rw [hw1]; exact new_block _ _
  have HN := Lib.hid (show ∀ U, Fr noB w1 U → Calls Tryd.prog 31 #[.agg r.cells.toArray] U fun e w' => e = .returned (.bool (r.toL hs).needs) ∧ Fr noB U w' from fun U hU => Needs_any r hs U (RowsAt.frNone hr (hf1.trans hU)) hz)
  have HFO := Lib.hid (show ∀ U, Fr noB w1 U → Calls Tryd.prog 28 #[.pointer (some ⟨b, 0, none⟩), .agg r.cells.toArray, .int .i64 now] U fun e w' => ∃ v', e = .returned v' ∧ OwnRows U.heap.size 63 12 w' v' ((bookFor ps (r.toL hs) now).map Pas.cells) ∧ Fr noB U w' from fun U hU => For_any base U b v ps r hs now (h.frN (hf1.trans hU)) hlen)
  have HCV := Lib.hid (show ∀ U, Fr noB w1 U → ∀ lv, PasAt U lv (bookFor ps (r.toL hs) now) → Calls Tryd.prog 67 #[.agg r.cells.toArray, lv] U fun e w' => e = .returned (.bool ((r.toL hs).covers (bookFor ps (r.toL hs) now))) ∧ Fr noB U w' from fun U hU lv hlv => Covers_any r hs lv _ U (RowsAt.frNone hr (hf1.trans hU)) hlv hz)
  obtain ⟨ah, ch, hhf⟩ := RowsAt.form hr
  rw [List.length_map] at hhf
  have hrc : r.cells = [.int .i64 r.part, .bool r.frm.secure, .string r.frm.host, .int .i64 r.frm.port, .bool r.o.secure, .string r.o.host, .int .i64 r.o.port, .string r.path, .string r.query, .string r.method, .slice ah hs.length ch, .bool r.wth, .string r.body] := by unfold ReqOf.cells; rw [hhf]
  have HC := Lib.hid (show ∀ U, Fr noB w1 U → (U.cell? ⟨w.heap.size, 0, none⟩ = some (.int .i64 r.part) ∧ U.cell? ⟨w.heap.size, 1, none⟩ = some (.bool r.frm.secure) ∧ U.cell? ⟨w.heap.size, 2, none⟩ = some (.string r.frm.host) ∧ U.cell? ⟨w.heap.size, 3, none⟩ = some (.int .i64 r.frm.port) ∧ U.cell? ⟨w.heap.size, 4, none⟩ = some (.bool r.o.secure) ∧ U.cell? ⟨w.heap.size, 5, none⟩ = some (.string r.o.host) ∧ U.cell? ⟨w.heap.size, 6, none⟩ = some (.int .i64 r.o.port) ∧ U.cell? ⟨w.heap.size, 7, none⟩ = some (.string r.path) ∧ U.cell? ⟨w.heap.size, 8, none⟩ = some (.string r.query) ∧ U.cell? ⟨w.heap.size, 9, none⟩ = some (.string r.method) ∧ U.cell? ⟨w.heap.size, 10, none⟩ = some (.slice ah hs.length ch) ∧ U.cell? ⟨w.heap.size, 11, none⟩ = some (.bool r.wth) ∧ U.cell? ⟨w.heap.size, 12, none⟩ = some (.string r.body)) from fun U hU => by
    have j := hU.keep hk1 (fun h => h)
    rw [hrc] at j
    simp [World.cell?, j])
  rw [hrc] at HN HFO HCV hw1 ⊢
  have HF1 := Lib.hid hf1
  have hhw := hw1
  clear h hr hz hf1 hk1 hrc hhf
  cases hn : (r.toL hs).needs
  · have HR := Lib.hid (show res = true by rw [HRES.out, hn]; rfl)
    rw [hn] at HN
    clear hn HRES HFO HCV hhw
    go_enter Tryd.func30, Tryd.ntmps30
    go_wp2_with fail
    rw [← hw1]
    clear hw1
    refine wp_region_held_drew (S := (fun U => U.cell? ⟨w.heap.size, 0, none⟩ = some (.int .i64 r.part) ∧ U.cell? ⟨w.heap.size, 1, none⟩ = some (.bool r.frm.secure) ∧ U.cell? ⟨w.heap.size, 2, none⟩ = some (.string r.frm.host) ∧ U.cell? ⟨w.heap.size, 3, none⟩ = some (.int .i64 r.frm.port) ∧ U.cell? ⟨w.heap.size, 4, none⟩ = some (.bool r.o.secure) ∧ U.cell? ⟨w.heap.size, 5, none⟩ = some (.string r.o.host) ∧ U.cell? ⟨w.heap.size, 6, none⟩ = some (.int .i64 r.o.port) ∧ U.cell? ⟨w.heap.size, 7, none⟩ = some (.string r.path) ∧ U.cell? ⟨w.heap.size, 8, none⟩ = some (.string r.query) ∧ U.cell? ⟨w.heap.size, 9, none⟩ = some (.string r.method) ∧ U.cell? ⟨w.heap.size, 10, none⟩ = some (.slice ah hs.length ch) ∧ U.cell? ⟨w.heap.size, 11, none⟩ = some (.bool r.wth) ∧ U.cell? ⟨w.heap.size, 12, none⟩ = some (.string r.body))) (by kernel_rfl) (HC.out _ (Fr.refl noB w1).drew) ?_
    intro hS0
    refine wpAnyH_take (i := 0) (oi := ⟨some 7, _, _, _, _, _⟩) (v := ?_) rfl (by kernel_rfl) (by kernel_rfl) (by kernel_rfl) (fun _ _ _ h => h) (Or.inl ⟨by rfl, ?hy⟩) (by assumption) ?_
    case hy => (intro w hSw; (try dsimp only at hSw); go_simp <;> with_reducible rfl)
    try simp only [Act.put, List.setIfInBounds_toArray, List.set_cons_zero, List.set_cons_succ]
    refine wpAnyH_ready (rs := [1]) (by kernel_rfl) (by simp) ?_
    refine AllReadyH.cons rfl (fun K hK => ?_) AllReadyH.nil
    go_simp
    refine (HN.out _ (Fr.refl noB w1).drew).mono ?_
    rintro e v1 ⟨rfl, hv1⟩
    have HF2 := Lib.hid (show Fr noB w1 v1 from ((Fr.refl noB w1).drew).trans hv1)
    refine hK.out _ _ (HC.out _ HF2.out) ?_
    intro hS1
    clear hK hS0 hv1 K
    try simp only [Act.put, List.setIfInBounds_toArray, List.set_cons_zero, List.set_cons_succ]
    refine wpAnyH_take (i := 2) (oi := ⟨some 9, _, _, _, _, _⟩) (v := ?_) rfl (by kernel_rfl) (by kernel_rfl) (by kernel_rfl) (fun _ _ _ h => h) (Or.inl ⟨by rfl, ?hy⟩) (by assumption) ?_
    case hy => (intro w hSw; (try dsimp only at hSw); go_simp <;> with_reducible rfl)
    try simp only [Act.put, List.setIfInBounds_toArray, List.set_cons_zero, List.set_cons_succ]
    refine wpAnyH_take (i := 3) (oi := ⟨some 10, _, _, _, _, _⟩) (v := ?_) rfl (by kernel_rfl) (by kernel_rfl) (by kernel_rfl) (fun _ _ _ h => h) (Or.inl ⟨by rfl, ?hy⟩) (by assumption) ?_
    case hy => (intro w hSw; (try dsimp only at hSw); go_simp <;> with_reducible rfl)
    try simp only [Act.put, List.setIfInBounds_toArray, List.set_cons_zero, List.set_cons_succ]
    refine wpAnyH_take (i := 4) (oi := ⟨some 11, _, _, _, _, _⟩) (v := undef) rfl (by kernel_rfl) (by kernel_rfl) (by kernel_rfl) (fun _ _ _ h => h) (Or.inr ⟨by rfl, rfl⟩) (by assumption) ?_
    try simp only [Act.put, List.setIfInBounds_toArray, List.set_cons_zero, List.set_cons_succ]
    refine wpAnyH_take (i := 5) (oi := ⟨some 12, _, _, _, _, _⟩) (v := undef) rfl (by kernel_rfl) (by kernel_rfl) (by kernel_rfl) (fun _ _ _ h => h) (Or.inr ⟨by rfl, rfl⟩) (by assumption) ?_
    try simp only [Act.put, List.setIfInBounds_toArray, List.set_cons_zero, List.set_cons_succ]
    refine wpAnyH_take (i := 6) (oi := ⟨some 13, _, _, _, _, _⟩) (v := undef) rfl (by kernel_rfl) (by kernel_rfl) (by kernel_rfl) (fun _ _ _ h => h) (Or.inr ⟨by rfl, rfl⟩) (by assumption) ?_
    try simp only [Act.put, List.setIfInBounds_toArray, List.set_cons_zero, List.set_cons_succ]
    refine wpAnyH_take (i := 7) (oi := ⟨some 14, _, _, _, _, _⟩) (v := undef) rfl (by kernel_rfl) (by kernel_rfl) (by kernel_rfl) (fun _ _ _ h => h) (Or.inr ⟨by rfl, rfl⟩) (by assumption) ?_
    try simp only [Act.put, List.setIfInBounds_toArray, List.set_cons_zero, List.set_cons_succ]
    refine wpAnyH_take (i := 8) (oi := ⟨some 15, _, _, _, _, _⟩) (v := undef) rfl (by kernel_rfl) (by kernel_rfl) (by kernel_rfl) (fun _ _ _ h => h) (Or.inr ⟨by rfl, rfl⟩) (by assumption) ?_
    try simp only [Act.put, List.setIfInBounds_toArray, List.set_cons_zero, List.set_cons_succ]
    refine wpAnyH_take (i := 9) (oi := ⟨some 16, _, _, _, _, _⟩) (v := undef) rfl (by kernel_rfl) (by kernel_rfl) (by kernel_rfl) (fun _ _ _ h => h) (Or.inr ⟨by rfl, rfl⟩) (by assumption) ?_
    try simp only [Act.put, List.setIfInBounds_toArray, List.set_cons_zero, List.set_cons_succ]
    refine wpAnyH_take (i := 10) (oi := ⟨some 17, _, _, _, _, _⟩) (v := ?_) rfl (by kernel_rfl) (by kernel_rfl) (by kernel_rfl) (fun _ _ _ h => h) (Or.inl ⟨by rfl, ?hy⟩) (by assumption) ?_
    case hy => (intro w hSw; (try dsimp only at hSw); go_simp <;> with_reducible rfl)
    try simp only [Act.put, List.setIfInBounds_toArray, List.set_cons_zero, List.set_cons_succ]
    refine wpAnyH_take (i := 11) (oi := ⟨some 6, _, _, _, _, _⟩) (v := ?_) rfl (by kernel_rfl) (by kernel_rfl) (by kernel_rfl) (fun _ _ _ h => h) (Or.inl ⟨by rfl, ?hy⟩) (by assumption) ?_
    case hy => (intro w hSw; (try dsimp only at hSw); go_simp <;> with_reducible rfl)
    try simp only [Act.put, List.setIfInBounds_toArray, List.set_cons_zero, List.set_cons_succ]
    refine wpAnyH_done (by kernel_rfl) ?_ _
    go_wp2
    go_ret
    exact ⟨by rw [HR.out]; rfl, HF1.out.trans HF2.out⟩
  · have HR := Lib.hid (show res = (r.toL hs).covers (bookFor ps (r.toL hs) now) by rw [HRES.out, hn]; rfl)
    rw [hn] at HN
    generalize (r.toL hs).covers (bookFor ps (r.toL hs) now) = cv at *
    generalize bookFor ps (r.toL hs) now = fs at *
    clear hn HRES hhw
    go_enter Tryd.func30, Tryd.ntmps30
    go_wp2_with fail
    rw [← hw1]
    clear hw1
    go_region_held3 (fun U => Fr noB w1 U ∧ U.cell? ⟨w.heap.size, 0, none⟩ = some (.int .i64 r.part) ∧ U.cell? ⟨w.heap.size, 1, none⟩ = some (.bool r.frm.secure) ∧ U.cell? ⟨w.heap.size, 2, none⟩ = some (.string r.frm.host) ∧ U.cell? ⟨w.heap.size, 3, none⟩ = some (.int .i64 r.frm.port) ∧ U.cell? ⟨w.heap.size, 4, none⟩ = some (.bool r.o.secure) ∧ U.cell? ⟨w.heap.size, 5, none⟩ = some (.string r.o.host) ∧ U.cell? ⟨w.heap.size, 6, none⟩ = some (.int .i64 r.o.port) ∧ U.cell? ⟨w.heap.size, 7, none⟩ = some (.string r.path) ∧ U.cell? ⟨w.heap.size, 8, none⟩ = some (.string r.query) ∧ U.cell? ⟨w.heap.size, 9, none⟩ = some (.string r.method) ∧ U.cell? ⟨w.heap.size, 10, none⟩ = some (.slice ah hs.length ch) ∧ U.cell? ⟨w.heap.size, 11, none⟩ = some (.bool r.wth) ∧ U.cell? ⟨w.heap.size, 12, none⟩ = some (.string r.body)) ((refine (fun hU => ⟨hU, HC.out _ hU⟩) ?_; repeat (first | exact Fr.refl _ _ | assumption | apply Fr.alloc | apply Fr.drew | refine Fr.trans ?_ (by assumption))))
      ((first
        | (go_at_call 31; refine (HN.out _ (by repeat (first | exact Fr.refl _ _ | assumption | apply Fr.drew | apply Fr.alloc | refine Fr.trans ?_ (by assumption)))).mono ?_; rintro e u1 ⟨rfl, hu1⟩)
        | (go_at_call 28; refine (HFO.out _ (by repeat (first | exact Fr.refl _ _ | assumption | apply Fr.drew | apply Fr.alloc | refine Fr.trans ?_ (by assumption)))).mono ?_; rintro e u2 ⟨fv, rfl, hfo2, hu2⟩)
        | (go_at_call 67; refine (HCV.out _ (by repeat (first | exact Fr.refl _ _ | assumption | apply Fr.drew | apply Fr.alloc | refine Fr.trans ?_ (by assumption))) _ (RowsAt.frNone hfo2.at (by repeat (first | exact Fr.refl _ _ | assumption | apply Fr.drew | apply Fr.alloc | refine Fr.trans ?_ (by assumption))))).mono ?_; rintro e u3 ⟨rfl, hu3⟩)))
    have HF2 := Lib.hid (show Fr noB w1 u3 from by repeat (first | exact Fr.refl _ _ | assumption | apply Fr.drew | apply Fr.alloc | refine Fr.trans ?_ (by assumption)))
    clear hu1 hu2 hu3
    go_wp2
    go_ret
    exact ⟨by rw [HR.out]; rfl, HF1.out.trans HF2.out⟩
end Go.Proofs.YtkoobhgedoanhaaDoor

namespace Go.Proofs.YtkoobhgedoanhaaDoor
open Go.RowKit

def bigPas (p : Pas) : Bool := decide ((400 : Int) < (p.method.size : Int) + (p.head.size : Int) + (p.path.size : Int) + (p.query.size : Int) + (p.o.host.size : Int) + (p.frm.host.size : Int))
def passesB (ps : List Pas) : Bool := decide (ps.length ≤ 60) && !(ps.any bigPas)
set_option maxHeartbeats 1000000 in
set_option maxRecDepth 100000 in
theorem passes1_any (p : Pas) (w : World) (hz : p.Sized) :
    Calls Tryd.prog 59 #[.agg p.cells.toArray] w fun e w' => e = .returned (.bool (bigPas p)) ∧ Fr noB w w' := by
  obtain ⟨z1, z2, z3, z4, z5, z6⟩ := hz
  have HR := Lib.hid (show bigPas p = decide ((400 : Int) < (p.method.size : Int) + (p.head.size : Int) + (p.path.size : Int) + (p.query.size : Int) + (p.o.host.size : Int) + (p.frm.host.size : Int)) from rfl)
  have hfa : Fr noB w (w.alloc (.cells p.cells.toArray 63)) := (Fr.refl noB w).alloc _
  have HF := Lib.hid hfa
  clear hfa
  unfold Pas.cells
  go_enter Tryd.func59, Tryd.ntmps59
  go_wp2
  go_ret
  exact ⟨by rw [HR.out]; rfl, HF.out⟩
set_option maxHeartbeats 1000000 in
theorem passes_any (v : Value) (ps : List Pas) (w : World) (hv : PasAt w v ps) (hl : ps.length ≤ 140737488355328) (hz : ∀ p ∈ ps, p.Sized) :
    Calls Tryd.prog 24 #[v] w fun e w' => e = .returned (.bool (passesB ps)) ∧ Fr noB w w' := by
  obtain ⟨av, cv, hform⟩ := RowsAt.form hv
  rw [List.length_map] at hform
  subst hform
  have hcf := Lib.hid (ContainsFunc_Pa _ #[] (fun x => bigPas (pasC x)) _ _ w Tryd.call59 (fun x hx u _ => by
    obtain ⟨p, hp, rfl⟩ := List.mem_map.1 hx
    exact passes1_any p u (hz p hp)) hv)
  rw [any_pasC] at hcf
  by_cases h60 : ps.length ≤ 60
  · have hb := Lib.hid (show passesB ps = !(ps.any bigPas) by unfold passesB; rw [decide_eq_true h60]; rfl)
    have i60 : (ps.length : Int) ≤ 60 := by omega
    have d60 : decide ((ps.length : Int) ≤ 60) = true := decide_eq_true i60
    go_enter Tryd.func24, Tryd.ntmps24
    go_wp2_with fail
    refine hcf.out.mono ?_
    rintro e u ⟨rfl, hf⟩
    go_wp2
    go_ret
    exact ⟨ret_bool hb.out.symm, hf⟩
  · have hb := Lib.hid (show passesB ps = false by unfold passesB; rw [decide_eq_false h60]; rfl)
    have i60 : ¬ (ps.length : Int) ≤ 60 := by omega
    have d60 : decide ((ps.length : Int) ≤ 60) = false := decide_eq_false i60
    go_enter Tryd.func24, Tryd.ntmps24
    go_wp2
    go_ret
    exact ⟨ret_bool hb.out.symm, Fr.refl _ _⟩
end Go.Proofs.YtkoobhgedoanhaaDoor

namespace Go.Proofs.YtkoobhgedoanhaaDoor
open Go.RowKit

/-- a.test, secure, 443 -/
def homeO : Ori := ⟨true, ⟨#[97, 46, 116, 101, 115, 116]⟩, 443⟩
set_option maxHeartbeats 1000000 in
theorem home_any (w : World) : Calls Tryd.prog 48 #[] w fun e w' => e = .returned (.agg homeO.cells.toArray) ∧ Fr noB w w' := by
  go_enter Tryd.func48, Tryd.ntmps48
  go_wp2
  refine bodyPost_ret (results_cell_row (by rfl) _ _ w.heap.size 24 #[.bool true, .string ⟨#[97, 46, 116, 101, 115, 116]⟩, .int .i64 443] (0, 0) _ rfl (new_block _ _) Tryd.underlying24 rfl (by kernel_rfl)) rfl ?_
  exact ⟨rfl, (Fr.refl _ _).alloc _⟩
end Go.Proofs.YtkoobhgedoanhaaDoor
