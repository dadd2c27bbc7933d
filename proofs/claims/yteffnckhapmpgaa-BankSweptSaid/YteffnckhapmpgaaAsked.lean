/- The package bank: Asked. -/
import Derived.Test.YteffnckhapmpgaaTake
import Derived.Deep.RegionHeld3
import Derived.Deep.AppendLies
namespace Go.Proofs.Yteffnckhapmpgaa
open Go.RowKit

/-- what is waited for behind Asked -/
def askL (ws : List (WaitOf Texts)) (m : WaitOf Texts) : List (WaitOf Texts) :=
  let l := (takeL m.o m.proxy ws).1 ++ [m]
  l.drop (l.length - 8)
theorem askL_len (ws : List (WaitOf Texts)) (m : WaitOf Texts) : (askL ws m).length ≤ 8 := by
  unfold askL
  simp only [List.length_drop]
  omega
def AskedPost (base : Nat) (w : World) (b : Nat) (gv wv : Value) (gs : List (GrantOf Texts)) (ws : List (WaitOf Texts)) (e : Ending) (w' : World) : Prop :=
  e = .returned (.tuple #[]) ∧ BankPost base w b gv wv gs ws w'
theorem bank_growW {base : Nat} {w3 w4 : World} {b : Nat} {gv wv : Value} {gs : List (GrantOf Texts)} {fs : List (WaitOf Texts)} {m : WaitOf Texts} {r3 : WaitOf Value} {rs : List (WaitOf Value)} {gg cap : Nat} (h3 : BankIs base w3 b gv wv gs fs)
    (ho : OwnRows base 66 13 w3 wv (rs.map WaitOf.cells)) (hb2 : Both (WaitOf.Reads (StrsIn base w3)) rs fs) (hr3 : WaitOf.Reads (StrsIn base w3) r3 m) (hone3 : ∀ u ∈ r3.cells, u.oneCell' = true) (hf4 : Fr (own wv) w3 w4)
    (hown4 : w4.ownsRow base 66 13 (.slice (some ⟨gg, 0, none⟩) (fs.length + 1) cap) (fs.length + 1) ((rs.map WaitOf.cells).flatten ++ r3.cells)) (hat : wv.ownBlock = some gg ∨ w3.heap.size ≤ gg) :
    BankIs base (w4.setCell ⟨b, 1, none⟩ (.slice (some ⟨gg, 0, none⟩) (fs.length + 1) cap)) b gv (.slice (some ⟨gg, 0, none⟩) (fs.length + 1) cap) gs (fs ++ [m]) ∧
    Fr (bankF b gv wv) w3 (w4.setCell ⟨b, 1, none⟩ (.slice (some ⟨gg, 0, none⟩) (fs.length + 1) cap)) ∧ ∀ k, bankF b gv (.slice (some ⟨gg, 0, none⟩) (fs.length + 1) cap) k → bankF b gv wv k ∨ w3.heap.size ≤ k := by
  have hlow := h3.low
  have hrl := hb2.len
  have hoff3 : Off base w3 (own wv) := ho.off (Nat.le_refl _) (by decide)
  have hb4 : Both (WaitOf.Reads (StrsIn base w4)) (rs ++ [r3]) (fs ++ [m]) :=
    (hb2.mono (fun _ _ h => h.mono (fun _ _ h => h.fr hf4 hoff3))).app (.cons (hr3.mono (fun _ _ h => h.fr hf4 hoff3)) .nil)
  have hg4 : WaitsIn base w4 (.slice (some ⟨gg, 0, none⟩) (fs.length + 1) cap) (fs ++ [m]) := by
    refine ⟨rs ++ [r3], ⟨?_, ?_⟩, hb4⟩
    · intro x hx
      rw [List.map_append] at hx
      rcases List.mem_append.1 hx with hx | hx
      · exact ho.1 x hx
      · simp at hx; subst hx; exact ⟨rfl, hone3⟩
    · rw [List.map_append, List.flatten_append, List.length_append, List.length_map, hrl]
      simpa using hown4
  have hbk := hf4.keep h3.blk h3.wb
  have hw4 : GrantsIn base w4 gv gs := h3.grants.fr hf4 hoff3 (fun k hk hg => h3.gw hk hg)
  have hF0 : Fr (bankF b gv wv) w3 w4 := hf4.mono (fun _ _ hk => Or.inr (Or.inr hk))
  refine ⟨BankIs.setW hlow hbk hw4 hg4, hF0.setCell (p := ⟨b, 1, none⟩) (fun _ => Or.inl rfl) _, ?_⟩
  rintro k (hk | hk | hk)
  · exact Or.inl (Or.inl hk)
  · exact Or.inl (Or.inr (Or.inl hk))
  · have e : gg = k := by simpa [own, Value.ownBlock] using hk
    subst e
    rcases hat with hat | hat
    · exact Or.inl (Or.inr (Or.inr hat))
    · exact Or.inr hat
theorem TakePost.ret {base : Nat} {w w' : World} {b : Nat} {gv wv : Value} {gs : List (GrantOf Texts)} {u : List (WaitOf Texts) × Option (WaitOf Texts)} {e : Ending} (h : TakePost base w b gv wv gs u e w') : ∃ v, e = .returned v := by
  obtain ⟨_, h⟩ := h
  split at h
  · exact ⟨_, h⟩
  · obtain ⟨r, h, _⟩ := h; exact ⟨_, h⟩
theorem wait_one {r : WaitOf Value} {a : Option Addr} {n c : Nat} (h1 : r.a.dom = .slice a n c) : ∀ u ∈ r.cells, u.oneCell' = true := by
  intro u hu
  simp only [WaitOf.cells, List.mem_cons, List.not_mem_nil, or_false] at hu
  rcases hu with rfl | rfl | rfl | rfl | rfl | rfl | rfl | rfl | rfl | rfl | rfl | rfl | rfl <;> first | rfl | (rw [h1]; rfl)

set_option maxHeartbeats 8000000 in
set_option maxRecDepth 100000 in
theorem Asked_any (base : Nat) (w : World) (b : Nat) (gv wv : Value) (gs : List (GrantOf Texts)) (ws : List (WaitOf Texts)) (g : WaitOf Value) (m : WaitOf Texts) (h : BankIs base w b gv wv gs ws) (hg : g.Reads (StrsIn base w) m) (hwl : ws.length < 17179869184) :
    Calls Try.prog 36 #[.pointer (some ⟨b, 0, none⟩), .agg g.cells.toArray] w (AskedPost base w b gv wv gs (askL ws m)) := by
  obtain ⟨x, hx⟩ : ∃ x, x = g.cells := ⟨_, rfl⟩
  have hxk : x.length = 13 := by rw [hx]; rfl
  have hlt := h.lt
  have hlow := h.low
  obtain ⟨ad, cd, hdv⟩ := hg.2.2.2.2.2.2.2.2.2.2.rd.form
  have hf0 : Fr noB w (w.alloc (.cells x.toArray 66)) := (Fr.refl noB w).alloc _
  have h1 := h.frN hf0
  have hg1 := hg.mono (fun _ _ h => h.frN hf0)
  have hbx : (w.alloc (.cells x.toArray 66)).heap[w.heap.size]? = some (.cells x.toArray 66 (0, 0)) := new_block _ _
  have hfld : ∀ i u, g.cells[i]? = some u → (w.alloc (.cells x.toArray 66)).cell? ⟨w.heap.size, i, none⟩ = some u := fun i u hu => by
    rw [← hx] at hu
    simp only [World.cell?, hbx]; simpa using hu
  have c0 := hfld 0 _ rfl
  have c1 := hfld 1 _ rfl
  have c2 := hfld 2 _ rfl
  have c3 := hfld 3 _ rfl
  have htake := Lib.hid (Take_any base _ b gv wv gs ws g.o g.proxy h1 (by omega))
  have HBX := Lib.hid hbx
  have HG := Lib.hid hg1
  have HX := Lib.hid hx
  have HDV := Lib.hid hdv
  rw [← hx]
  clear hg hg1 hbx hfld hx hdv
  go_enter Try.func36, Try.ntmps36
  go_wp2_with fail
  clear c0 c1 c2 c3
  have hwl1 : w.heap.size < (w.alloc (.cells x.toArray 66)).heap.size := by simp
  generalize w.alloc (.cells x.toArray 66) = W at *
  refine htake.out.mono ?_
  intro e w2 hpd
  obtain ⟨rv, rfl⟩ := hpd.ret
  obtain ⟨⟨gv2, wv2, h2, hf2, hfo2⟩, _⟩ := hpd
  have hoff := h1.off
  have hup : ∀ j, bankF b gv wv j → j < w.heap.size := fun j hj => by
    rcases hj with hj | hj | hj
    · omega
    · obtain ⟨cc, e⟩ := h.gkind hj; exact lt_of_some e
    · obtain ⟨cc, e⟩ := h.wkind hj; exact lt_of_some e
  have hnx : ¬ bankF b gv wv w.heap.size := fun hh => by have := hup _ hh; omega
  have hbx2 := Lib.hid (hf2.keep HBX.out hnx)
  have hg2 := HG.out.mono (fun _ _ h => h.fr hf2 hoff)
  have hll := takeL_len g.o g.proxy ws
  have hfr2 : Fr (bankF b gv wv) w w2 := Fr.step (hf0.mono (fun _ _ h => absurd h (fun h => h))) hf2 (fun _ _ h => h)
  have hfo2' : ∀ j, bankF b gv2 wv2 j → bankF b gv wv j ∨ w.heap.size < j := fun j hj => by
    rcases hfo2 j hj with h | h
    · exact Or.inl h
    · exact Or.inr (by omega)
  obtain ⟨fs, hfs⟩ : ∃ fs, fs = (takeL g.o g.proxy ws).1 := ⟨_, rfl⟩
  rw [← hfs] at h2 hll
  have hput := Lib.hid (show askL ws m = (fs ++ [m]).drop (fs.length + 1 - 8) by
    unfold askL
    rw [← hg2.1, ← hg2.2.1, ← hfs]
    simp)
  have hdom2 := hg2.2.2.2.2.2.2.2.2.2.2
  rw [HDV.out] at hdom2
  have c12 : w2.cell? ⟨w.heap.size, 12, none⟩ = some (.slice ad m.a.dom.length cd) := by
    have e := HX.out
    have hd := HDV.out
    have hu : x[12]? = some (.slice ad m.a.dom.length cd) := by rw [e, ← hd]; rfl
    simp only [World.cell?, hbx2.out]; simpa using hu
  have CL := Lib.hid (CloneS_any base _ _ _ hdom2)
  have HG2 := Lib.hid hg2
  have hw2l : w.heap.size < w2.heap.size := lt_of_some hbx2.out
  clear htake hf0 hf2 hoff hfs h1 hg2 hdom2 hfo2 HBX HG hwl1
  go_wp2_with fail
  refine CL.out.mono ?_
  rintro e w3 ⟨a3, c3, rfl, hs3, hf3⟩
  have hbx3 := hf3.keep hbx2.out (fun h => h)
  have hw3l : w.heap.size < w3.heap.size := lt_of_some hbx3
  have c12' : w3.cell? ⟨w.heap.size, 12, none⟩ = some (.slice ad m.a.dom.length cd) := by
    have e := HX.out
    have hd := HDV.out
    have hu : x[12]? = some (.slice ad m.a.dom.length cd) := by rw [e, ← hd]; rfl
    simp only [World.cell?, hbx3]; simpa using hu
  have f12 : w3.frozen? ⟨w.heap.size, 12, none⟩ = false := by simp [World.frozen?, hbx3]
  have hof : Off base w3 (one w.heap.size) := by
    rintro j rfl _
    exact ⟨by omega, fun c f e => by rw [hbx3] at e; cases e⟩
  have hfs : Fr (one w.heap.size) w3 (w3.setCell ⟨w.heap.size, 12, none⟩ (.slice a3 m.a.dom.length c3)) := (Fr.refl (one w.heap.size) w3).setCell (p := ⟨w.heap.size, 12, none⟩) (fun _ => rfl) _
  have hnx2 : ¬ bankF b gv2 wv2 w.heap.size := fun hh => by
    rcases hfo2' _ hh with h | h
    · exact hnx h
    · omega
  have h4 := (h2.frN hf3).fr hfs hof (fun hh => hnx2 (Or.inl (by have e : b = w.heap.size := hh; rw [e]))) (fun j hj hh => hnx2 (Or.inr (Or.inl (by have e : j = w.heap.size := hh; rw [← e]; exact hj)))) (fun j hj hh => hnx2 (Or.inr (Or.inr (by have e : j = w.heap.size := hh; rw [← e]; exact hj))))
  have hr4 : (g.withDom (.slice a3 m.a.dom.length c3)).Reads (StrsIn base (w3.setCell ⟨w.heap.size, 12, none⟩ (.slice a3 m.a.dom.length c3))) m := by
    have q := HG2.out
    exact ⟨q.1, q.2.1, q.2.2.1, q.2.2.2.1, q.2.2.2.2.1, q.2.2.2.2.2.1, q.2.2.2.2.2.2.1, q.2.2.2.2.2.2.2.1, q.2.2.2.2.2.2.2.2.1, q.2.2.2.2.2.2.2.2.2.1, hs3.fr hfs hof⟩
  have hone4 : ∀ u ∈ (g.withDom (.slice a3 m.a.dom.length c3)).cells, u.oneCell' = true := wait_one rfl
  have hb4 := setCell_heap hbx3 12 (.slice a3 m.a.dom.length c3)
  have hye : x.toArray.setIfInBounds 12 (.slice a3 m.a.dom.length c3) = (g.withDom (.slice a3 m.a.dom.length c3)).cells.toArray := by rw [HX.out]; rfl
  rw [hye] at hb4
  have hFV : Fr (bankF b gv wv) w (w3.setCell ⟨w.heap.size, 12, none⟩ (.slice a3 m.a.dom.length c3)) := (hfr2.trans (hf3.mono (fun _ _ h => absurd h (fun h => h)))).setCell (p := ⟨w.heap.size, 12, none⟩) (fun hl => absurd hl (by simp)) _
  have H4 := Lib.hid h4
  have HR4 := Lib.hid hr4
  have HONE4 := Lib.hid hone4
  have HB4 := Lib.hid hb4
  have hVl : w.heap.size < (w3.setCell ⟨w.heap.size, 12, none⟩ (.slice a3 m.a.dom.length c3)).heap.size := lt_of_some hb4
  clear hof hfs hye hb4 h4 hr4 hone4 h2 hs3 hf3 hbx3 CL HG2 hnx2 hfr2
  obtain ⟨av, cv, hav⟩ := H4.out.waits.form
  subst hav
  have d1 := H4.out.c1
  have e1 := H4.out.free 1
  have hxl : ∀ i u, (g.withDom (.slice a3 m.a.dom.length c3)).cells[i]? = some u → (w3.setCell ⟨w.heap.size, 12, none⟩ (.slice a3 m.a.dom.length c3)).cell? ⟨w.heap.size, i, none⟩ = some u := fun i u hu => by
    simp only [World.cell?, HB4.out]; simpa using hu
  have x0 := hxl 0 _ rfl
  have x1 := hxl 1 _ rfl
  have x2 := hxl 2 _ rfl
  have x3 := hxl 3 _ rfl
  have x4 := hxl 4 _ rfl
  have x5 := hxl 5 _ rfl
  have x6 := hxl 6 _ rfl
  have x7 := hxl 7 _ rfl
  have x8 := hxl 8 _ rfl
  have x9 := hxl 9 _ rfl
  have x10 := hxl 10 _ rfl
  have x11 := hxl 11 _ rfl
  have x12 := hxl 12 _ rfl
  obtain ⟨i0, hi0, hz0, hz1, hz2⟩ := info_parts info_wait
  obtain ⟨rs, ho, hb2⟩ := H4.out.waits
  have HO := Lib.hid ho
  have HB2 := Lib.hid hb2
  have hbV := H4.out.lt
  have hown : (w3.setCell ⟨w.heap.size, 12, none⟩ (.slice a3 m.a.dom.length c3)).ownsRow base 66 13 (.slice av fs.length cv) fs.length (rs.map WaitOf.cells).flatten := by
    have hh := ho.2
    rw [List.length_map, hb2.len] at hh
    exact hh
  have hnb : ¬ own (.slice av fs.length cv) b := H4.out.wb
  clear ho hb2 hxl
  go_wp2_with fail
  clear c12 c12' f12
  generalize w3.setCell ⟨w.heap.size, 12, none⟩ (.slice a3 m.a.dom.length c3) = V at *
  simp only [WaitOf.withDom] at x0 x1 x2 x3 x4 x5 x6 x7 x8 x9 x10 x11 x12
  go_region_law ((with_reducible refine step_at ⟨some 24, _, _, _, _, _⟩ ?_)
                 refine step_append_lies _ (by rfl) _ _ _ (by rfl) base 66 i0 _ 13 168 Try.underlying61 hi0 hz0 hz1 hz2 rfl (by omega) (.slice av fs.length cv) fs.length _ (by rfl) (by repeat (first | exact hown | apply World.ownsRow.alloc | apply World.ownsRow.drew)) ⟨V.heap.size, 0, none⟩ 1 1 (g.withDom (.slice a3 m.a.dom.length c3)).cells (by rfl) (by rfl) (new_cells V (g.withDom (.slice a3 m.a.dom.length c3)).cells _) HONE4.out (by omega) (by unfold maxLen; omega) (by omega) (by simp; omega) (V.heap.size + 1) (by simp) ?_
                 intro gg cap w5 hown6 hgrow hat hlt5
                 have HF45 : Fr (own (.slice av fs.length cv)) V w5 := Fr.grown (by repeat (first | exact Fr.refl _ _ | apply Fr.drew | apply Fr.alloc)) hgrow (fun _ hk _ => hk)
                 have k4 : w5.cell? ⟨b, 1, none⟩ = some (.slice av fs.length cv) := (HF45.cell (p := ⟨b, 1, none⟩) hbV hnb).trans d1
                 have e4 : w5.frozen? ⟨b, 1, none⟩ = false := (HF45.frozen (p := ⟨b, 1, none⟩) hbV hnb).trans e1)
  all_goals
    obtain ⟨h5, hF5, hfo5⟩ := bank_growW (m := m) H4.out HO.out HB2.out HR4.out HONE4.out HF45 hown6 (hat.imp (fun h => h) (fun h => by omega))
    have d5 := h5.c1
    have e5 := h5.free 1
    clear x0 x1 x2 x3 x4 x5 x6 x7 x8 x9 x10 x11 x12 d1 e1 k4 e4 hgrow hown6 hown HF45
    generalize w5.setCell ⟨b, 1, none⟩ (.slice (some ⟨gg, 0, none⟩) (fs.length + 1) cap) = w6 at *
    have hl5 : (fs ++ [m]).length = fs.length + 1 := by simp
    have HL5 := Lib.hid hl5
    have hfr5 : Fr (bankF b gv wv) w w6 := hFV.step hF5 (fun k hk hb => by
      rcases hfo2' k hb with h | h
      · exact h
      · omega)
    have hfo6 : ∀ k, bankF b gv2 (.slice (some ⟨gg, 0, none⟩) (fs.length + 1) cap) k → bankF b gv wv k ∨ w.heap.size ≤ k := fun k hk => by
      rcases hfo5 k hk with h | h
      · rcases hfo2' k h with h | h
        · exact Or.inl h
        · exact Or.inr (by omega)
      · exact Or.inr (by omega)
    by_cases h8 : 8 ≤ fs.length
    · have h8' : (8 : Int) < (fs.length : Int) + 1 := by omega
      obtain ⟨n, hn⟩ : ∃ n : Nat, fs.length + 1 = n + 8 := ⟨fs.length + 1 - 8, by omega⟩
      rw [← hl5] at h5
      obtain ⟨rs5, ho5, hb5⟩ := h5.waits
      have hrl5 := Lib.hid (show (rs5.map WaitOf.cells).length = fs.length + 1 by rw [List.length_map, hb5.len, hl5])
      have hdel := Lib.hid (Delete_Wa base gg cap 0 n (rs5.map WaitOf.cells) w6 (by rw [hrl5.out, ← hl5]; exact ho5) (by omega) (by rw [hrl5.out]; omega))
      have hn' := Lib.hid hn
      rw [hrl5.out] at hdel
      clear hn hl5
      go_wp2_with fail
      rw [show ((fs.length : Int) + 1 - 8) = (n : Int) from by have := hn'.out; omega]
      refine hdel.out.mono ?_
      rintro e w7 ⟨rfl, ho6, hf6⟩
      obtain ⟨h7, hF7, d7, e7⟩ := del_waits (i := 0) (n := n) h5 hb5 (by rw [HL5.out]; exact ho6) hf6
      rw [HL5.out, Nat.zero_add] at h7 hF7
      rw [HL5.out] at d7
      rw [List.take_zero, List.nil_append] at h7
      have H7 := Lib.hid h7
      have HF7 := Lib.hid hF7
      clear h7 hF7 hdel ho6 hb5 ho5
      go_wp2_with fail
      go_end0
      refine ⟨rfl, _, _, by rw [hput.out, show fs.length + 1 - 8 = n from by have := hn'.out; omega]; exact H7.out, hfr5.step HF7.out (fun k hk hb => by
        rcases hfo6 k hb with h | h
        · exact h
        · omega), fun k hk => hfo6 k ?_⟩
      rcases hk with h | h | h
      · exact Or.inl h
      · exact Or.inr (Or.inl h)
      · exact Or.inr (Or.inr h)
    · have h8' : ¬ (8 : Int) < (fs.length : Int) + 1 := by omega
      go_wp2_with fail
      go_end0
      exact ⟨rfl, _, _, by rw [hput.out, show fs.length + 1 - 8 = 0 from by omega, List.drop_zero]; exact h5, hfr5, hfo6⟩
end Go.Proofs.Yteffnckhapmpgaa
