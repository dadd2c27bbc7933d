/- The package bank: Put. -/
import Derived.Test.YtkoobhgedoanhaaDoorBank5
import Derived.Deep.RegionHeld3
import Derived.Deep.AppendLies
namespace Go.Proofs.YtkoobhgedoanhaaDoor
open Go.RowKit

/-- a bank behind Put -/
def putL (gs : List (GrantOf Texts)) (g : GrantOf Texts) : List (GrantOf Texts) :=
  let l := gs.filter (fun x => !sameG g.o g.proxy g.a.realm x) ++ [g]
  l.drop (l.length - 8)
def PutPost (base : Nat) (w : World) (b : Nat) (gv wv : Value) (gs : List (GrantOf Texts)) (ws : List (WaitOf Texts)) (e : Ending) (w' : World) : Prop :=
  e = .returned (.tuple #[]) ∧ BankPost base w b gv wv gs ws w'
/-- behind the append and its store -/
theorem bank_grow {base : Nat} {w2 w3 w4 : World} {b : Nat} {gv wv : Value} {fs : List (GrantOf Texts)} {ws : List (WaitOf Texts)} {m : GrantOf Texts} {r3 : GrantOf Value} {rs : List (GrantOf Value)} {gg cap : Nat} (h2 : BankIs base w2 b gv wv fs ws)
    (ho : OwnRows base 34 16 w2 gv (rs.map GrantOf.cells)) (hb2 : Both (GrantOf.Reads (StrsIn base w2)) rs fs) (hf3 : Fr noB w2 w3) (hr3 : GrantOf.Reads (StrsIn base w3) r3 m) (hone3 : ∀ u ∈ r3.cells, u.oneCell' = true) (hf4 : Fr (own gv) w3 w4)
    (hown4 : w4.ownsRow base 34 16 (.slice (some ⟨gg, 0, none⟩) (fs.length + 1) cap) (fs.length + 1) ((rs.map GrantOf.cells).flatten ++ r3.cells)) (hat : gv.ownBlock = some gg ∨ w2.heap.size ≤ gg) :
    BankIs base (w4.setCell ⟨b, 0, none⟩ (.slice (some ⟨gg, 0, none⟩) (fs.length + 1) cap)) b (.slice (some ⟨gg, 0, none⟩) (fs.length + 1) cap) wv (fs ++ [m]) ws ∧
    Fr (bankF b gv wv) w2 (w4.setCell ⟨b, 0, none⟩ (.slice (some ⟨gg, 0, none⟩) (fs.length + 1) cap)) ∧ ∀ k, bankF b (.slice (some ⟨gg, 0, none⟩) (fs.length + 1) cap) wv k → bankF b gv wv k ∨ w2.heap.size ≤ k := by
  have hlow := h2.low
  have hrl := hb2.len
  have ho3 := ho.fr hf3 (fun _ _ h => h)
  have hoff3 : Off base w3 (own gv) := ho3.off (Nat.le_refl _) (by decide)
  have hb4 : Both (GrantOf.Reads (StrsIn base w4)) (rs ++ [r3]) (fs ++ [m]) :=
    (hb2.mono (fun _ _ h => h.mono (fun _ _ h => (h.frN hf3).fr hf4 hoff3))).app (.cons (hr3.mono (fun _ _ h => h.fr hf4 hoff3)) .nil)
  have hg4 : GrantsIn base w4 (.slice (some ⟨gg, 0, none⟩) (fs.length + 1) cap) (fs ++ [m]) := by
    refine ⟨rs ++ [r3], ⟨?_, ?_⟩, hb4⟩
    · intro x hx
      rw [List.map_append] at hx
      rcases List.mem_append.1 hx with hx | hx
      · exact ho.1 x hx
      · simp at hx; subst hx; exact ⟨rfl, hone3⟩
    · rw [List.map_append, List.flatten_append, List.length_append, List.length_map, hrl]
      simpa using hown4
  have h3 := h2.frN hf3
  have hbk := hf4.keep h3.blk h3.gb
  have hw4 : WaitsIn base w4 wv ws := h3.waits.fr hf4 hoff3 (fun k hk hg => h3.gw hg hk)
  have hF0 : Fr (bankF b gv wv) w2 w4 := Fr.step (hf3.mono (fun _ _ h => absurd h (fun h => h))) hf4 (fun _ _ hk => Or.inr (Or.inl hk))
  refine ⟨BankIs.setG hlow hbk hg4 hw4, hF0.setCell (p := ⟨b, 0, none⟩) (fun _ => Or.inl rfl) _, ?_⟩
  rintro k (hk | hk | hk)
  · exact Or.inl (Or.inl hk)
  · have e : gg = k := by simpa [own, Value.ownBlock] using hk
    subst e
    rcases hat with hat | hat
    · exact Or.inl (Or.inr (Or.inl hat))
    · exact Or.inr hat
  · exact Or.inl (Or.inr (Or.inr hk))
theorem drop_grants {base : Nat} {w5 w6 : World} {b gg cap n : Nat} {wv : Value} {ls : List (GrantOf Texts)} {ws : List (WaitOf Texts)} {rs : List (GrantOf Value)} (h5 : BankIs base w5 b (.slice (some ⟨gg, 0, none⟩) ls.length cap) wv ls ws)
    (hb : Both (GrantOf.Reads (StrsIn base w5)) rs ls) (ho6 : OwnRows base 34 16 w6 (.slice (some ⟨gg, 0, none⟩) (0 + (ls.length - n)) cap) ((rs.map GrantOf.cells).take 0 ++ (rs.map GrantOf.cells).drop n)) (hf6 : Fr (one gg) w5 w6) :
    BankIs base (w6.setCell ⟨b, 0, none⟩ (.slice (some ⟨gg, 0, none⟩) (0 + (ls.length - n)) cap)) b (.slice (some ⟨gg, 0, none⟩) (0 + (ls.length - n)) cap) wv (ls.drop n) ws ∧
    Fr (bankF b (.slice (some ⟨gg, 0, none⟩) ls.length cap) wv) w5 (w6.setCell ⟨b, 0, none⟩ (.slice (some ⟨gg, 0, none⟩) (0 + (ls.length - n)) cap)) ∧ w6.cell? ⟨b, 0, none⟩ = some (.slice (some ⟨gg, 0, none⟩) ls.length cap) ∧ w6.frozen? ⟨b, 0, none⟩ = false := by
  have hlow := h5.low
  have hone : ∀ k, one gg k → own (.slice (some ⟨gg, 0, none⟩) ls.length cap) k := fun k hk => by have e : k = gg := hk; rw [e]; rfl
  have hoff : Off base w5 (one gg) := fun k hk hl => h5.off k (Or.inr (Or.inl (hone k hk))) hl
  have hbk := hf6.keep h5.blk (fun h => h5.gb (hone _ h))
  have hw6 : WaitsIn base w6 wv ws := h5.waits.fr hf6 hoff (fun k hk hg => h5.gw (hone _ hg) hk)
  have hg6 : GrantsIn base w6 (.slice (some ⟨gg, 0, none⟩) (0 + (ls.length - n)) cap) (ls.drop n) := by
    refine ⟨rs.drop n, ?_, (hb.mono (fun _ _ h => h.mono (fun _ _ h => h.fr hf6 hoff))).drop n⟩
    rw [List.take_zero, List.nil_append] at ho6
    rw [List.map_drop]
    exact ho6
  have hF0 : Fr (bankF b (.slice (some ⟨gg, 0, none⟩) ls.length cap) wv) w5 w6 := hf6.mono (fun k _ hk => Or.inr (Or.inl (hone k hk)))
  exact ⟨BankIs.setG hlow hbk hg6 hw6, hF0.setCell (p := ⟨b, 0, none⟩) (fun _ => Or.inl rfl) _, by simp [World.cell?, hbk], by simp [World.frozen?, hbk]⟩
set_option maxHeartbeats 2000000 in
set_option maxRecDepth 100000 in
theorem Put_any (base : Nat) (w : World) (b : Nat) (gv wv : Value) (gs : List (GrantOf Texts)) (ws : List (WaitOf Texts)) (g : GrantOf Value) (m : GrantOf Texts) (h : BankIs base w b gv wv gs ws) (hg : g.Reads (StrsIn base w) m) (hgl : gs.length < 34359738368) :
    Calls Tryd.prog 47 #[.pointer (some ⟨b, 0, none⟩), .agg g.cells.toArray] w (PutPost base w b gv wv (putL gs m) ws) := by
  obtain ⟨x, hx⟩ : ∃ x, x = g.cells := ⟨_, rfl⟩
  have hxk : x.length = 16 := by rw [hx]; rfl
  have hlt := h.lt
  have hlow := h.low
  have hf0 : Fr noB w (w.alloc (.cells x.toArray 34)) := (Fr.refl noB w).alloc _
  have h1 := h.frN hf0
  have hg1 := hg.mono (fun _ _ h => h.frN hf0)
  have hbx : (w.alloc (.cells x.toArray 34)).heap[w.heap.size]? = some (.cells x.toArray 34 (0, 0)) := new_block _ _
  have hfld : ∀ i u, g.cells[i]? = some u → (w.alloc (.cells x.toArray 34)).cell? ⟨w.heap.size, i, none⟩ = some u := fun i u hu => by
    rw [← hx] at hu
    simp only [World.cell?, hbx]; simpa using hu
  have c0 := hfld 0 _ rfl
  have c1 := hfld 1 _ rfl
  have c2 := hfld 2 _ rfl
  have c3 := hfld 3 _ rfl
  have c7 := hfld 7 _ rfl
  have hdrop := Lib.hid (Drop_any base _ b gv wv gs ws g.o g.proxy g.a.realm h1)
  have HBX := Lib.hid hbx
  have HG := Lib.hid hg1
  have HX := Lib.hid hx
  rw [← hx]
  clear hg hg1 hbx hfld hx
  go_enter Tryd.func47, Tryd.ntmps47
  go_wp2_with fail
  clear c0 c1 c2 c3 c7
  have hwl : w.heap.size < (w.alloc (.cells x.toArray 34)).heap.size := by simp
  generalize w.alloc (.cells x.toArray 34) = W at *
  refine hdrop.out.mono ?_
  intro e w2 hpd
  obtain ⟨rfl, gv2, wv2, h2, hf2, hfo2⟩ := hpd
  have hoff := h1.off
  have hnx : ¬ bankF b gv wv w.heap.size := by
    rintro (e | hk | hk)
    · omega
    · obtain ⟨c, e⟩ := h.gkind hk; have := lt_of_some e; omega
    · obtain ⟨c, e⟩ := h.wkind hk; have := lt_of_some e; omega
  have hbx2 := Lib.hid (hf2.keep HBX.out hnx)
  have hg2 := Lib.hid (HG.out.mono (fun _ _ h => h.fr hf2 hoff))
  have hgl2 : (gs.filter (fun g_1 => !sameG g.o g.proxy g.a.realm g_1)).length ≤ gs.length := List.length_filter_le _ _
  obtain ⟨fs, hfs⟩ : ∃ fs, fs = gs.filter (fun g_1 => !sameG g.o g.proxy g.a.realm g_1) := ⟨_, rfl⟩
  rw [← hfs] at h2 hgl2 ⊢
  have HFS := Lib.hid hfs
  have hfr2 : Fr (bankF b gv wv) w w2 := Fr.step (hf0.mono (fun _ _ h => absurd h (fun h => h))) hf2 (fun _ _ h => h)
  clear hdrop hf0 hf2 hoff hfs h1 h HBX HG
  have hput := Lib.hid (show putL gs m = (fs ++ [m]).drop (fs.length + 1 - 8) by
    have hr := hg2.out
    unfold putL
    rw [← hr.1, ← hr.2.1, ← hr.2.2.2.2.1.2.1, ← HFS.out]
    simp)
  obtain ⟨av, cv, hav⟩ := h2.grants.form
  subst hav
  have d0 := h2.c0
  have e0 := h2.free 0
  obtain ⟨rs, ho, hb2⟩ := h2.grants
  have hown := ho.2
  have hxl : ∀ i u, g.cells[i]? = some u → w2.cell? ⟨w.heap.size, i, none⟩ = some u := fun i u hu => by
    have e := HX.out
    rw [← e] at hu
    simp only [World.cell?, hbx2.out]; simpa using hu
  have x0 := hxl 0 _ rfl
  have x1 := hxl 1 _ rfl
  have x2 := hxl 2 _ rfl
  have x3 := hxl 3 _ rfl
  have x4 := hxl 4 _ rfl
  have x5 := hxl 5 _ rfl
  have x6 := hxl 6 _ rfl
  have x7 := hxl 7 _ rfl
  have x8 := hxl 8 _ rfl
  have x9 := hxl 9 _ rfl
  have x10 := hxl 10 _ rfl
  have x11 := hxl 11 _ rfl
  have x12 := hxl 12 _ rfl
  have x13 := hxl 13 _ rfl
  have x14 := hxl 14 _ rfl
  have x15 := hxl 15 _ rfl
  have hnw : ¬ own (.slice av fs.length cv) w.heap.size := fun hk => by
    rcases hfo2 _ (Or.inr (Or.inl hk)) with h | h
    · exact hnx h
    · omega
  have hcall := Lib.hid (show ∀ U, Fr noB w2 U → Calls Tryd.prog 54 #[.agg #[.bool g.o.secure, .string g.o.host, .int .i64 g.o.port, .bool g.proxy, .string g.user, .string g.pass, .int .i64 g.a.scheme, .string g.a.realm, .string g.a.nonce, .string g.a.opaq, .bool g.a.sess, .string g.a.qop, .bool g.a.stale, g.a.dom, .int .i64 g.count, g.paths]] U (Copied base m U) from fun U hU => by
    exact copied_any base g m U (by have := h2.lt; have := hU.size; omega) (hg2.out.mono (fun _ _ h => h.frN hU)))
  obtain ⟨i0, hi0, hz0, hz1, hz2⟩ := info_parts info_grant
  have HO := Lib.hid ho
  have HB2 := Lib.hid hb2
  have hrl := hb2.len
  have hkl := Lib.hid (show (rs.map GrantOf.cells).length = fs.length by rw [List.length_map, hrl])
  have hw2b : base ≤ w2.heap.size := by have := h2.lt; omega
  have hnb : ¬ own (.slice av fs.length cv) b := h2.gb
  have hkeep := Lib.hid (show ∀ U, Fr (own (.slice av fs.length cv)) w2 U → U.cell? ⟨b, 0, none⟩ = some (.slice av fs.length cv) ∧ U.cell? ⟨w.heap.size, 0, none⟩ = some (.bool g.o.secure) ∧ U.cell? ⟨w.heap.size, 1, none⟩ = some (.string g.o.host) ∧ U.cell? ⟨w.heap.size, 2, none⟩ = some (.int .i64 g.o.port) ∧ U.cell? ⟨w.heap.size, 3, none⟩ = some (.bool g.proxy) ∧ U.cell? ⟨w.heap.size, 4, none⟩ = some (.string g.user) ∧ U.cell? ⟨w.heap.size, 5, none⟩ = some (.string g.pass) ∧ U.cell? ⟨w.heap.size, 6, none⟩ = some (.int .i64 g.a.scheme) ∧ U.cell? ⟨w.heap.size, 7, none⟩ = some (.string g.a.realm) ∧ U.cell? ⟨w.heap.size, 8, none⟩ = some (.string g.a.nonce) ∧ U.cell? ⟨w.heap.size, 9, none⟩ = some (.string g.a.opaq) ∧ U.cell? ⟨w.heap.size, 10, none⟩ = some (.bool g.a.sess) ∧ U.cell? ⟨w.heap.size, 11, none⟩ = some (.string g.a.qop) ∧ U.cell? ⟨w.heap.size, 12, none⟩ = some (.bool g.a.stale) ∧ U.cell? ⟨w.heap.size, 13, none⟩ = some (g.a.dom) ∧ U.cell? ⟨w.heap.size, 14, none⟩ = some (.int .i64 g.count) ∧ U.cell? ⟨w.heap.size, 15, none⟩ = some (g.paths) from fun U hU => by
    have hc : ∀ i u, g.cells[i]? = some u → U.cell? ⟨w.heap.size, i, none⟩ = some u := fun i u hu => (hU.cell (p := ⟨w.heap.size, i, none⟩) (lt_of_some hbx2.out) hnw).trans (hxl i u hu)
    exact ⟨(hU.cell (p := ⟨b, 0, none⟩) h2.lt hnb).trans d0, hc 0 _ rfl, hc 1 _ rfl, hc 2 _ rfl, hc 3 _ rfl, hc 4 _ rfl, hc 5 _ rfl, hc 6 _ rfl, hc 7 _ rfl, hc 8 _ rfl, hc 9 _ rfl, hc 10 _ rfl, hc 11 _ rfl, hc 12 _ rfl, hc 13 _ rfl, hc 14 _ rfl, hc 15 _ rfl⟩)
  clear ho hb2 hrl hown hxl
  go_wp2_with fail
  go_region_law (first
      | ((with_reducible refine step_at ⟨some 20, _, _, _, _, _⟩ ?_)
         refine step_call rfl 54 _ (by go_simp) (hcall.out _ (by repeat (first | exact Fr.refl _ _ | apply Fr.drew))) ?_
         intro e w3 hcop
         obtain ⟨r3, rfl, hr3, hone3, hf3⟩ := hcop
         refine ⟨_, rfl, ?_⟩
         have HF3 : Fr noB w2 w3 := Fr.trans (by repeat (first | exact Fr.refl _ _ | apply Fr.drew)) hf3
         have hk := hkeep.out w3 (HF3.mono (fun _ _ h => absurd h (fun h => h)))
         have k3 := hk.1
         have hbl : b < w3.heap.size := Nat.lt_of_lt_of_le h2.lt HF3.size
         obtain ⟨y, hy⟩ : ∃ y, y = r3.cells := ⟨_, rfl⟩
         have hyk : y.length = 16 := by rw [hy]; rfl
         have HY := Lib.hid hy
         rw [← hy] at hone3 ⊢
         have hfold := fold_zip y #[.bool false, .string ⟨#[]⟩, .int .i64 0, .bool false, .string ⟨#[]⟩, .string ⟨#[]⟩, .int .i64 0, .string ⟨#[]⟩, .string ⟨#[]⟩, .string ⟨#[]⟩, .bool false, .string ⟨#[]⟩, .bool false, .slice none 0 0, .int .i64 0, .slice none 0 0] (by rw [hyk]; rfl)
         have hown3 : w3.ownsRow base 34 16 (.slice av fs.length cv) fs.length (rs.map GrantOf.cells).flatten := by
           have h := (HO.out.fr HF3 (fun _ _ h => h)).2
           rw [hkl.out] at h
           exact h
         have hb3 : base ≤ w3.heap.size := by have := HF3.size; omega
         clear hy hf3)
      | ((with_reducible refine step_at ⟨some 22, _, _, _, _, _⟩ ?_)
         refine step_append_lies _ (by rfl) _ _ _ (by rfl) base 34 i0 _ 16 216 Tryd.underlying22 hi0 hz0 hz1 hz2 rfl (by omega) (.slice av fs.length cv) fs.length _ (by rfl) (by repeat (first | exact hown3 | apply World.ownsRow.alloc | apply World.ownsRow.drew)) ⟨w3.heap.size, 0, none⟩ 1 1 y (by rfl) (by rw [hyk]) (new_cells w3 y _) hone3 (by omega) (by unfold maxLen; omega) (by omega) (by simp; omega) (w3.heap.size + 1) (by simp) ?_
         intro gg cap w4 hown4 hgrow hat hlt4
         have HF3' : Fr (own (.slice av fs.length cv)) w2 w3 := HF3.mono (fun _ _ h => absurd h (fun h => h))
         have HF4 : Fr (own (.slice av fs.length cv)) w2 w4 := Fr.grown (by repeat (first | exact HF3' | apply Fr.drew | apply Fr.alloc)) hgrow (fun _ hk _ => hk)
         have HF34 : Fr (own (.slice av fs.length cv)) w3 w4 := Fr.grown (by repeat (first | exact Fr.refl _ _ | apply Fr.drew | apply Fr.alloc)) hgrow (fun _ hk _ => hk)
         have hk := hkeep.out w4 HF4
         have k4 := hk.1
         have e4 : w4.frozen? ⟨b, 0, none⟩ = false := (HF4.frozen (p := ⟨b, 0, none⟩) h2.lt hnb).trans e0))
  all_goals
    rw [HY.out] at hown4 hone3
    obtain ⟨h5, hF5, hfo5⟩ := bank_grow h2 HO.out HB2.out HF3 hr3 hone3 HF34 hown4 (hat.imp (fun h => h) (fun h => by have := HF3.size; omega))
    have d5 := h5.c0
    have e5 := h5.free 0
    clear hcall hkeep hown4 hgrow HF4 HF34 hown3 HF3' k4 e4 hk k3 x0 x1 x2 x3 x4 x5 x6 x7 x8 x9 x10 x11 x12 x13 x14 x15 d0 e0 hfold hr3 hone3
    generalize w4.setCell ⟨b, 0, none⟩ (.slice (some ⟨gg, 0, none⟩) (fs.length + 1) cap) = w5 at *
    have hl5 : (fs ++ [m]).length = fs.length + 1 := by simp
    have HL5 := Lib.hid hl5
    have hfr5 : Fr (bankF b gv wv) w w5 := hfr2.step hF5 (fun k hk hb => by
      rcases hfo2 k hb with h | h
      · exact h
      · omega)
    have hfo6 : ∀ k, bankF b (.slice (some ⟨gg, 0, none⟩) (fs.length + 1) cap) wv2 k → bankF b gv wv k ∨ w.heap.size ≤ k := fun k hk => by
      rcases hfo5 k hk with h | h
      · rcases hfo2 k h with h | h
        · exact Or.inl h
        · exact Or.inr (by omega)
      · exact Or.inr (by have := hfr2.size; omega)
    by_cases h8 : 8 ≤ fs.length
    · have h8' : (8 : Int) < (fs.length : Int) + 1 := by omega
      obtain ⟨n, hn⟩ : ∃ n : Nat, fs.length + 1 = n + 8 := ⟨fs.length + 1 - 8, by omega⟩
      rw [← hl5] at h5
      obtain ⟨rs5, ho5, hb5⟩ := h5.grants
      have hrl5 := Lib.hid (show (rs5.map GrantOf.cells).length = fs.length + 1 by rw [List.length_map, hb5.len, hl5])
      have hdel := Lib.hid (Delete_Gr base gg cap 0 n (rs5.map GrantOf.cells) w5 (by rw [hrl5.out, ← hl5]; exact ho5) (by omega) (by rw [hrl5.out]; omega))
      have hn' := Lib.hid hn
      rw [hrl5.out] at hdel
      clear hn hl5
      go_wp2_with fail
      rw [show ((fs.length : Int) + 1 - 8) = (n : Int) from by have := hn'.out; omega]
      refine hdel.out.mono ?_
      rintro e w6 ⟨rfl, ho6, hf6⟩
      obtain ⟨h7, hF7, d7, e7⟩ := drop_grants (n := n) h5 hb5 (by rw [HL5.out]; exact ho6) hf6
      rw [HL5.out, Nat.zero_add] at h7 hF7
      rw [HL5.out] at d7
      have H7 := Lib.hid h7
      have HF7 := Lib.hid hF7
      clear h7 hF7 hdel ho6 hb5 ho5
      go_wp2_with fail
      go_end0
      refine ⟨rfl, _, _, by rw [hput.out, show fs.length + 1 - 8 = n from by have := hn'.out; omega]; exact H7.out, hfr5.step HF7.out (fun k hk hb => by
        rcases hfo6 k hb with h | h
        · exact h
        · omega), fun k hk => hfo6 k ?_⟩
      rcases hk with h | h | h
      · exact Or.inl h
      · exact Or.inr (Or.inl h)
      · exact Or.inr (Or.inr h)
    · have h8' : ¬ (8 : Int) < (fs.length : Int) + 1 := by omega
      go_wp2_with fail
      go_end0
      exact ⟨rfl, _, _, by rw [hput.out, show fs.length + 1 - 8 = 0 from by omega, List.drop_zero]; exact h5, hfr5, hfo6⟩
end Go.Proofs.YtkoobhgedoanhaaDoor
