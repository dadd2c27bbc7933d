/- held, filled, far of the laws on the bank; grants among the arguments. -/
import Derived.Test.YtkoobhgedoanhaaDoorBanked
import Derived.Test.YtkoobhgedoanhaaDoorReadsDet
import Derived.Test.YtkoobhgedoanhaaDoorIdxS
namespace Go.Proofs.YtkoobhgedoanhaaDoor
open Go.RowKit

/-- held's inner tests -/
def farPath (p : ByteArray) : Bool := decide (100 < p.size)
def longG (g : GrantOf Texts) : Bool := decide (6 < g.paths.length) || (decide (6 < g.a.dom.length) || (decide (200 < g.o.host.size + g.a.realm.size + g.a.nonce.size + g.user.size) || g.paths.any farPath))
def heldB (gs : List (GrantOf Texts)) : Bool := decide (gs.length ≤ 30) && !gs.any longG
set_option maxHeartbeats 1000000 in
theorem held11_any (s : ByteArray) (w : World) : Calls Tryd.prog 51 #[.string s] w fun e w' => e = .returned (.bool (farPath s)) ∧ w = w' := by
  by_cases h : 100 < s.size
  · have hb := Lib.hid (show farPath s = true by simp [farPath, h])
    have hd : (100 : Int) < (s.size : Int) := by omega
    go_enter Tryd.func51, Tryd.ntmps51
    go_wp2
    go_ret
    exact ⟨by rw [hb.out]; simp, rfl⟩
  · have hb := Lib.hid (show farPath s = false by simp [farPath, h])
    have hd : ¬ (100 : Int) < (s.size : Int) := by omega
    go_enter Tryd.func51, Tryd.ntmps51
    go_wp2
    go_ret
    exact ⟨by rw [hb.out]; simp, rfl⟩
set_option maxHeartbeats 2000000 in
set_option maxRecDepth 100000 in
theorem held1_any (r : GrantOf Value) (g : GrantOf Texts) (w : World) (hr : r.Reads (StrsArg w) g) (hs : g.Sized) :
    Calls Tryd.prog 49 #[.agg r.cells.toArray] w fun e w' => e = .returned (.bool (longG g)) ∧ Fr noB w w' := by
  obtain ⟨ho, hx, hu, hp, ⟨k1, k2, k3, k4, k5, k6, k7, hdom⟩, hc, hpaths⟩ := hr
  obtain ⟨s1, s2, s3, s4⟩ := hs
  obtain ⟨ad, cd, hdv⟩ := hdom.form
  obtain ⟨ap, cp, hpv⟩ := hpaths.form
  obtain ⟨x, hxe⟩ : ∃ x, x = r.cells := ⟨_, rfl⟩
  have hfa : Fr noB w (w.alloc (.cells x.toArray 34)) := (Fr.refl noB w).alloc _
  have hfld : ∀ i u, r.cells[i]? = some u → (w.alloc (.cells x.toArray 34)).cell? ⟨w.heap.size, i, none⟩ = some u := fun i u hu => by
    rw [← hxe] at hu
    simp only [World.cell?, new_block]; simpa using hu
  have c1 := hfld 1 _ rfl
  have c4 := hfld 4 _ rfl
  have c7 := hfld 7 _ rfl
  have c8 := hfld 8 _ rfl
  have c13 := hfld 13 _ rfl
  have c15 := hfld 15 _ rfl
  rw [ho] at c1
  rw [hu] at c4
  rw [k2] at c7
  rw [k3] at c8
  rw [hdv] at c13
  rw [hpv] at c15
  rw [hpv] at hpaths
  have hpa := hpaths.frNone hfa
  rw [← hxe]
  clear ho hx hu hp k1 k2 k3 k4 k5 k6 k7 hdom hc hpaths hdv hpv hxe hfld
  by_cases h1 : 6 < g.paths.length
  · have hb := Lib.hid (show longG g = true by simp [longG, h1])
    have hd : (6 : Int) < (g.paths.length : Int) := by omega
    go_enter Tryd.func49, Tryd.ntmps49
    go_wp2
    go_ret
    exact ⟨by rw [hb.out]; simp, hfa⟩
  · have hd : ¬ (6 : Int) < (g.paths.length : Int) := by omega
    by_cases h2 : 6 < g.a.dom.length
    · have hb := Lib.hid (show longG g = true by simp [longG, h2])
      have hd2 : (6 : Int) < (g.a.dom.length : Int) := by omega
      go_enter Tryd.func49, Tryd.ntmps49
      go_wp2
      go_ret
      exact ⟨by rw [hb.out]; simp, hfa⟩
    · have hd2 : ¬ (6 : Int) < (g.a.dom.length : Int) := by omega
      by_cases h3 : 200 < g.o.host.size + g.a.realm.size + g.a.nonce.size + g.user.size
      · have hb := Lib.hid (show longG g = true by simp [longG, h3])
        have hd3 : (200 : Int) < (g.o.host.size : Int) + (g.a.realm.size : Int) + (g.a.nonce.size : Int) + (g.user.size : Int) := by omega
        go_enter Tryd.func49, Tryd.ntmps49
        go_wp2
        go_ret
        exact ⟨by rw [hb.out]; simp, hfa⟩
      · have hb := Lib.hid (show longG g = g.paths.any farPath by simp [longG, h1, h2, h3])
        have hd3 : ¬ (200 : Int) < (g.o.host.size : Int) + (g.a.realm.size : Int) + (g.a.nonce.size : Int) + (g.user.size : Int) := by omega
        have hcf := Lib.hid (ContainsFuncS_any (fun _ => True) _ #[] farPath _ g.paths _ Tryd.call51 trivial (fun x _ u _ => (held11_any x u).mono fun e u' ⟨he, hu⟩ => ⟨he, hu ▸ Fr.refl _ _, trivial⟩) hpa (by unfold maxLen; omega))
        go_enter Tryd.func49, Tryd.ntmps49
        go_wp2_with fail
        refine hcf.out.mono ?_
        rintro e w1 ⟨rfl, hf1, _⟩
        go_wp2
        go_ret
        exact ⟨ret_bool hb.out.symm, hfa.trans hf1⟩
theorem held1_answers (w : World) (rs : List (GrantOf Value)) (gs : List (GrantOf Texts)) (h : Both (GrantOf.Reads (StrsArg w)) rs gs) (hs : ∀ g ∈ gs, g.Sized) :
    ∃ p : List Value → Bool, AnswersK noB w 49 #[] p (rs.map GrantOf.cells) ∧ (rs.map GrantOf.cells).any p = gs.any longG := by
  obtain ⟨p, hp⟩ := GrantOf.Reads.pull (R := StrsArg w) (fun _ _ _ h h' => StrsAt.det h h') longG
  refine ⟨p, fun x hx u hu => ?_, h.anyEq hp⟩
  obtain ⟨r, hr, rfl⟩ := List.mem_map.1 hx
  obtain ⟨g, hg, hrg⟩ := h.memL hr
  rw [hp r g hrg]
  have := held1_any r g u (hrg.mono (fun _ _ h => StrsAt.frNone h hu)) (hs g hg)
  simpa using this
set_option maxHeartbeats 1000000 in
theorem held_any (v : Value) (gs : List (GrantOf Texts)) (w : World) (h : GrantsArg w v gs) :
    Calls Tryd.prog 9 #[v] w fun e w' => e = .returned (.bool (heldB gs)) ∧ Fr noB w w' := by
  obtain ⟨rs, hrows, hb, hs⟩ := h
  have hl := hb.len
  obtain ⟨av, cv, hform⟩ := hrows.form
  rw [List.length_map, hl] at hform
  subst hform
  by_cases h30 : gs.length ≤ 30
  · obtain ⟨p, hp, hany⟩ := held1_answers w rs gs hb hs
    have hr := Lib.hid (show heldB gs = !gs.any longG by simp [heldB, h30])
    have hd : (gs.length : Int) ≤ 30 := by omega
    have hcf := Lib.hid (ContainsFunc_Gr _ #[] p _ _ w Tryd.call49 hp hrows)
    rw [hany] at hcf
    clear hp hany hb hs hrows hl
    go_enter Tryd.func9, Tryd.ntmps9
    go_wp2_with fail
    refine hcf.out.mono ?_
    rintro e w1 ⟨rfl, hf1⟩
    go_wp2
    go_ret
    exact ⟨ret_bool hr.out.symm, hf1⟩
  · have hr := Lib.hid (show heldB gs = false by simp [heldB, h30])
    have hd : ¬ (gs.length : Int) ≤ 30 := by omega
    clear hb hs hrows hl
    go_enter Tryd.func9, Tryd.ntmps9
    go_wp2
    go_ret
    exact ⟨ret_bool hr.out.symm, Fr.refl _ _⟩
theorem heldB_few {gs : List (GrantOf Texts)} (h : heldB gs = true) : gs.length ≤ 30 ∧ ∀ g ∈ gs, g.paths.length ≤ 6 ∧ g.a.dom.length ≤ 6 := by
  simp only [heldB, Bool.and_eq_true, decide_eq_true_eq, Bool.not_eq_true', List.any_eq_false] at h
  refine ⟨h.1, fun g hg => ?_⟩
  have := h.2 g hg
  simp only [longG, Bool.or_eq_true, decide_eq_true_eq, not_or] at this
  omega
theorem GrantOf.Reads.in {base : Nat} {w w' : World} {r : GrantOf Value} {g : GrantOf Texts} (h : r.Reads (StrsArg w) g) (hf : Fr noB w w') (hb : w.heap.size ≤ base) (hl : g.paths.length ≤ 6 ∧ g.a.dom.length ≤ 6) : r.Reads (StrsIn base w') g := by
  obtain ⟨e1, e2, e3, e4, ⟨d1, d2, d3, d4, d5, d6, d7, d8⟩, e6, e7⟩ := h
  exact ⟨e1, e2, e3, e4, ⟨d1, d2, d3, d4, d5, d6, d7, d8.in hf hb (by omega)⟩, e6, e7.in hf hb (by omega)⟩

/-- the bank of grants put one after another -/
def filledL (gs : List (GrantOf Texts)) : List (GrantOf Texts) := gs.foldl putL []
theorem filledL_snoc (gs : List (GrantOf Texts)) (g : GrantOf Texts) : filledL (gs ++ [g]) = putL (filledL gs) g := by simp [filledL]
theorem filledL_len (gs : List (GrantOf Texts)) : (filledL gs).length ≤ 8 := by
  rcases List.eq_nil_or_concat gs with rfl | ⟨l, g, rfl⟩
  · simp [filledL]
  · rw [List.concat_eq_append, filledL_snoc]; exact putL_len _ _
def FilledPost (w : World) (gs : List (GrantOf Texts)) (e : Ending) (w' : World) : Prop :=
  ∃ b gv wv, e = .returned (.pointer (some ⟨b, 0, none⟩)) ∧ BankIs w.heap.size w' b gv wv (filledL gs) [] ∧ Fr noB w w'
def FilRel (w : World) (b : Nat) (gs : List (GrantOf Texts)) (i : Value) (wr : World) : Prop :=
  ∃ (k : Nat) (gv wv : Value), k ≤ gs.length ∧ i = .int .i64 k ∧ BankIs w.heap.size wr b gv wv (filledL (gs.take k)) [] ∧ Fr noB w wr
set_option maxHeartbeats 2000000 in
set_option maxRecDepth 100000 in
theorem filled_any (v : Value) (gs : List (GrantOf Texts)) (w : World) (h : GrantsArg w v gs) (hh : heldB gs = true) :
    Calls Tryd.prog 12 #[v] w (FilledPost w gs) := by
  obtain ⟨rs, hrows, hb, hs⟩ := h
  have hl := hb.len
  obtain ⟨hl30, hfew⟩ := heldB_few hh
  obtain ⟨av, cv, hform⟩ := hrows.form
  rw [List.length_map, hl] at hform
  subst hform
  have h0 := BankIs.new w
  have hf0 : Fr noB w (w.alloc (.cells #[.slice none 0 0, .slice none 0 0] 88)) := (Fr.refl noB w).alloc _
  go_enter Tryd.func12, Tryd.ntmps12
  go_wp2
  generalize w.alloc (.cells #[.slice none 0 0, .slice none 0 0] 88) = W at *
  go_loopw [4] (FilRel w w.heap.size gs) (fun i _ => gs.length - (intOf i).toNat)
  case atStart => exact ⟨0, _, _, Nat.zero_le _, rfl, h0, hf0⟩
  case round =>
    obtain ⟨k, gv, wv, hk, rfl, hB, hfr⟩ := hrel
    by_cases hks : k < gs.length
    · obtain ⟨r, hri⟩ : ∃ r, rs[k]? = some r := ⟨_, List.getElem?_eq_getElem (by omega)⟩
      obtain ⟨g, hg, hr⟩ := hb.get hri
      have hrw := hrows.fr hfr (fun _ _ h => h)
      have hmem := List.mem_of_getElem? hg
      have hmemr := List.mem_of_getElem? hri
      obtain ⟨_, hone⟩ := hrw.1 _ (List.mem_map.2 ⟨r, hmemr, rfl⟩)
      rcases hrw.2 with ⟨_, _, e1, e2, _⟩ | ⟨bk, o, c, e1, q1, q2, q3, q4⟩
      · simp at e2; rw [e2] at hl; simp at hl; omega
      · rw [List.length_map, hl] at e1
        cases e1
        have hcell := q4 k r.cells (by rw [List.getElem?_map, hri]; rfl)
        have hsn := Lib.hid (show filledL (gs.take (k + 1)) = putL (filledL (gs.take k)) g by rw [take_snocG hg, filledL_snoc])
        have hlen := filledL_len (gs.take k)
        unfold maxLen at q2
        rw [List.length_map, hl] at q1
        obtain ⟨x, hx⟩ : ∃ x, x = r.cells := ⟨_, rfl⟩
        have hxk : x.length = 16 := by rw [hx]; rfl
        have hxi : (Tryd.prog.info? 34).map (·.size) = some x.length := by rw [hxk]; kernel_rfl
        have hput := Put_any w.heap.size wr w.heap.size gv wv _ [] r g hB (hr.in hfr (Nat.le_refl _) (hfew g (List.mem_of_getElem? hg))) (by omega)
        rw [← hx] at hcell hput
        have HPUT := Lib.hid hput
        clear hx hput hone hmemr hrw q4 hri hg hr
        go_wp2_with (first | ((with_reducible refine wpList_at ⟨some 17, _, _, _, _, _⟩ ?_); refine wpList_load_mid rfl 34 (.tmp 16) rfl bk (o + k * 16) rfl x _ hcell Tryd.underlying34 rfl hxi ?_) | fail)
        refine HPUT.out.mono ?_
        intro e w2 hp
        obtain ⟨rfl, hp⟩ := hp
        have hF2 := hp.frame hB hfr (Nat.le_refl _)
        obtain ⟨gv2, wv2, hB2, _, _⟩ := hp
        go_wp2
        go_roundw
        case rel => exact ⟨k + 1, gv2, wv2, by omega, by go_num, by rw [hsn.out]; exact hB2, hF2⟩
        case measure => simp [intOf]; omega
    · have hs := Lib.hid (show filledL (gs.take k) = filledL gs by rw [List.take_of_length_le (by omega)])
      go_wp2
      go_ret
      rw [hs.out] at hB
      exact ⟨_, gv, wv, rfl, hB, hfr⟩
end Go.Proofs.YtkoobhgedoanhaaDoor
