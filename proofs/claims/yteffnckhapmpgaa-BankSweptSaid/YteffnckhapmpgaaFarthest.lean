/- The law BankFarthest. -/
import Derived.Test.YteffnckhapmpgaaOpenG
import Derived.Test.YteffnckhapmpgaaFar
namespace Go.Proofs.Yteffnckhapmpgaa
open Go.RowKit

theorem GrantsArg.frN {w w' : World} {v : Value} {gs : List (GrantOf Texts)} (h : GrantsArg w v gs) (hf : Fr noB w w') : GrantsArg w' v gs := by
  obtain ⟨rs, h1, h2, h3⟩ := h
  exact ⟨rs, h1.frNone hf, h2.mono (fun _ _ h => h.mono (fun _ _ h => h.frNone hf)), h3⟩
theorem snocInd {α : Type} {p : List α → Prop} (h0 : p []) (h1 : ∀ l x, p l → p (l ++ [x])) (l : List α) : p l := by
  rw [← List.reverse_reverse l]
  induction l.reverse with
  | nil => exact h0
  | cons a m ih => rw [List.reverse_cons]; exact h1 _ _ ih
/-- find's fold: nothing, or the greatest -/
theorem findL_best {α : Type} (f : α → Int) (l : List α) : (findL f l 0 (-1, -1) = (-1, -1) ∧ ∀ x ∈ l, f x < 0) ∨ ∃ (k : Nat) (x : α), l[k]? = some x ∧ findL f l 0 (-1, -1) = (f x, (k : Int)) ∧ 0 ≤ f x ∧ ∀ y ∈ l, f y ≤ f x := by
  induction l using snocInd with
  | h0 => exact Or.inl ⟨rfl, by simp⟩
  | h1 l x ih =>
    rw [findL_snoc, Nat.zero_add]
    rcases ih with ⟨e, h⟩ | ⟨k, z, hz, e, h0, h⟩
    · rw [e]
      by_cases hx : 0 ≤ f x
      · rw [if_pos ⟨hx, by show (-1 : Int) ≤ f x; omega⟩]
        refine Or.inr ⟨l.length, x, by simp, rfl, hx, fun y hy => ?_⟩
        rcases List.mem_append.1 hy with hy | hy
        · have := h y hy; omega
        · simp at hy; subst hy; omega
      · rw [if_neg (fun h => hx h.1)]
        refine Or.inl ⟨rfl, fun y hy => ?_⟩
        rcases List.mem_append.1 hy with hy | hy
        · exact h y hy
        · simp at hy; subst hy; omega
    · rw [e]
      have hk := (List.getElem?_eq_some_iff.1 hz).1
      by_cases hx : 0 ≤ f x ∧ f z ≤ f x
      · rw [if_pos hx]
        refine Or.inr ⟨l.length, x, by simp, rfl, hx.1, fun y hy => ?_⟩
        rcases List.mem_append.1 hy with hy | hy
        · have := h y hy; omega
        · simp at hy; subst hy; omega
      · rw [if_neg hx]
        refine Or.inr ⟨k, z, by rw [List.getElem?_append_left hk]; exact hz, rfl, h0, fun y hy => ?_⟩
        rcases List.mem_append.1 hy with hy | hy
        · exact h y hy
        · simp at hy; subst hy; omega
theorem findG_some {gs : List (GrantOf Texts)} {o : Ori} {proxy : Bool} {path : ByteArray} {g : GrantOf Texts} (h : findG gs o proxy path = some g) : 0 ≤ reachG o proxy path g ∧ ∀ y ∈ gs, reachG o proxy path y ≤ reachG o proxy path g := by
  unfold findG findI at h
  rcases findL_best (reachG o proxy path) gs with ⟨e, _⟩ | ⟨k, x, hx, e, h0, hm⟩
  · rw [e, if_neg (by decide)] at h; cases h
  · rw [e, if_pos (by show (0 : Int) ≤ k; omega)] at h
    have : gs[(k : Int).toNat]? = some g := h
    rw [Int.toNat_natCast, hx] at this
    cases this
    exact ⟨h0, hm⟩
theorem findG_none {gs : List (GrantOf Texts)} {o : Ori} {proxy : Bool} {path : ByteArray} (h : findG gs o proxy path = none) : ∀ y ∈ gs, reachG o proxy path y < 0 := by
  unfold findG findI at h
  rcases findL_best (reachG o proxy path) gs with ⟨_, h'⟩ | ⟨k, x, hx, e, h0, hm⟩
  · exact h'
  · rw [e, if_pos (by show (0 : Int) ≤ k; omega)] at h
    have : gs[(k : Int).toNat]? = none := h
    rw [Int.toNat_natCast, hx] at this
    cases this
/-- the grant of no fields -/
def noGrant (D : Type) (d : D) : GrantOf D := ⟨⟨false, ⟨#[]⟩, 0⟩, false, ⟨#[]⟩, ⟨#[]⟩, ⟨0, ⟨#[]⟩, ⟨#[]⟩, ⟨#[]⟩, false, ⟨#[]⟩, false, d⟩, 0, d⟩
theorem noGrant_cells : (noGrant Value (.slice none 0 0)).cells.toArray = zGrant := rfl
/-- what Find returns, as one record -/
theorem FindPost.one {base : Nat} {w w' : World} {gs : List (GrantOf Texts)} {o : Ori} {proxy : Bool} {path : ByteArray} {e : Ending} (h : FindPost base w (findG gs o proxy path) e w') :
    ∃ (R : GrantOf Value) (ps : Texts) (ok : Bool), e = .returned (.tuple #[.agg R.cells.toArray, .bool ok]) ∧ Fr noB w w' ∧ StrsAt w' R.paths ps ∧ (∀ u ∈ R.cells, u.oneCell' = true) ∧
      (ok = true → 0 ≤ reachI R.o R.proxy ps o proxy path) ∧ ∀ x ∈ gs, reachG o proxy path x ≤ reachI R.o R.proxy ps o proxy path := by
  unfold FindPost at h
  obtain ⟨hf, h⟩ := h
  cases hg : findG gs o proxy path with
  | none =>
    rw [hg] at h
    refine ⟨noGrant Value (.slice none 0 0), [], false, h, hf, StrsAt.nil _, fun u hu => ?_, (fun h => by cases h), fun x hx => ?_⟩
    · exact (Array.all_eq_true_iff_forall_mem.1 zGrant_one) u (by rw [← noGrant_cells]; simpa using hu)
    · have h1 := findG_none hg x hx
      have h2 : reachI (noGrant Value (.slice none 0 0)).o (noGrant Value (.slice none 0 0)).proxy [] o proxy path = -1 := by unfold reachI farTo; simp
      rw [h2]; omega
  | some g =>
    rw [hg] at h
    obtain ⟨r, he, hr, hone⟩ := h
    obtain ⟨h1, h2⟩ := findG_some hg
    have e : reachI r.o r.proxy g.paths o proxy path = reachG o proxy path g := by unfold reachG; rw [hr.1, hr.2.1]
    exact ⟨r, g.paths, true, he, hf, hr.2.2.2.2.2.2.rd, hone, fun _ => by rw [e]; exact h1, fun x hx => by rw [e]; exact h2 x hx⟩

def FstRel (w : World) (n : Nat) (i : Value) (wr : World) : Prop := ∃ k : Nat, k ≤ n ∧ i = .int .i64 k ∧ Fr noB w wr
set_option maxHeartbeats 4000000 in
set_option maxRecDepth 100000 in
theorem BankFarthest_walk (v0 : Value) (gs : List (GrantOf Texts)) (o : Ori) (proxy : Bool) (path : ByteArray) (z3 : path.size ≤ 140737488351232) (w : World) (st0 : GrantsFit w v0 gs) (_ : OriFit o) :
    Calls Try.prog 5 #[v0, .agg o.cells.toArray, .bool proxy, .string path] w fun e w' => e = .returned (.bool true) ∧ Below w.heap.size w w' := by
  have hOC : Ori.cells o = [.bool o.secure, .string o.host, .int .i64 o.port] := rfl
  have HOC := Lib.hid hOC
  rw [hOC]
  clear hOC
  have hf0 : Fr noB w (w.alloc (.cells #[.bool o.secure, .string o.host, .int .i64 o.port] 38)) := (Fr.refl noB w).alloc _
  have hO0 : (w.alloc (.cells #[.bool o.secure, .string o.host, .int .i64 o.port] 38)).heap[w.heap.size]? = some (.cells #[.bool o.secure, .string o.host, .int .i64 o.port] 38 (0, 0)) := new_block w _
  have hg0 := st0.1.frN hf0
  go_enter Try.func5, Try.ntmps5
  go_wp2_with fail
  generalize w.alloc (.cells #[.bool o.secure, .string o.host, .int .i64 o.port] 38) = W at *
  refine (banked_any W).mono ?_
  rintro e u1 ⟨rfl, hf1⟩
  have hg1 := hg0.frN hf1
  have hF1 := hf0.trans hf1
  have hO1 := hf1.keep hO0 (fun h => h)
  have HELD := Lib.hid (held_any v0 gs u1 hg1)
  clear hg0 hf1 hO0 hf0 st0
  go_wp2_with fail
  refine HELD.out.mono ?_
  rintro e u2 ⟨rfl, hf2⟩
  clear HELD
  have hg2 := hg1.frN hf2
  have hF2 := hF1.trans hf2
  have hO2 := hf2.keep hO1 (fun h => h)
  clear hg1 hO1 hf2 hF1
  cases hh : heldB gs
  · go_wp2
    go_ret
    exact ⟨rfl, hF2.none_below⟩
  · by_cases hpl : 100 < path.size
    · have hpd : (100 : Int) < (path.size : Int) := by omega
      go_wp2
      go_ret
      exact ⟨rfl, hF2.none_below⟩
    · have hpd : ¬ (100 : Int) < (path.size : Int) := by omega
      have FILL := Lib.hid (filled_any v0 gs u2 hg2 hh)
      have HF2 := Lib.hid hF2
      have HO2 := Lib.hid hO2
      clear hg2 hF2 hO2 hh
      go_wp2_with fail
      refine FILL.out.mono ?_
      intro e u3 hp
      obtain ⟨b, gv, wv, rfl, hB, hf3⟩ := hp
      have HF3 := Lib.hid (HF2.out.trans hf3)
      have HO3 := Lib.hid (hf3.keep HO2.out (fun h => h))
      have hlen := filledL_len gs
      generalize filledL gs = fs at *
      have HB := Lib.hid hB
      have FIND := Lib.hid (Find_any u2.heap.size u3 b gv wv fs [] o proxy path hB)
      rw [HOC.out] at FIND
      clear FILL HF2 HO2 hf3 hB
      go_wp2_with (first | ((with_reducible refine wpList_at ⟨some 29, _, _, _, _, _⟩ ?_); go_must (refine wpList_load_row rfl 38 (.tmp 5) rfl w.heap.size rfl _ _ (0, 0) _ HO3.out Try.underlying38 rfl (by kernel_rfl) ?_)) | fail)
      refine FIND.out.mono ?_
      intro e u4 hp
      obtain ⟨R, ps, ok, rfl, hf4, hps, hone, hok, hmax⟩ := hp.one
      obtain ⟨x, hx⟩ : ∃ x, x = R.cells := ⟨_, rfl⟩
      have hxk : x.length = 16 := by rw [hx]; rfl
      have hst := fun W => run_storeCells_new (P := Try.prog) W 48 zGrant x (by rw [hxk]; rfl) (by rw [hx]; exact hone)
      have hfa : Fr noB u4 (u4.alloc (.cells x.toArray 48)) := (Fr.refl noB u4).alloc _
      have HF4 := Lib.hid ((HF3.out.trans hf4).trans hfa)
      have HO4 := Lib.hid ((hf4.trans hfa).keep HO3.out (fun h => h))
      have HB4 := Lib.hid (HB.out.frN (hf4.trans hfa))
      have FAR := Lib.hid (far_any R o proxy path ps _ (hps.frNone hfa))
      rw [HOC.out, ← hx] at FAR
      rw [← hx]
      have hxi : (Try.prog.info? 48).map (·.size) = some x.toArray.size := by rw [List.size_toArray, hxk]; kernel_rfl
      have HXI := Lib.hid hxi
      have hmax' := Lib.hid hmax
      have hok' := Lib.hid hok
      clear FIND HF3 HO3 hf4 hps hone hx hxi hmax hok hfa HB hp
      go_wp2_with (first | ((with_reducible refine wpList_at ⟨some 35, _, _, _, _, _⟩ ?_); go_must (refine wpList_load_row rfl 48 (.tmp 10) rfl u4.heap.size rfl _ x.toArray (0, 0) _ (new_block u4 _) Try.underlying48 rfl HXI.out ?_)) | ((with_reducible refine wpList_at ⟨some 36, _, _, _, _, _⟩ ?_); go_must (refine wpList_load_row rfl 38 (.tmp 5) rfl w.heap.size rfl _ _ (0, 0) _ HO4.out Try.underlying38 rfl (by kernel_rfl) ?_)) | fail)
      clear hst
      generalize u4.alloc (.cells x.toArray 48) = W4 at *
      refine FAR.out.mono ?_
      rintro e u5 ⟨rfl, hf5⟩
      have HF5 := Lib.hid (HF4.out.trans hf5)
      have HO5 := Lib.hid (hf5.keep HO4.out (fun h => h))
      have HB5 := Lib.hid (HB4.out.frN hf5)
      have GR := Lib.hid (Grants_any u2.heap.size u5 b gv wv fs [] HB5.out (by omega))
      clear HF4 HO4 HB4 FAR hf5
      generalize reachI R.o R.proxy ps o proxy path = n at *
      have hnb : ok = true → ¬ n < 0 := fun h => by have := hok'.out h; omega
      cases ok
      case' true => have hnn := hnb rfl
      all_goals (
        go_wp2_with fail
        refine GR.out.mono ?_
        intro e u6 hp
        obtain ⟨v, rfl, ⟨hgi, _⟩, hf6⟩ := hp
        obtain ⟨av, cv, hv⟩ := hgi.form
        subst hv
        have HF6 := Lib.hid (HF5.out.trans hf6)
        have HO6 := Lib.hid (hf6.keep HO5.out (fun h => h))
        have HGI := Lib.hid hgi
        clear GR HB5 HO5 HF5 hf6 hgi hnb
        go_wp2
        go_loopw [48] (FstRel u6 fs.length) (fun i _ => fs.length - (intOf i).toNat)
        case atStart => exact ⟨0, Nat.zero_le _, rfl, Fr.refl _ _⟩
        case round =>
          obtain ⟨k, hk, rfl, hfr⟩ := hrel
          by_cases hks : k < fs.length
          · obtain ⟨bk, c, hfm, hml, r, hone, hr, hcell⟩ := (HGI.out.fr hfr (Off.none _ _) (fun _ _ h => h)).at hks
            cases hfm
            unfold maxLen at hml
            obtain ⟨y, hy⟩ : ∃ y, y = r.cells := ⟨_, rfl⟩
            have hyk : y.length = 16 := by rw [hy]; rfl
            have hst := fun W => run_storeCells_new (P := Try.prog) W 48 zGrant y (by rw [hyk]; rfl) (by rw [hy]; exact hone)
            rw [← hy] at hcell
            have hyi : (Try.prog.info? 48).map (·.size) = some y.toArray.size := by rw [List.size_toArray, hyk]; kernel_rfl
            have HYI := Lib.hid hyi
            have hfa : Fr noB wr (wr.alloc (.cells y.toArray 48)) := (Fr.refl noB wr).alloc _
            have HFA := Lib.hid (hfr.trans hfa)
            have HO7 := Lib.hid ((hfr.trans hfa).keep HO6.out (fun h => h))
            have FAR := Lib.hid (far_any r o proxy path _ _ (hr.2.2.2.2.2.2.rd.frNone hfa))
            have hle : reachI r.o r.proxy fs[k].paths o proxy path ≤ n := by
              have := hmax'.out fs[k] (List.getElem_mem hks)
              unfold reachG at this
              rw [hr.1, hr.2.1]; exact this
            rw [HOC.out, ← hy] at FAR
            clear hy hyi hr hone hfa
            generalize reachI r.o r.proxy fs[k].paths o proxy path = m at *
            have hgt : ¬ n < m := by omega
            go_wp2_with (first | ((with_reducible refine wpList_at ⟨some 51, _, _, _, _, _⟩ ?_); go_must (refine wpList_load_mid rfl 48 (.tmp 50) rfl bk (k * 16) rfl y _ hcell Try.underlying48 rfl (by have h := HYI.out; rw [List.size_toArray] at h; exact h) ?_)) | ((with_reducible refine wpList_at ⟨some 52, _, _, _, _, _⟩ ?_); go_must (refine wpList_load_row rfl 48 (.tmp 14) rfl wr.heap.size rfl _ y.toArray (0, 0) _ (new_block wr _) Try.underlying48 rfl HYI.out ?_)) | ((with_reducible refine wpList_at ⟨some 53, _, _, _, _, _⟩ ?_); go_must (refine wpList_load_row rfl 38 (.tmp 5) rfl w.heap.size rfl _ _ (0, 0) _ HO7.out Try.underlying38 rfl (by kernel_rfl) ?_)) | fail)
            clear hst hcell
            generalize wr.alloc (.cells y.toArray 48) = W7 at *
            refine FAR.out.mono ?_
            rintro e w8 ⟨rfl, hf8⟩
            have HF8 := Lib.hid (HFA.out.trans hf8)
            go_wp2
            go_roundw
            case rel => exact ⟨k + 1, by omega, by go_num, HF8.out⟩
            case measure => simp [intOf]; omega
          · go_wp2
            go_ret
            exact ⟨rfl, (HF6.out.trans hfr).none_below⟩)
end Go.Proofs.Yteffnckhapmpgaa
