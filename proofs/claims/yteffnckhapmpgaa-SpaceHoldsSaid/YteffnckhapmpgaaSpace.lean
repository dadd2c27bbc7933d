/- bank.Space; the law SpaceHolds. -/
import Derived.Test.YteffnckhapmpgaaOpenG
import Derived.Lib.LastIndexByte
namespace Go.Proofs.Yteffnckhapmpgaa
open Go.RowKit

/-- url.Dir -/
def dirB (p : ByteArray) : ByteArray := p.extract 0 (Lib.lastIndexByte p 47 + 1).toNat
theorem lastIndexByte_bounds (s : ByteArray) (c : Int) : -1 ≤ Lib.lastIndexByte s c ∧ Lib.lastIndexByte s c + 1 ≤ s.size := by
  rcases Lib.lastIndexByte_spec s c with ⟨e, _⟩ | ⟨i, hi, e, _⟩
  · rw [e]; omega
  · rw [e]; omega
theorem Dir_any (p : ByteArray) (w : World) (hs : p.size < 4611686018427387904) : Calls Try.prog 67 #[.string p] w fun e w' => e = .returned (.string (dirB p)) ∧ w = w' := by
  have hbd := lastIndexByte_bounds p 47
  have hd := Lib.hid (show dirB p = p.extract 0 (Lib.lastIndexByte p 47 + 1).toNat from rfl)
  go_enter Try.func67, Try.ntmps67
  go_wp2_with fail
  refine (Try.strings_LastIndexByte p 47 hs w).mono ?_
  rintro e w1 ⟨rfl, rfl⟩
  generalize Lib.lastIndexByte p 47 = k at *
  have h1 : (0 : Int) ≤ k + 1 := by omega
  have h2 : k + 1 ≤ (p.size : Int) := by omega
  go_wp2
  go_ret
  exact ⟨by rw [hd.out]; rfl, rfl⟩
theorem StrsIn.lit {k : Nat} (base : Nat) (w : World) (x : ByteArray) (hk : k = w.heap.size) : StrsIn base (w.alloc (.cells #[.string x] 9)) (.slice (some ⟨k, 0, none⟩) 1 1) [x] := by
  subst hk; exact StrsIn.lit1 base w x
/-- bank.Space -/
def spaceL (a : AskOf Texts) (proxy : Bool) (path : ByteArray) : Texts :=
  if proxy then [⟨#[47]⟩] else if a.scheme ≠ 1 ∧ a.dom.length = 0 then [⟨#[47]⟩] else if a.scheme = 1 then [dirB path] else a.dom
def SpacePost (base : Nat) (w : World) (l : Texts) (e : Ending) (w' : World) : Prop := ∃ v, e = .returned v ∧ StrsIn base w' v l ∧ Fr noB w w'
set_option maxHeartbeats 2000000 in
set_option maxRecDepth 100000 in
theorem Space_any (base : Nat) (r : AskOf Value) (a : AskOf Texts) (proxy : Bool) (path : ByteArray) (w : World) (hr : r.Reads (StrsIn base w) a) (hs : path.size < 4611686018427387904) :
    Calls Try.prog 33 #[.agg r.cells.toArray, .bool proxy, .string path] w (SpacePost base w (spaceL a proxy path)) := by
  obtain ⟨e1, e2, e3, e4, e5, e6, e7, hdom⟩ := hr
  obtain ⟨ad, cd, hdv⟩ := hdom.rd.form
  have hAC : r.cells = [.int .i64 a.scheme, .string r.realm, .string r.nonce, .string r.opaq, .bool r.sess, .string r.qop, .bool r.stale, .slice ad a.dom.length cd] := by unfold AskOf.cells; rw [e1, hdv]
  rw [hdv] at hdom
  have hfa : Fr noB w (w.alloc (.cells #[.int .i64 a.scheme, .string r.realm, .string r.nonce, .string r.opaq, .bool r.sess, .string r.qop, .bool r.stale, .slice ad a.dom.length cd] 46)) := (Fr.refl noB w).alloc _
  have hd2 := hdom.frN hfa
  rw [hAC]
  clear hAC e1 e2 e3 e4 e5 e6 e7 hdom hdv
  cases proxy with
  | true =>
    have hsp := Lib.hid (show spaceL a true path = [⟨#[47]⟩] from rfl)
    go_enter Try.func33, Try.ntmps33
    go_wp2
    go_ret
    unfold SpacePost
    rw [hsp.out]
    exact ⟨_, rfl, StrsIn.lit base _ _ (by simp), ((Fr.refl noB w).alloc _).alloc _⟩
  | false =>
    by_cases h1 : a.scheme = 1
    · have hsp := Lib.hid (show spaceL a false path = [dirB path] by unfold spaceL; simp [h1])
      go_enter Try.func33, Try.ntmps33
      go_wp2_with fail
      refine (Dir_any path _ hs).mono ?_
      rintro e w1 ⟨rfl, rfl⟩
      go_wp2
      go_ret
      unfold SpacePost
      rw [hsp.out]
      exact ⟨_, rfl, StrsIn.lit base _ _ (by simp), ((Fr.refl noB w).alloc _).alloc _⟩
    · by_cases h2 : a.dom.length = 0
      · have hsp := Lib.hid (show spaceL a false path = [⟨#[47]⟩] by unfold spaceL; rw [if_neg (by decide), if_pos ⟨h1, h2⟩])
        have h2' : ((a.dom.length : Nat) : Int) = 0 := by omega
        go_enter Try.func33, Try.ntmps33
        go_wp2
        go_ret
        unfold SpacePost
        rw [hsp.out]
        exact ⟨_, rfl, StrsIn.lit base _ _ (by simp), ((Fr.refl noB w).alloc _).alloc _⟩
      · have hsp := Lib.hid (show spaceL a false path = a.dom by unfold spaceL; rw [if_neg (by decide), if_neg (fun h => h2 h.2), if_neg h1])
        have hb1 : (a.scheme != 1) = true := by simp [h1]
        have hb2 : (((a.dom.length : Nat) : Int) == 0) = false := by simp; intro h; exact h2 (by rw [h]; rfl)
        have CL := Lib.hid (CloneS_any base _ _ _ hd2)
        go_enter Try.func33, Try.ntmps33
        go_wp2_with fail
        refine CL.out.mono ?_
        rintro e w1 ⟨a', c', rfl, hin, hf⟩
        go_wp2
        go_ret
        unfold SpacePost
        rw [hsp.out]
        exact ⟨_, rfl, hin, hfa.trans hf⟩

theorem prefix_extract (s : ByteArray) (n : Nat) : within s (s.extract 0 n) = true := by
  unfold within Lib.hasPrefix
  rw [List.isPrefixOf_iff_prefix, Lib.extract_data]
  simp only [List.drop_zero]
  exact List.take_prefix _ _
theorem SpaceHolds1_any (b : Nat) (path p : ByteArray) (w : World) (hb : w.cell? ⟨b, 0, none⟩ = some (.string path)) :
    Calls Try.prog 34 #[.string p, .pointer (some ⟨b, 0, none⟩)] w fun e w' => e = .returned (.bool (within path p)) ∧ w = w' := by
  go_enter Try.func34, Try.ntmps34
  go_wp2_with fail
  refine (Within_any path p w).mono ?_
  rintro e w1 ⟨rfl, rfl⟩
  go_wp2
  go_ret
  exact ⟨rfl, rfl⟩
set_option maxHeartbeats 2000000 in
set_option maxRecDepth 100000 in
theorem SpaceHolds_walk (r : AskOf Value) (a : AskOf Texts) (proxy : Bool) (path : ByteArray) (z2 : path.size ≤ 140737488351232) (w : World) (st0 : AskFit w r a) :
    Calls Try.prog 8 #[.agg r.cells.toArray, .bool proxy, .string path] w fun e w' => e = .returned (.bool true) ∧ Below w.heap.size w w' := by
  have hr := st0.1
  obtain ⟨ad, cd, hdv⟩ := hr.2.2.2.2.2.2.2.form
  obtain ⟨x, hx⟩ : ∃ x, x = r.cells := ⟨_, rfl⟩
  have hxk : x.length = 8 := by rw [hx]; rfl
  have hf1 : Fr noB w ((w.alloc (.cells x.toArray 46)).alloc (.cells #[.string path] 9)) := ((Fr.refl noB w).alloc _).alloc _
  have hb0 : ((w.alloc (.cells x.toArray 46)).alloc (.cells #[.string path] 9)).heap[w.heap.size]? = some (.cells x.toArray 46 (0, 0)) := by
    rw [Below.heap_alloc _ _ _ (by simp)]; exact new_block w _
  have hb1 : ((w.alloc (.cells x.toArray 46)).alloc (.cells #[.string path] 9)).heap[w.heap.size + 1]? = some (.cells #[.string path] 9 (0, 0)) := by
    have := new_block (w.alloc (.cells x.toArray 46)) (.cells #[.string path] 9)
    simpa using this
  have hx7 : x[7]? = some (.slice ad a.dom.length cd) := by rw [hx, ← hdv]; rfl
  rw [← hx]
  have HX := Lib.hid hx
  have hxi : (Try.prog.info? 46).map (·.size) = some x.toArray.size := by rw [List.size_toArray, hxk]; kernel_rfl
  have HXI := Lib.hid hxi
  clear hx hxi hdv st0
  have HR := Lib.hid hr
  clear hr
  go_enter Try.func8, Try.ntmps8
  go_wp2_with fail
  generalize (w.alloc _).alloc _ = W at *
  refine (banked_any W).mono ?_
  rintro e u1 ⟨rfl, hf2⟩
  have hB0 := hf2.keep hb0 (fun h => h)
  have hB1 := hf2.keep hb1 (fun h => h)
  have HF1 := Lib.hid (hf1.trans hf2)
  have c7 : u1.cell? ⟨w.heap.size, 7, none⟩ = some (.slice ad a.dom.length cd) := by simp only [World.cell?, hB0]; simpa using hx7
  have cp : u1.cell? ⟨w.heap.size + 1, 0, none⟩ = some (.string path) := by simp [World.cell?, hB1]
  have HB0 := Lib.hid hB0
  clear hf1 hf2 hb0 hb1 hB0 hB1 hx7
  by_cases hpl : 100 < path.size
  · have hpd : (100 : Int) < (path.size : Int) := by omega
    go_wp2
    go_ret
    exact ⟨rfl, HF1.out.none_below⟩
  · have hpd : ¬ (100 : Int) < (path.size : Int) := by omega
    cases hpre : Lib.hasPrefix path.data.toList (⟨#[47]⟩ : ByteArray).data.toList
    · go_wp2_with fail
      refine (Try.strings_HasPrefix path _ u1).mono ?_
      rintro e w1 ⟨rfl, rfl⟩
      rw [hpre]
      go_wp2
      go_ret
      exact ⟨rfl, HF1.out.none_below⟩
    · go_wp2_with fail
      refine (Try.strings_HasPrefix path _ u1).mono ?_
      rintro e w1 ⟨rfl, rfl⟩
      rw [hpre]
      by_cases hdl : 0 < a.dom.length
      · have hdd : (0 : Int) < (a.dom.length : Int) := by omega
        go_wp2
        go_ret
        exact ⟨rfl, HF1.out.none_below⟩
      · have hdd : ¬ (0 : Int) < (a.dom.length : Int) := by omega
        have hd0 : a.dom.length = 0 := by omega
        have hde : a.dom = [] := List.length_eq_zero_iff.1 hd0
        have hrd := HR.out
        have SP := Lib.hid (Space_any w.heap.size r a proxy path w1 ⟨hrd.1, hrd.2.1, hrd.2.2.1, hrd.2.2.2.1, hrd.2.2.2.2.1, hrd.2.2.2.2.2.1, hrd.2.2.2.2.2.2.1, hrd.2.2.2.2.2.2.2.in HF1.out (Nat.le_refl _) (by omega)⟩ (by omega))
        rw [← HX.out] at SP
        have hall : (spaceL a proxy path).any (within path) = true := by
          unfold spaceL
          split
          · simpa [within] using hpre
          · split
            · simpa [within] using hpre
            · rename_i h1 h2
              rw [if_pos (Decidable.byContradiction fun h => h2 ⟨h, hd0⟩)]
              simp only [List.any_cons, List.any_nil, Bool.or_false]
              exact prefix_extract _ _
        have HALL := Lib.hid hall
        clear hall hpre hd0 hde
        go_wp2_with (first | ((with_reducible refine wpList_at ⟨some 23, _, _, _, _, _⟩ ?_); go_must (refine wpList_load_row rfl 46 (.tmp 3) rfl w.heap.size rfl _ x.toArray (0, 0) _ HB0.out Try.underlying46 rfl HXI.out ?_)) | fail)
        refine SP.out.mono ?_
        intro e u2 hp
        obtain ⟨v, rfl, hin, hf3⟩ := hp
        have cp2 := cp
        rw [← hf3.cell (p := ⟨w.heap.size + 1, 0, none⟩) (World.block_lt_of_cell? _ _ cp) (fun h => h)] at cp2
        have CF := Lib.hid (ContainsFuncS_any (fun u => u.cell? ⟨w.heap.size + 1, 0, none⟩ = some (.string path)) _ #[.pointer (some ⟨w.heap.size + 1, 0, none⟩)] (within path) v (spaceL a proxy path) u2 Try.call34 cp2 (fun x _ u hu => (SpaceHolds1_any _ path x u hu).mono fun e u' ⟨he, hw⟩ => ⟨he, hw ▸ Fr.refl _ _, hw ▸ hu⟩) hin.rd (by have := hin.few; unfold maxLen; omega))
        have HF3 := Lib.hid (HF1.out.trans hf3)
        rw [HALL.out] at CF
        clear SP hin hf3 HF1 c7 cp cp2
        go_wp2_with fail
        refine CF.out.mono ?_
        rintro e u3 ⟨rfl, hf4, _⟩
        go_wp2
        go_ret
        exact ⟨rfl, (HF3.out.trans hf4).none_below⟩
end Go.Proofs.Yteffnckhapmpgaa
