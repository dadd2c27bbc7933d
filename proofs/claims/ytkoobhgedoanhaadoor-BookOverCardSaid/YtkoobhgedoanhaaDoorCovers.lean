/- Package cors: Covers, Needs. -/
import Derived.Test.YtkoobhgedoanhaaDoorPassPure
import Derived.Test.YtkoobhgedoanhaaDoorRowPa
namespace Go.Proofs.YtkoobhgedoanhaaDoor
open Go.RowKit

/-- a request; D: what its headers are -/
structure ReqOf (D : Type) where
  part : Int
  frm : Ori
  o : Ori
  path : ByteArray
  query : ByteArray
  method : ByteArray
  heads : D
  wth : Bool
  body : ByteArray
def ReqOf.cells (r : ReqOf Value) : List Value := [.int .i64 r.part, .bool r.frm.secure, .string r.frm.host, .int .i64 r.frm.port, .bool r.o.secure, .string r.o.host, .int .i64 r.o.port, .string r.path, .string r.query, .string r.method, r.heads, .bool r.wth, .string r.body]
def ReqOf.toL {D : Type} (r : ReqOf D) (hs : List Prm) : ReqL := ⟨r.frm, r.o, r.path, r.query, r.method, hs, r.wth⟩
/-- v reads as the passes ps -/
def PasAt (w : World) (v : Value) (ps : List Pas) : Prop := RowsAt 12 w v (ps.map Pas.cells)
def pasC (x : List Value) : Pas := ⟨⟨cB x 0, cS x 1, cI x 2⟩, ⟨cB x 3, cS x 4, cI x 5⟩, cS x 6, cS x 7, cB x 8, cS x 9, cS x 10, cI x 11⟩
theorem pasC_cells (p : Pas) : pasC p.cells = p := rfl
theorem any_pasC (ps : List Pas) (f : Pas → Bool) : (ps.map Pas.cells).any (fun x => f (pasC x)) = ps.any f := by
  rw [List.any_map]; rfl
set_option maxHeartbeats 1000000 in
set_option maxRecDepth 100000 in
theorem Cov2_any (p : Pas) (m : ByteArray) (r : ReqOf Value) (bm br : Nat) (w : World) (hm : w.heap[bm]? = some (.cells #[.string m] 9 (0, 0))) (hr : w.heap[br]? = some (.cells r.cells.toArray 67 (0, 0))) :
    Calls Tryd.prog 87 #[.agg p.cells.toArray, .pointer (some ⟨bm, 0, none⟩), .pointer (some ⟨br, 0, none⟩)] w fun e w' => e = .returned (.bool (p.lets m r.wth)) ∧ Fr noB w w' := by
  unfold Pas.cells
  unfold ReqOf.cells at hr
  have hfa : Fr noB w _ := (Fr.refl noB w).alloc (.cells #[.bool p.frm.secure, .string p.frm.host, .int .i64 p.frm.port, .bool p.o.secure, .string p.o.host, .int .i64 p.o.port, .string p.path, .string p.query, .bool p.wth, .string p.method, .string p.head, .int .i64 p.til] 63)
  have hm2 := hfa.keep hm (fun h => h)
  have hr2 := hfa.keep hr (fun h => h)
  have cm : (w.alloc (.cells #[.bool p.frm.secure, .string p.frm.host, .int .i64 p.frm.port, .bool p.o.secure, .string p.o.host, .int .i64 p.o.port, .string p.path, .string p.query, .bool p.wth, .string p.method, .string p.head, .int .i64 p.til] 63)).cell? ⟨bm, 0, none⟩ = some (.string m) := by simp [World.cell?, hm2]
  clear hm2
  have HFA := Lib.hid hfa
  cases e1 : (p.method.toList == m.toList)
  · cases e2 : (p.method.toList == star)
    · have HR := Lib.hid (show p.lets m r.wth = false by unfold Pas.lets; rw [e1, e2]; rfl)
      have e2' : (p.method.toList == [42]) = false := e2
      clear hfa hm hr e2
      go_enter Tryd.func87, Tryd.ntmps87
      go_wp2
      go_ret
      exact ⟨by rw [HR.out]; rfl, HFA.out⟩
    · have e2' : (p.method.toList == [42]) = true := e2
      have cw : (w.alloc (.cells #[.bool p.frm.secure, .string p.frm.host, .int .i64 p.frm.port, .bool p.o.secure, .string p.o.host, .int .i64 p.o.port, .string p.path, .string p.query, .bool p.wth, .string p.method, .string p.head, .int .i64 p.til] 63)).cell? ⟨br, 11, none⟩ = some (.bool r.wth) := by simp [World.cell?, hr2]
      cases e3 : r.wth
      · have HR := Lib.hid (show p.lets m false = true by unfold Pas.lets; rw [e1, e2]; rfl)
        rw [e3] at cw
        clear hfa hm hr e2 hr2 e3
        go_enter Tryd.func87, Tryd.ntmps87
        go_wp2
        go_ret
        exact ⟨by rw [HR.out]; rfl, HFA.out⟩
      · have HR := Lib.hid (show p.lets m true = false by unfold Pas.lets; rw [e1, e2]; rfl)
        rw [e3] at cw
        clear hfa hm hr e2 hr2 e3
        go_enter Tryd.func87, Tryd.ntmps87
        go_wp2
        go_ret
        exact ⟨by rw [HR.out]; rfl, HFA.out⟩
  · have HR := Lib.hid (show p.lets m r.wth = true by unfold Pas.lets; rw [e1]; rfl)
    clear hfa hm hr
    go_enter Tryd.func87, Tryd.ntmps87
    go_wp2
    go_ret
    exact ⟨by rw [HR.out]; rfl, HFA.out⟩
set_option maxHeartbeats 1000000 in
set_option maxRecDepth 100000 in
theorem Cov3_any (p : Pas) (m : ByteArray) (r : ReqOf Value) (bm br : Nat) (w : World) (hm : w.heap[bm]? = some (.cells #[.string m] 9 (0, 0))) (hr : w.heap[br]? = some (.cells r.cells.toArray 67 (0, 0))) :
    Calls Tryd.prog 88 #[.agg p.cells.toArray, .pointer (some ⟨bm, 0, none⟩), .pointer (some ⟨br, 0, none⟩)] w fun e w' => e = .returned (.bool (p.letsH m r.wth)) ∧ Fr noB w w' := by
  unfold Pas.cells
  unfold ReqOf.cells at hr
  have hfa : Fr noB w _ := (Fr.refl noB w).alloc (.cells #[.bool p.frm.secure, .string p.frm.host, .int .i64 p.frm.port, .bool p.o.secure, .string p.o.host, .int .i64 p.o.port, .string p.path, .string p.query, .bool p.wth, .string p.method, .string p.head, .int .i64 p.til] 63)
  have hm2 := hfa.keep hm (fun h => h)
  have hr2 := hfa.keep hr (fun h => h)
  have cm : (w.alloc (.cells #[.bool p.frm.secure, .string p.frm.host, .int .i64 p.frm.port, .bool p.o.secure, .string p.o.host, .int .i64 p.o.port, .string p.path, .string p.query, .bool p.wth, .string p.method, .string p.head, .int .i64 p.til] 63)).cell? ⟨bm, 0, none⟩ = some (.string m) := by simp [World.cell?, hm2]
  clear hm2
  have HFA := Lib.hid hfa
  cases e1 : (p.head.toList == m.toList)
  · cases e2 : (p.head.toList == star)
    · have HR := Lib.hid (show p.letsH m r.wth = false by unfold Pas.letsH; rw [e1, e2]; rfl)
      have e2' : (p.head.toList == [42]) = false := e2
      clear hfa hm hr e2
      go_enter Tryd.func88, Tryd.ntmps88
      go_wp2
      go_ret
      exact ⟨by rw [HR.out]; rfl, HFA.out⟩
    · have e2' : (p.head.toList == [42]) = true := e2
      have cw : (w.alloc (.cells #[.bool p.frm.secure, .string p.frm.host, .int .i64 p.frm.port, .bool p.o.secure, .string p.o.host, .int .i64 p.o.port, .string p.path, .string p.query, .bool p.wth, .string p.method, .string p.head, .int .i64 p.til] 63)).cell? ⟨br, 11, none⟩ = some (.bool r.wth) := by simp [World.cell?, hr2]
      cases e3 : r.wth
      · rw [e3] at cw
        cases e4 : (m.toList == authz)
        · have HR := Lib.hid (show p.letsH m false = true by unfold Pas.letsH; rw [e1, e2]; unfold bne; rw [e4]; rfl)
          have e4' : (m.toList == [97, 117, 116, 104, 111, 114, 105, 122, 97, 116, 105, 111, 110]) = false := e4
          clear hfa hm hr e2 hr2 e3 e4
          go_enter Tryd.func88, Tryd.ntmps88
          go_wp2
          go_ret
          exact ⟨by rw [HR.out]; rfl, HFA.out⟩
        · have HR := Lib.hid (show p.letsH m false = false by unfold Pas.letsH; rw [e1, e2]; unfold bne; rw [e4]; rfl)
          have e4' : (m.toList == [97, 117, 116, 104, 111, 114, 105, 122, 97, 116, 105, 111, 110]) = true := e4
          clear hfa hm hr e2 hr2 e3 e4
          go_enter Tryd.func88, Tryd.ntmps88
          go_wp2
          go_ret
          exact ⟨by rw [HR.out]; rfl, HFA.out⟩
      · have HR := Lib.hid (show p.letsH m true = false by unfold Pas.letsH; rw [e1, e2]; rfl)
        rw [e3] at cw
        clear hfa hm hr e2 hr2 e3
        go_enter Tryd.func88, Tryd.ntmps88
        go_wp2
        go_ret
        exact ⟨by rw [HR.out]; rfl, HFA.out⟩
  · have HR := Lib.hid (show p.letsH m r.wth = true by unfold Pas.letsH; rw [e1]; rfl)
    clear hfa hm hr
    go_enter Tryd.func88, Tryd.ntmps88
    go_wp2
    go_ret
    exact ⟨by rw [HR.out]; rfl, HFA.out⟩
/-- the closure has -/
theorem Cov1_any (g : Nat) (cap : Array Value) (p : List Value → Bool) (v : Value) (xs : List (List Value)) (bl : Nat) (w : World) (eg : ∀ args w, (callFunc g args).run Tryd.prog w = .ok (.enter g args) w) (hp : AnswersK noB w g cap p xs) (hv : RowsAt 12 w v xs) (hl : w.heap[bl]? = some (.cells #[v] 53 (0, 0))) :
    Calls Tryd.prog 86 #[.func (.func g) #[] cap, .pointer (some ⟨bl, 0, none⟩)] w fun e w' => e = .returned (.bool (xs.any p)) ∧ Fr noB w w' := by
  have hc := Lib.hid (ContainsFunc_Pa g cap p v xs w eg hp hv)
  obtain ⟨av, cv, rfl⟩ := hv.form
  have c0 : w.cell? ⟨bl, 0, none⟩ = some (.slice av xs.length cv) := by simp [World.cell?, hl]
  clear hv hl hp
  go_enter Tryd.func86, Tryd.ntmps86
  go_wp2_with fail
  refine hc.out.mono ?_
  rintro e u ⟨rfl, hf⟩
  go_wp2
  go_ret
  exact ⟨rfl, hf⟩

/-- a request of sizes that can be -/
def ReqOk (r : ReqOf Value) (hs : List Prm) : Prop := r.method.size < 100000 ∧ hs.length < 100000 ∧ ∀ p ∈ hs, p.1.size < 100000 ∧ p.2.size < 100000
def CvRel (hs : List ByteArray) (wth : Bool) (ps : List Pas) (w : World) (t : Value) (wr : World) : Prop :=
  ∃ k : Nat, k ≤ hs.length ∧ t = .int .i64 k ∧ (hs.take k).all (fun h => ps.any (Pas.letsH h wth)) = true ∧ Fr noB w wr
theorem cv_take_succ {α : Type} {p : α → Bool} {l : List α} {k : Nat} {x : α} (h : l[k]? = some x) (hn : (l.take k).all p = true) (hp : p x = true) : (l.take (k + 1)).all p = true := by
  rw [take_snocG h, List.all_append, hn]; simp [hp]
theorem cv_all_not {α : Type} {p : α → Bool} {l : List α} {k : Nat} {x : α} (h : l[k]? = some x) (hp : p x = false) : l.all p = false := by
  rw [List.all_eq_false]; exact ⟨x, List.mem_of_getElem? h, by simp [hp]⟩
set_option maxRecDepth 100000 in
set_option maxHeartbeats 4000000 in
theorem Covers_any (r : ReqOf Value) (hs : List Prm) (v : Value) (ps : List Pas) (w : World) (hr : PrmsAt w r.heads hs) (hv : PasAt w v ps) (hz : ReqOk r hs) :
    Calls Tryd.prog 67 #[.agg r.cells.toArray, v] w fun e w' => e = .returned (.bool ((r.toL hs).covers ps)) ∧ Fr noB w w' := by
  have HRES := Lib.hid (show (r.toL hs).covers ps = ((simpleB (methodB r.method) || ps.any (Pas.lets (methodB r.method) r.wth)) && (askedB hs).all fun h => ps.any (Pas.letsH h r.wth)) from rfl)
  generalize (r.toL hs).covers ps = res at HRES ⊢
  obtain ⟨av, cv, hvf⟩ := RowsAt.form hv
  rw [List.length_map] at hvf
  subst hvf
  obtain ⟨ah, ch, hhf⟩ := RowsAt.form hr
  rw [List.length_map] at hhf
  obtain ⟨rc, hrc⟩ : ∃ rc, rc = r.cells.toArray := ⟨_, rfl⟩
  obtain ⟨wb, hwb⟩ : ∃ wb, wb = (w.alloc (.cells rc 67)).alloc (.cells #[.slice av ps.length cv] 53) := ⟨_, rfl⟩
  have hfb : Fr noB w wb := by rw [hwb]; exact ((Fr.refl noB w).alloc _).alloc _
  have hsb : wb.heap.size = w.heap.size + 2 := by rw [hwb]; simp
  have hk1 : wb.heap[w.heap.size]? = some (.cells rc 67 (0, 0)) := by rw [hwb]; exact ((Fr.refl noB _).alloc _).keep (new_block _ _) (fun h => h)
  have hk2 : wb.heap[w.heap.size + 1]? = some (.cells #[.slice av ps.length cv] 53 (0, 0)) := by
    have h := new_block (w.alloc (.cells rc 67)) (.cells #[.slice av ps.length cv] 53)
    rw [World.size_alloc] at h
    rw [hwb]; exact h
  have HC := Lib.hid (show ∀ U, Fr noB wb U → U.heap[w.heap.size]? = some (.cells r.cells.toArray 67 (0, 0)) ∧ U.heap[w.heap.size + 1]? = some (.cells #[.slice av ps.length cv] 53 (0, 0)) from fun U hU => ⟨by rw [← hrc]; exact hU.keep hk1 (fun h => h), hU.keep hk2 (fun h => h)⟩)
  have HX := Lib.hid (show ∀ U, Fr noB wb U → U.cell? ⟨w.heap.size, 9, none⟩ = some (.string r.method) ∧ U.cell? ⟨w.heap.size, 10, none⟩ = some (.slice ah hs.length ch) from fun U hU => by
    have j := (HC.out U hU).1
    unfold ReqOf.cells at j
    rw [hhf] at j
    simp [World.cell?, j])
  have HV := Lib.hid (show ∀ U, Fr noB w U → PasAt U (.slice av ps.length cv) ps from fun U hU => RowsAt.frNone hv hU)
  have HH := Lib.hid (show ∀ U, Fr noB w U → PrmsAt U (.slice ah hs.length ch) hs from fun U hU => by rw [← hhf]; exact RowsAt.frNone hr hU)
  have HZ := Lib.hid hz
  have HFB := Lib.hid hfb
  have HWB := Lib.hid hwb
  have HRC := Lib.hid hrc
  clear hv hr hz hfb hwb hk1 hk2
  rw [← hrc]
  clear hrc
  obtain ⟨c9, c10⟩ := HX.out wb (Fr.refl _ _)
  rw [HWB.out] at c9 c10
  go_enter Tryd.func67, Tryd.ntmps67
  go_wp2_with fail
  rw [← HWB.out]
  refine (Method_any r.method wb HZ.out.1).mono ?_
  rintro e u1 ⟨rfl, hf1⟩
  obtain ⟨m, hm⟩ : ∃ m, m = methodB r.method := ⟨_, rfl⟩
  rw [← hm] at HRES ⊢
  clear hm
  obtain ⟨w1, hw1⟩ : ∃ w1, w1 = u1.alloc (.cells #[.string m] 9) := ⟨_, rfl⟩
  have hmb : w1.heap[u1.heap.size]? = some (.cells #[.string m] 9 (0, 0)) := by rw [hw1]; exact new_block _ _
  have hf2 : Fr noB wb w1 := by rw [hw1]; exact hf1.alloc _
  have HW1 := Lib.hid hw1
  have HF1 := Lib.hid hf2
  have k0 : w1.cell? ⟨u1.heap.size, 0, none⟩ = some (.string m) := by simp [World.cell?, hmb]
  have HMB := Lib.hid hmb
  clear hf1 hf2 c9 c10 hw1 hmb
  go_wp2_with fail
  rw [← HW1.out]
  refine (Simple_any m w1).mono ?_
  rintro e u2 ⟨rfl, rfl⟩
  -- the method is allowed
  have HC2 := Lib.hid (show Calls Tryd.prog 86 #[.func (.func 87) #[] #[.pointer (some ⟨u1.heap.size, 0, none⟩), .pointer (some ⟨w.heap.size, 0, none⟩)], .pointer (some ⟨w.heap.size + 1, 0, none⟩)] w1 fun e w' => e = .returned (.bool (ps.any (Pas.lets m r.wth))) ∧ Fr noB w1 w' from by
    rw [← any_pasC]
    refine Cov1_any _ _ (fun x => Pas.lets m r.wth (pasC x)) _ _ _ w1 Tryd.call87 ?_ (HV.out w1 (HFB.out.trans HF1.out)) (HC.out w1 HF1.out).2
    intro x hx u hu
    obtain ⟨p, hp, rfl⟩ := List.mem_map.1 hx
    exact Cov2_any p m r _ _ u (hu.keep HMB.out (fun h => h)) ((HC.out u (HF1.out.trans hu)).1))
  cases hsm : simpleB m
  · cases hml : ps.any (Pas.lets m r.wth)
    · have HR := Lib.hid (show res = false by rw [HRES.out, hsm, hml]; rfl)
      rw [hml] at HC2
      clear hsm hml HRES
      go_wp2_with fail
      refine HC2.out.mono ?_
      rintro e u3 ⟨rfl, hf3⟩
      go_wp2
      go_ret
      exact ⟨by rw [HR.out]; rfl, (HFB.out.trans HF1.out).trans hf3⟩
    · have HRA := Lib.hid (show res = (askedB hs).all (fun h => ps.any (Pas.letsH h r.wth)) by rw [HRES.out, hsm, hml]; rfl)
      rw [hml] at HC2
      clear hsm hml HRES
      go_wp2_with fail
      refine HC2.out.mono ?_
      rintro e u3 ⟨rfl, hf3⟩
      have HF3 := Lib.hid (HF1.out.trans hf3)
      obtain ⟨c9, c10⟩ := HX.out _ HF3.out
      clear hf3 HC2
      go_wp2_with fail
      refine (Asked_any hs _ u3 (HH.out u3 (HFB.out.trans HF3.out)) HZ.out.2.1 HZ.out.2.2).mono ?_
      rintro e u4 ⟨uv, rfl, hst, hf4⟩
      obtain ⟨au, cu, huf⟩ := hst.form
      obtain ⟨nl, hnl⟩ : ∃ nl, nl = askedB hs := ⟨_, rfl⟩
      rw [← hnl] at hst huf HRA
      subst huf
      have HF4 := Lib.hid (HF3.out.trans hf4)
      have HST := Lib.hid hst.at
      clear hf4 hst hnl c9 c10
      go_wp2
      go_loopw [26] (CvRel nl r.wth ps u4) (fun i _ => nl.length - (intOf i).toNat)
      case atStart => exact ⟨0, Nat.zero_le _, rfl, rfl, Fr.refl _ _⟩
      case round =>
        obtain ⟨k, hk, rfl, hall, hfr⟩ := hrel
        have HAL := Lib.hid hall
        clear hall
        by_cases hks : k < nl.length
        · have hki : (k : Int) < (nl.length : Int) := by omega
          rcases HST.out.frNone hfr with ⟨_, _, _, e, _⟩ | ⟨bk, o, c, hf, h1, h2, h3, h4⟩
          · rw [e] at hks; exact absurd hks (Nat.not_lt_zero _)
          · cases hf
            unfold maxLen at h2
            have hat := Lib.hid (List.getElem?_eq_getElem hks)
            have hc := h4 k _ hat.out
            generalize nl[k] = x at hat hc
            clear h4
            obtain ⟨wx, hwx⟩ : ∃ wx, wx = wr.alloc (.cells #[.string x] 9) := ⟨_, rfl⟩
            have hxb : wx.heap[wr.heap.size]? = some (.cells #[.string x] 9 (0, 0)) := by rw [hwx]; exact new_block _ _
            have hfx : Fr noB wr wx := by rw [hwx]; exact (Fr.refl _ _).alloc _
            have HFX := Lib.hid ((HF4.out.trans hfr).trans hfx)
            have HCX := Lib.hid (show Calls Tryd.prog 86 #[.func (.func 88) #[] #[.pointer (some ⟨wr.heap.size, 0, none⟩), .pointer (some ⟨w.heap.size, 0, none⟩)], .pointer (some ⟨w.heap.size + 1, 0, none⟩)] wx fun e w' => e = .returned (.bool (ps.any (Pas.letsH x r.wth))) ∧ Fr noB wx w' from by
              rw [← any_pasC]
              refine Cov1_any _ _ (fun y => Pas.letsH x r.wth (pasC y)) _ _ _ wx Tryd.call88 ?_ (HV.out wx (HFB.out.trans HFX.out)) (HC.out wx HFX.out).2
              intro y hy u hu
              obtain ⟨p, hp, rfl⟩ := List.mem_map.1 hy
              exact Cov3_any p x r _ _ u (hu.keep hxb (fun h => h)) ((HC.out u (HFX.out.trans hu)).1))
            have HWX := Lib.hid hwx
            have HFR := Lib.hid (hfr.trans hfx)
            clear hwx
            cases hany : ps.any (Pas.letsH x r.wth)
            · have HR := Lib.hid (show res = false by rw [HRA.out]; exact cv_all_not hat.out hany)
              rw [hany] at HCX
              clear hany
              go_wp2_with fail
              rw [← HWX.out]
              refine HCX.out.mono ?_
              rintro e u6 ⟨rfl, hf6⟩
              go_wp2
              go_ret
              exact ⟨by rw [HR.out]; rfl, (HFB.out.trans HFX.out).trans hf6⟩
            · have hnx := Lib.hid (cv_take_succ hat.out HAL.out hany)
              rw [hany] at HCX
              clear hany
              go_wp2_with fail
              rw [← HWX.out]
              refine HCX.out.mono ?_
              rintro e u6 ⟨rfl, hf6⟩
              go_wp2
              go_roundw
              case rel => exact ⟨k + 1, by omega, by go_num, hnx.out, HFR.out.trans hf6⟩
              case measure => simp [intOf]; omega
        · have hki : ¬ (k : Int) < (nl.length : Int) := by omega
          have HR := Lib.hid (show res = true by rw [HRA.out]; have h := HAL.out; rwa [List.take_of_length_le (by omega)] at h)
          go_wp2
          go_ret
          exact ⟨by rw [HR.out]; rfl, HFB.out.trans (HF4.out.trans hfr)⟩
  · have HRA := Lib.hid (show res = (askedB hs).all (fun h => ps.any (Pas.letsH h r.wth)) by rw [HRES.out, hsm]; simp)
    clear hsm HRES HC2
    obtain ⟨c9, c10⟩ := HX.out _ HF1.out
    go_wp2_with fail
    refine (Asked_any hs _ w1 (HH.out w1 (HFB.out.trans HF1.out)) HZ.out.2.1 HZ.out.2.2).mono ?_
    rintro e u4 ⟨uv, rfl, hst, hf4⟩
    obtain ⟨au, cu, huf⟩ := hst.form
    obtain ⟨nl, hnl⟩ : ∃ nl, nl = askedB hs := ⟨_, rfl⟩
    rw [← hnl] at hst huf HRA
    subst huf
    have HF4 := Lib.hid (HF1.out.trans hf4)
    have HST := Lib.hid hst.at
    clear hf4 hst hnl c9 c10
    go_wp2
    go_loopw [26] (CvRel nl r.wth ps u4) (fun i _ => nl.length - (intOf i).toNat)
    case atStart => exact ⟨0, Nat.zero_le _, rfl, rfl, Fr.refl _ _⟩
    case round =>
      obtain ⟨k, hk, rfl, hall, hfr⟩ := hrel
      have HAL := Lib.hid hall
      clear hall
      by_cases hks : k < nl.length
      · have hki : (k : Int) < (nl.length : Int) := by omega
        rcases HST.out.frNone hfr with ⟨_, _, _, e, _⟩ | ⟨bk, o, c, hf, h1, h2, h3, h4⟩
        · rw [e] at hks; exact absurd hks (Nat.not_lt_zero _)
        · cases hf
          unfold maxLen at h2
          have hat := Lib.hid (List.getElem?_eq_getElem hks)
          have hc := h4 k _ hat.out
          generalize nl[k] = x at hat hc
          clear h4
          obtain ⟨wx, hwx⟩ : ∃ wx, wx = wr.alloc (.cells #[.string x] 9) := ⟨_, rfl⟩
          have hxb : wx.heap[wr.heap.size]? = some (.cells #[.string x] 9 (0, 0)) := by rw [hwx]; exact new_block _ _
          have hfx : Fr noB wr wx := by rw [hwx]; exact (Fr.refl _ _).alloc _
          have HFX := Lib.hid ((HF4.out.trans hfr).trans hfx)
          have HCX := Lib.hid (show Calls Tryd.prog 86 #[.func (.func 88) #[] #[.pointer (some ⟨wr.heap.size, 0, none⟩), .pointer (some ⟨w.heap.size, 0, none⟩)], .pointer (some ⟨w.heap.size + 1, 0, none⟩)] wx fun e w' => e = .returned (.bool (ps.any (Pas.letsH x r.wth))) ∧ Fr noB wx w' from by
            rw [← any_pasC]
            refine Cov1_any _ _ (fun y => Pas.letsH x r.wth (pasC y)) _ _ _ wx Tryd.call88 ?_ (HV.out wx (HFB.out.trans HFX.out)) (HC.out wx HFX.out).2
            intro y hy u hu
            obtain ⟨p, hp, rfl⟩ := List.mem_map.1 hy
            exact Cov3_any p x r _ _ u (hu.keep hxb (fun h => h)) ((HC.out u (HFX.out.trans hu)).1))
          have HWX := Lib.hid hwx
          have HFR := Lib.hid (hfr.trans hfx)
          clear hwx
          cases hany : ps.any (Pas.letsH x r.wth)
          · have HR := Lib.hid (show res = false by rw [HRA.out]; exact cv_all_not hat.out hany)
            rw [hany] at HCX
            clear hany
            go_wp2_with fail
            rw [← HWX.out]
            refine HCX.out.mono ?_
            rintro e u6 ⟨rfl, hf6⟩
            go_wp2
            go_ret
            exact ⟨by rw [HR.out]; rfl, (HFB.out.trans HFX.out).trans hf6⟩
          · have hnx := Lib.hid (cv_take_succ hat.out HAL.out hany)
            rw [hany] at HCX
            clear hany
            go_wp2_with fail
            rw [← HWX.out]
            refine HCX.out.mono ?_
            rintro e u6 ⟨rfl, hf6⟩
            go_wp2
            go_roundw
            case rel => exact ⟨k + 1, by omega, by go_num, hnx.out, HFR.out.trans hf6⟩
            case measure => simp [intOf]; omega
      · have hki : ¬ (k : Int) < (nl.length : Int) := by omega
        have HR := Lib.hid (show res = true by rw [HRA.out]; have h := HAL.out; rwa [List.take_of_length_le (by omega)] at h)
        go_wp2
        go_ret
        exact ⟨by rw [HR.out]; rfl, HFB.out.trans (HF4.out.trans hfr)⟩

set_option maxRecDepth 100000 in
set_option maxHeartbeats 4000000 in
theorem Needs_any (r : ReqOf Value) (hs : List Prm) (w : World) (hr : PrmsAt w r.heads hs) (hz : ReqOk r hs) :
    Calls Tryd.prog 31 #[.agg r.cells.toArray] w fun e w' => e = .returned (.bool (r.toL hs).needs) ∧ Fr noB w w' := by
  have HRES := Lib.hid (show (r.toL hs).needs = (!r.frm.eqB r.o && !(r.toL hs).covers []) from rfl)
  generalize (r.toL hs).needs = res at HRES ⊢
  have hne := run_neq_ori r.frm r.o
  obtain ⟨wb, hwb⟩ : ∃ wb, wb = w.alloc (.cells r.cells.toArray 67) := ⟨_, rfl⟩
  have hfb : Fr noB w wb := by rw [hwb]; exact (Fr.refl noB w).alloc _
  have hk1 : wb.heap[w.heap.size]? = some (.cells r.cells.toArray 67 (0, 0)) := by rw [hwb]; exact new_block _ _
  have hfld : ∀ i u, r.cells[i]? = some u → wb.cell? ⟨w.heap.size, i, none⟩ = some u := fun i u hu => by
    simp only [World.cell?, hk1]; simpa using hu
  have c1 := hfld 1 _ rfl
  have c2 := hfld 2 _ rfl
  have c3 := hfld 3 _ rfl
  have c4 := hfld 4 _ rfl
  have c5 := hfld 5 _ rfl
  have c6 := hfld 6 _ rfl
  have HCV := Lib.hid (Covers_any r hs (.slice none 0 0) [] wb (RowsAt.frNone hr hfb) (show RowsAt 12 wb _ [] from ⟨by simp, Or.inl ⟨_, _, rfl, rfl, fun _ => rfl⟩⟩) hz)
  have HFB := Lib.hid hfb
  have c7 := hfld 7 _ rfl
  have c8 := hfld 8 _ rfl
  have c9 := hfld 9 _ rfl
  have c10 := hfld 10 _ rfl
  have c11 := hfld 11 _ rfl
  have c12 := hfld 12 _ rfl
  have c0 := hfld 0 _ rfl
  obtain ⟨ah, ch, hhf⟩ := RowsAt.form hr
  rw [List.length_map] at hhf
  have hrc : r.cells = [.int .i64 r.part, .bool r.frm.secure, .string r.frm.host, .int .i64 r.frm.port, .bool r.o.secure, .string r.o.host, .int .i64 r.o.port, .string r.path, .string r.query, .string r.method, .slice ah hs.length ch, .bool r.wth, .string r.body] := by unfold ReqOf.cells; rw [hhf]
  rw [hhf] at c10
  rw [hrc] at HCV hwb ⊢
  have HWB := Lib.hid hwb
  clear hhf hrc hfld hk1 hfb hwb hr hz
  cases e1 : r.frm.eqB r.o
  · have HR := Lib.hid (show res = !(r.toL hs).covers [] by rw [HRES.out, e1]; rfl)
    rw [e1] at hne
    clear HRES e1
    rw [HWB.out] at c0 c1 c2 c3 c4 c5 c6 c7 c8 c9 c10 c11 c12
    go_enter Tryd.func31, Tryd.ntmps31
    go_wp2_with fail
    rw [← HWB.out]
    refine HCV.out.mono ?_
    rintro e u ⟨rfl, hf⟩
    go_wp2
    go_ret
    exact ⟨by rw [HR.out]; rfl, HFB.out.trans hf⟩
  · have HR := Lib.hid (show res = false by rw [HRES.out, e1]; rfl)
    rw [e1] at hne
    clear HRES e1
    rw [HWB.out] at c0 c1 c2 c3 c4 c5 c6 c7 c8 c9 c10 c11 c12
    have HF := Lib.hid (HWB.out ▸ HFB.out)
    go_enter Tryd.func31, Tryd.ntmps31
    go_wp2
    go_ret
    exact ⟨by rw [HR.out]; rfl, HF.out⟩
end Go.Proofs.YtkoobhgedoanhaaDoor
