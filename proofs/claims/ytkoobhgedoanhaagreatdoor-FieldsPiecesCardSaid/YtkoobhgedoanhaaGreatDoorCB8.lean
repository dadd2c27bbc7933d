/- slices' functions at api.Pass (rows of 12 cells), printed by wip/rowfn.py. Package cors: Covers, Needs. slices.Index, Contains at passes. Package cors: what Grant's closure does. -/
import Derived.Test.YtkoobhgedoanhaaGreatDoorCB7
import Derived.Test.YtkoobhgedoanhaaGreatDoorCB4
import Derived.BigQuiet
import Derived.Deep.RegionHeld3
namespace Go.Proofs.YtkoobhgedoanhaaGreatDoor
open Go.RowKit

/-- a block of the kind before anything is stored -/
abbrev zPa : Array Value := #[.bool false, .string ⟨#[]⟩, .int .i64 0, .bool false, .string ⟨#[]⟩, .int .i64 0, .string ⟨#[]⟩, .string ⟨#[]⟩, .bool false, .string ⟨#[]⟩, .string ⟨#[]⟩, .int .i64 0]
theorem zPa_size : zPa.size = 12 := rfl
theorem zPa_one : ∀ v ∈ zPa.toList, v.oneCell' = true := by decide +kernel
theorem sizePa {x : List Value} (h : x.length = 12) : (Tryz.prog.info? 64).map (·.size) = some x.length := by rw [h]; kernel_rfl

def IRelPa (w : World) (p : List Value → Bool) (xs : List (List Value)) (i : Value) (wr : World) : Prop :=
  ∃ k : Nat, k ≤ xs.length ∧ i = .int .i64 k ∧ (xs.take k).any p = false ∧ Fr noB w wr
set_option maxRecDepth 100000 in
set_option maxHeartbeats 1000000 in
theorem IndexFunc_Pa (g : Nat) (cap : Array Value) (p : List Value → Bool) (v : Value) (xs : List (List Value)) (w : World) (eg : ∀ args w, (callFunc g args).run Tryz.prog w = .ok (.enter g args) w) (hp : AnswersK noB w g cap p xs) (hv : RowsAt 12 w v xs) :
    Calls Tryz.prog 128 #[v, .func (.func g) #[] cap] w fun e w' => e = .returned (.int .i64 (idxP p xs 0)) ∧ Fr noB w w' := by
  obtain ⟨av, cv, hform⟩ := hv.form
  subst hform
  have hone := Lib.hid hv.1
  go_enter Tryz.func128, Tryz.ntmps128
  go_wp2
  go_loopw [8] (IRelPa w p xs) (fun i _ => xs.length - (intOf i).toNat)
  case atStart => exact ⟨0, Nat.zero_le _, rfl, rfl, Fr.refl _ _⟩
  case round =>
    obtain ⟨k, hk, rfl, hn, hfr⟩ := hrel
    have HN := Lib.hid hn
    clear hn
    by_cases hks : k < xs.length
    · rcases (hv.frNone hfr).2 with ⟨_, _, _, e, _⟩ | ⟨bk, of, c, hf, h1, h2, h3, h4⟩
      · rw [e] at hks; exact absurd hks (Nat.not_lt_zero _)
      · cases hf
        unfold maxLen at h2
        have hat := Lib.hid (List.getElem?_eq_getElem hks)
        have hcell := h4 k _ hat.out
        have hmem := Lib.hid (List.getElem_mem hks)
        generalize xs[k] = x at hat hcell hmem
        have hcall := Lib.hid (hp x hmem.out wr hfr)
        have hxk := (hone.out x hmem.out).1
        clear h4
        cases hpx : p x
        · have hnx := Lib.hid (any_take_succ hat.out HN.out hpx)
          go_wp2_with (first | ((with_reducible refine wpList_at ⟨some 15, _, _, _, _, _⟩ ?_); go_must (refine wpList_load_mid rfl 64 (.tmp 14) rfl bk (of + k * 12) rfl x _ hcell Tryz.underlying64 rfl (sizePa hxk) ?_)) | fail)
          refine hcall.out.mono ?_
          rintro e w1 ⟨rfl, hf1⟩
          rw [hpx]
          go_wp2
          go_roundw
          case rel => exact ⟨k + 1, by omega, by go_num, hnx.out, hfr.trans hf1⟩
          case measure => simp [intOf]; omega
        · have hfin := Lib.hid (idxP_hit (i := 0) hat.out hpx HN.out)
          go_wp2_with (first | ((with_reducible refine wpList_at ⟨some 15, _, _, _, _, _⟩ ?_); go_must (refine wpList_load_mid rfl 64 (.tmp 14) rfl bk (of + k * 12) rfl x _ hcell Tryz.underlying64 rfl (sizePa hxk) ?_)) | fail)
          refine hcall.out.mono ?_
          rintro e w1 ⟨rfl, hf1⟩
          rw [hpx]
          go_wp2
          go_ret
          rw [hfin.out, Nat.zero_add]
          exact ⟨rfl, hfr.trans hf1⟩
    · have hfin := Lib.hid (show idxP p xs 0 = -1 from idxP_none (by have h := HN.out; rw [List.take_of_length_le (by omega)] at h; exact h))
      go_wp2
      go_ret
      rw [hfin.out]
      exact ⟨rfl, hfr⟩

set_option maxHeartbeats 1000000 in
theorem ContainsFunc_Pa (g : Nat) (cap : Array Value) (p : List Value → Bool) (v : Value) (xs : List (List Value)) (w : World) (eg : ∀ args w, (callFunc g args).run Tryz.prog w = .ok (.enter g args) w) (hp : AnswersK noB w g cap p xs) (hv : RowsAt 12 w v xs) :
    Calls Tryz.prog 80 #[v, .func (.func g) #[] cap] w fun e w' => e = .returned (.bool (xs.any p)) ∧ Fr noB w w' := by
  have hb := Lib.hid (idxP_any p xs 0)
  go_enter Tryz.func80, Tryz.ntmps80
  go_wp2_with fail
  refine (IndexFunc_Pa g cap p v xs w eg hp hv).mono ?_
  rintro e w1 ⟨rfl, hf1⟩
  go_wp2
  go_ret
  exact ⟨ret_bool hb.out, hf1⟩

end Go.Proofs.YtkoobhgedoanhaaGreatDoor

namespace Go.Proofs.YtkoobhgedoanhaaGreatDoor
open Go.RowKit

/-- a request; D: what its headers are -/
structure ReqOf (D : Type) where
  part : Int
  frm : Ori
  o : Ori
  path : ByteArray
  query : ByteArray
  method : ByteArray
  heads : D
  wth : Bool
  body : ByteArray
def ReqOf.cells (r : ReqOf Value) : List Value := [.int .i64 r.part, .bool r.frm.secure, .string r.frm.host, .int .i64 r.frm.port, .bool r.o.secure, .string r.o.host, .int .i64 r.o.port, .string r.path, .string r.query, .string r.method, r.heads, .bool r.wth, .string r.body]
def ReqOf.toL {D : Type} (r : ReqOf D) (hs : List Prm) : ReqL := ⟨r.frm, r.o, r.path, r.query, r.method, hs, r.wth⟩
/-- v reads as the passes ps -/
def PasAt (w : World) (v : Value) (ps : List Pas) : Prop := RowsAt 12 w v (ps.map Pas.cells)
def pasC (x : List Value) : Pas := ⟨⟨cB x 0, cS x 1, cI x 2⟩, ⟨cB x 3, cS x 4, cI x 5⟩, cS x 6, cS x 7, cB x 8, cS x 9, cS x 10, cI x 11⟩
theorem pasC_cells (p : Pas) : pasC p.cells = p := rfl
theorem any_pasC (ps : List Pas) (f : Pas → Bool) : (ps.map Pas.cells).any (fun x => f (pasC x)) = ps.any f := by
  rw [List.any_map]; rfl
set_option maxHeartbeats 1000000 in
set_option maxRecDepth 100000 in
theorem Cov2_any (p : Pas) (m : ByteArray) (r : ReqOf Value) (bm br : Nat) (w : World) (hm : w.heap[bm]? = some (.cells #[.string m] 9 (0, 0))) (hr : w.heap[br]? = some (.cells r.cells.toArray 53 (0, 0))) :
    Calls Tryz.prog 82 #[.agg p.cells.toArray, .pointer (some ⟨bm, 0, none⟩), .pointer (some ⟨br, 0, none⟩)] w fun e w' => e = .returned (.bool (p.lets m r.wth)) ∧ Fr noB w w' := by
  unfold Pas.cells
  unfold ReqOf.cells at hr
  have hfa : Fr noB w _ := (Fr.refl noB w).alloc (.cells #[.bool p.frm.secure, .string p.frm.host, .int .i64 p.frm.port, .bool p.o.secure, .string p.o.host, .int .i64 p.o.port, .string p.path, .string p.query, .bool p.wth, .string p.method, .string p.head, .int .i64 p.til] 64)
  have hm2 := hfa.keep hm (fun h => h)
  have hr2 := hfa.keep hr (fun h => h)
  have cm : (w.alloc (.cells #[.bool p.frm.secure, .string p.frm.host, .int .i64 p.frm.port, .bool p.o.secure, .string p.o.host, .int .i64 p.o.port, .string p.path, .string p.query, .bool p.wth, .string p.method, .string p.head, .int .i64 p.til] 64)).cell? ⟨bm, 0, none⟩ = some (.string m) := by simp [World.cell?, hm2]
  clear hm2
  have HFA := Lib.hid hfa
  cases e1 : (p.method.toList == m.toList)
  · cases e2 : (p.method.toList == star)
    · have HR := Lib.hid (show p.lets m r.wth = false by unfold Pas.lets; rw [e1, e2]; rfl)
      have e2' : (p.method.toList == [42]) = false := e2
      clear hfa hm hr e2
      go_enter Tryz.func82, Tryz.ntmps82
      go_wp2
      go_ret
      exact ⟨by rw [HR.out]; rfl, HFA.out⟩
    · have e2' : (p.method.toList == [42]) = true := e2
      have cw : (w.alloc (.cells #[.bool p.frm.secure, .string p.frm.host, .int .i64 p.frm.port, .bool p.o.secure, .string p.o.host, .int .i64 p.o.port, .string p.path, .string p.query, .bool p.wth, .string p.method, .string p.head, .int .i64 p.til] 64)).cell? ⟨br, 11, none⟩ = some (.bool r.wth) := by simp [World.cell?, hr2]
      cases e3 : r.wth
      · have HR := Lib.hid (show p.lets m false = true by unfold Pas.lets; rw [e1, e2]; rfl)
        rw [e3] at cw
        clear hfa hm hr e2 hr2 e3
        go_enter Tryz.func82, Tryz.ntmps82
        go_wp2
        go_ret
        exact ⟨by rw [HR.out]; rfl, HFA.out⟩
      · have HR := Lib.hid (show p.lets m true = false by unfold Pas.lets; rw [e1, e2]; rfl)
        rw [e3] at cw
        clear hfa hm hr e2 hr2 e3
        go_enter Tryz.func82, Tryz.ntmps82
        go_wp2
        go_ret
        exact ⟨by rw [HR.out]; rfl, HFA.out⟩
  · have HR := Lib.hid (show p.lets m r.wth = true by unfold Pas.lets; rw [e1]; rfl)
    clear hfa hm hr
    go_enter Tryz.func82, Tryz.ntmps82
    go_wp2
    go_ret
    exact ⟨by rw [HR.out]; rfl, HFA.out⟩
set_option maxHeartbeats 1000000 in
set_option maxRecDepth 100000 in
theorem Cov3_any (p : Pas) (m : ByteArray) (r : ReqOf Value) (bm br : Nat) (w : World) (hm : w.heap[bm]? = some (.cells #[.string m] 9 (0, 0))) (hr : w.heap[br]? = some (.cells r.cells.toArray 53 (0, 0))) :
    Calls Tryz.prog 84 #[.agg p.cells.toArray, .pointer (some ⟨bm, 0, none⟩), .pointer (some ⟨br, 0, none⟩)] w fun e w' => e = .returned (.bool (p.letsH m r.wth)) ∧ Fr noB w w' := by
  unfold Pas.cells
  unfold ReqOf.cells at hr
  have hfa : Fr noB w _ := (Fr.refl noB w).alloc (.cells #[.bool p.frm.secure, .string p.frm.host, .int .i64 p.frm.port, .bool p.o.secure, .string p.o.host, .int .i64 p.o.port, .string p.path, .string p.query, .bool p.wth, .string p.method, .string p.head, .int .i64 p.til] 64)
  have hm2 := hfa.keep hm (fun h => h)
  have hr2 := hfa.keep hr (fun h => h)
  have cm : (w.alloc (.cells #[.bool p.frm.secure, .string p.frm.host, .int .i64 p.frm.port, .bool p.o.secure, .string p.o.host, .int .i64 p.o.port, .string p.path, .string p.query, .bool p.wth, .string p.method, .string p.head, .int .i64 p.til] 64)).cell? ⟨bm, 0, none⟩ = some (.string m) := by simp [World.cell?, hm2]
  clear hm2
  have HFA := Lib.hid hfa
  cases e1 : (p.head.toList == m.toList)
  · cases e2 : (p.head.toList == star)
    · have HR := Lib.hid (show p.letsH m r.wth = false by unfold Pas.letsH; rw [e1, e2]; rfl)
      have e2' : (p.head.toList == [42]) = false := e2
      clear hfa hm hr e2
      go_enter Tryz.func84, Tryz.ntmps84
      go_wp2
      go_ret
      exact ⟨by rw [HR.out]; rfl, HFA.out⟩
    · have e2' : (p.head.toList == [42]) = true := e2
      have cw : (w.alloc (.cells #[.bool p.frm.secure, .string p.frm.host, .int .i64 p.frm.port, .bool p.o.secure, .string p.o.host, .int .i64 p.o.port, .string p.path, .string p.query, .bool p.wth, .string p.method, .string p.head, .int .i64 p.til] 64)).cell? ⟨br, 11, none⟩ = some (.bool r.wth) := by simp [World.cell?, hr2]
      cases e3 : r.wth
      · rw [e3] at cw
        cases e4 : (m.toList == authz)
        · have HR := Lib.hid (show p.letsH m false = true by unfold Pas.letsH; rw [e1, e2]; unfold bne; rw [e4]; rfl)
          have e4' : (m.toList == [97, 117, 116, 104, 111, 114, 105, 122, 97, 116, 105, 111, 110]) = false := e4
          clear hfa hm hr e2 hr2 e3 e4
          go_enter Tryz.func84, Tryz.ntmps84
          go_wp2
          go_ret
          exact ⟨by rw [HR.out]; rfl, HFA.out⟩
        · have HR := Lib.hid (show p.letsH m false = false by unfold Pas.letsH; rw [e1, e2]; unfold bne; rw [e4]; rfl)
          have e4' : (m.toList == [97, 117, 116, 104, 111, 114, 105, 122, 97, 116, 105, 111, 110]) = true := e4
          clear hfa hm hr e2 hr2 e3 e4
          go_enter Tryz.func84, Tryz.ntmps84
          go_wp2
          go_ret
          exact ⟨by rw [HR.out]; rfl, HFA.out⟩
      · have HR := Lib.hid (show p.letsH m true = false by unfold Pas.letsH; rw [e1, e2]; rfl)
        rw [e3] at cw
        clear hfa hm hr e2 hr2 e3
        go_enter Tryz.func84, Tryz.ntmps84
        go_wp2
        go_ret
        exact ⟨by rw [HR.out]; rfl, HFA.out⟩
  · have HR := Lib.hid (show p.letsH m r.wth = true by unfold Pas.letsH; rw [e1]; rfl)
    clear hfa hm hr
    go_enter Tryz.func84, Tryz.ntmps84
    go_wp2
    go_ret
    exact ⟨by rw [HR.out]; rfl, HFA.out⟩
/-- the closure has -/
theorem Cov1_any (g : Nat) (cap : Array Value) (p : List Value → Bool) (v : Value) (xs : List (List Value)) (bl : Nat) (w : World) (eg : ∀ args w, (callFunc g args).run Tryz.prog w = .ok (.enter g args) w) (hp : AnswersK noB w g cap p xs) (hv : RowsAt 12 w v xs) (hl : w.heap[bl]? = some (.cells #[v] 60 (0, 0))) :
    Calls Tryz.prog 79 #[.func (.func g) #[] cap, .pointer (some ⟨bl, 0, none⟩)] w fun e w' => e = .returned (.bool (xs.any p)) ∧ Fr noB w w' := by
  have hc := Lib.hid (ContainsFunc_Pa g cap p v xs w eg hp hv)
  obtain ⟨av, cv, rfl⟩ := hv.form
  have c0 : w.cell? ⟨bl, 0, none⟩ = some (.slice av xs.length cv) := by simp [World.cell?, hl]
  clear hv hl hp
  go_enter Tryz.func79, Tryz.ntmps79
  go_wp2_with fail
  refine hc.out.mono ?_
  rintro e u ⟨rfl, hf⟩
  go_wp2
  go_ret
  exact ⟨rfl, hf⟩

/-- a request of sizes that can be -/
def ReqOk (r : ReqOf Value) (hs : List Prm) : Prop := r.method.size < 100000 ∧ hs.length < 100000 ∧ ∀ p ∈ hs, p.1.size < 100000 ∧ p.2.size < 100000
def CvRel (hs : List ByteArray) (wth : Bool) (ps : List Pas) (w : World) (t : Value) (wr : World) : Prop :=
  ∃ k : Nat, k ≤ hs.length ∧ t = .int .i64 k ∧ (hs.take k).all (fun h => ps.any (Pas.letsH h wth)) = true ∧ Fr noB w wr
theorem cv_take_succ {α : Type} {p : α → Bool} {l : List α} {k : Nat} {x : α} (h : l[k]? = some x) (hn : (l.take k).all p = true) (hp : p x = true) : (l.take (k + 1)).all p = true := by
  rw [take_snocG h, List.all_append, hn]; simp [hp]
theorem cv_all_not {α : Type} {p : α → Bool} {l : List α} {k : Nat} {x : α} (h : l[k]? = some x) (hp : p x = false) : l.all p = false := by
  rw [List.all_eq_false]; exact ⟨x, List.mem_of_getElem? h, by simp [hp]⟩
set_option maxRecDepth 100000 in
set_option maxHeartbeats 4000000 in
theorem Covers_any (r : ReqOf Value) (hs : List Prm) (v : Value) (ps : List Pas) (w : World) (hr : PrmsAt w r.heads hs) (hv : PasAt w v ps) (hz : ReqOk r hs) :
    Calls Tryz.prog 30 #[.agg r.cells.toArray, v] w fun e w' => e = .returned (.bool ((r.toL hs).covers ps)) ∧ Fr noB w w' := by
  have HRES := Lib.hid (show (r.toL hs).covers ps = ((simpleB (methodB r.method) || ps.any (Pas.lets (methodB r.method) r.wth)) && (askedB hs).all fun h => ps.any (Pas.letsH h r.wth)) from rfl)
  generalize (r.toL hs).covers ps = res at HRES ⊢
  obtain ⟨av, cv, hvf⟩ := RowsAt.form hv
  rw [List.length_map] at hvf
  subst hvf
  obtain ⟨ah, ch, hhf⟩ := RowsAt.form hr
  rw [List.length_map] at hhf
  obtain ⟨rc, hrc⟩ : ∃ rc, rc = r.cells.toArray := ⟨_, rfl⟩
  obtain ⟨wb, hwb⟩ : ∃ wb, wb = (w.alloc (.cells rc 53)).alloc (.cells #[.slice av ps.length cv] 60) := ⟨_, rfl⟩
  have hfb : Fr noB w wb := by rw [hwb]; exact ((Fr.refl noB w).alloc _).alloc _
  have hsb : wb.heap.size = w.heap.size + 2 := by rw [hwb]; simp
  have hk1 : wb.heap[w.heap.size]? = some (.cells rc 53 (0, 0)) := by rw [hwb]; exact ((Fr.refl noB _).alloc _).keep (new_block _ _) (fun h => h)
  have hk2 : wb.heap[w.heap.size + 1]? = some (.cells #[.slice av ps.length cv] 60 (0, 0)) := by
    have h := new_block (w.alloc (.cells rc 53)) (.cells #[.slice av ps.length cv] 60)
    rw [World.size_alloc] at h
    rw [hwb]; exact h
  have HC := Lib.hid (show ∀ U, Fr noB wb U → U.heap[w.heap.size]? = some (.cells r.cells.toArray 53 (0, 0)) ∧ U.heap[w.heap.size + 1]? = some (.cells #[.slice av ps.length cv] 60 (0, 0)) from fun U hU => ⟨by rw [← hrc]; exact hU.keep hk1 (fun h => h), hU.keep hk2 (fun h => h)⟩)
  have HX := Lib.hid (show ∀ U, Fr noB wb U → U.cell? ⟨w.heap.size, 9, none⟩ = some (.string r.method) ∧ U.cell? ⟨w.heap.size, 10, none⟩ = some (.slice ah hs.length ch) from fun U hU => by
    have j := (HC.out U hU).1
    unfold ReqOf.cells at j
    rw [hhf] at j
    simp [World.cell?, j])
  have HV := Lib.hid (show ∀ U, Fr noB w U → PasAt U (.slice av ps.length cv) ps from fun U hU => RowsAt.frNone hv hU)
  have HH := Lib.hid (show ∀ U, Fr noB w U → PrmsAt U (.slice ah hs.length ch) hs from fun U hU => by rw [← hhf]; exact RowsAt.frNone hr hU)
  have HZ := Lib.hid hz
  have HFB := Lib.hid hfb
  have HWB := Lib.hid hwb
  have HRC := Lib.hid hrc
  clear hv hr hz hfb hwb hk1 hk2
  rw [← hrc]
  clear hrc
  obtain ⟨c9, c10⟩ := HX.out wb (Fr.refl _ _)
  rw [HWB.out] at c9 c10
  go_enter Tryz.func30, Tryz.ntmps30
  go_wp2_with fail
  rw [← HWB.out]
  refine (Method_any r.method wb HZ.out.1).mono ?_
  rintro e u1 ⟨rfl, hf1⟩
  obtain ⟨m, hm⟩ : ∃ m, m = methodB r.method := ⟨_, rfl⟩
  rw [← hm] at HRES ⊢
  clear hm
  obtain ⟨w1, hw1⟩ : ∃ w1, w1 = u1.alloc (.cells #[.string m] 9) := ⟨_, rfl⟩
  have hmb : w1.heap[u1.heap.size]? = some (.cells #[.string m] 9 (0, 0)) := by rw [hw1]; exact new_block _ _
  have hf2 : Fr noB wb w1 := by rw [hw1]; exact hf1.alloc _
  have HW1 := Lib.hid hw1
  have HF1 := Lib.hid hf2
  have k0 : w1.cell? ⟨u1.heap.size, 0, none⟩ = some (.string m) := by simp [World.cell?, hmb]
  have HMB := Lib.hid hmb
  clear hf1 hf2 c9 c10 hw1 hmb
  go_wp2_with fail
  rw [← HW1.out]
  refine (Simple_any m w1).mono ?_
  rintro e u2 ⟨rfl, rfl⟩
  -- the method is allowed
  have HC2 := Lib.hid (show Calls Tryz.prog 79 #[.func (.func 82) #[] #[.pointer (some ⟨u1.heap.size, 0, none⟩), .pointer (some ⟨w.heap.size, 0, none⟩)], .pointer (some ⟨w.heap.size + 1, 0, none⟩)] w1 fun e w' => e = .returned (.bool (ps.any (Pas.lets m r.wth))) ∧ Fr noB w1 w' from by
    rw [← any_pasC]
    refine Cov1_any _ _ (fun x => Pas.lets m r.wth (pasC x)) _ _ _ w1 Tryz.call82 ?_ (HV.out w1 (HFB.out.trans HF1.out)) (HC.out w1 HF1.out).2
    intro x hx u hu
    obtain ⟨p, hp, rfl⟩ := List.mem_map.1 hx
    exact Cov2_any p m r _ _ u (hu.keep HMB.out (fun h => h)) ((HC.out u (HF1.out.trans hu)).1))
  cases hsm : simpleB m
  · cases hml : ps.any (Pas.lets m r.wth)
    · have HR := Lib.hid (show res = false by rw [HRES.out, hsm, hml]; rfl)
      rw [hml] at HC2
      clear hsm hml HRES
      go_wp2_with fail
      refine HC2.out.mono ?_
      rintro e u3 ⟨rfl, hf3⟩
      go_wp2
      go_ret
      exact ⟨by rw [HR.out]; rfl, (HFB.out.trans HF1.out).trans hf3⟩
    · have HRA := Lib.hid (show res = (askedB hs).all (fun h => ps.any (Pas.letsH h r.wth)) by rw [HRES.out, hsm, hml]; rfl)
      rw [hml] at HC2
      clear hsm hml HRES
      go_wp2_with fail
      refine HC2.out.mono ?_
      rintro e u3 ⟨rfl, hf3⟩
      have HF3 := Lib.hid (HF1.out.trans hf3)
      obtain ⟨c9, c10⟩ := HX.out _ HF3.out
      clear hf3 HC2
      go_wp2_with fail
      refine (Asked_any hs _ u3 (HH.out u3 (HFB.out.trans HF3.out)) HZ.out.2.1 HZ.out.2.2).mono ?_
      rintro e u4 ⟨uv, rfl, hst, hf4⟩
      obtain ⟨au, cu, huf⟩ := hst.form
      obtain ⟨nl, hnl⟩ : ∃ nl, nl = askedB hs := ⟨_, rfl⟩
      rw [← hnl] at hst huf HRA
      subst huf
      have HF4 := Lib.hid (HF3.out.trans hf4)
      have HST := Lib.hid hst.at
      clear hf4 hst hnl c9 c10
      go_wp2
      go_loopw [26] (CvRel nl r.wth ps u4) (fun i _ => nl.length - (intOf i).toNat)
      case atStart => exact ⟨0, Nat.zero_le _, rfl, rfl, Fr.refl _ _⟩
      case round =>
        obtain ⟨k, hk, rfl, hall, hfr⟩ := hrel
        have HAL := Lib.hid hall
        clear hall
        by_cases hks : k < nl.length
        · have hki : (k : Int) < (nl.length : Int) := by omega
          rcases HST.out.frNone hfr with ⟨_, _, _, e, _⟩ | ⟨bk, o, c, hf, h1, h2, h3, h4⟩
          · rw [e] at hks; exact absurd hks (Nat.not_lt_zero _)
          · cases hf
            unfold maxLen at h2
            have hat := Lib.hid (List.getElem?_eq_getElem hks)
            have hc := h4 k _ hat.out
            generalize nl[k] = x at hat hc
            clear h4
            obtain ⟨wx, hwx⟩ : ∃ wx, wx = wr.alloc (.cells #[.string x] 9) := ⟨_, rfl⟩
            have hxb : wx.heap[wr.heap.size]? = some (.cells #[.string x] 9 (0, 0)) := by rw [hwx]; exact new_block _ _
            have hfx : Fr noB wr wx := by rw [hwx]; exact (Fr.refl _ _).alloc _
            have HFX := Lib.hid ((HF4.out.trans hfr).trans hfx)
            have HCX := Lib.hid (show Calls Tryz.prog 79 #[.func (.func 84) #[] #[.pointer (some ⟨wr.heap.size, 0, none⟩), .pointer (some ⟨w.heap.size, 0, none⟩)], .pointer (some ⟨w.heap.size + 1, 0, none⟩)] wx fun e w' => e = .returned (.bool (ps.any (Pas.letsH x r.wth))) ∧ Fr noB wx w' from by
              rw [← any_pasC]
              refine Cov1_any _ _ (fun y => Pas.letsH x r.wth (pasC y)) _ _ _ wx Tryz.call84 ?_ (HV.out wx (HFB.out.trans HFX.out)) (HC.out wx HFX.out).2
              intro y hy u hu
              obtain ⟨p, hp, rfl⟩ := List.mem_map.1 hy
              exact Cov3_any p x r _ _ u (hu.keep hxb (fun h => h)) ((HC.out u (HFX.out.trans hu)).1))
            have HWX := Lib.hid hwx
            have HFR := Lib.hid (hfr.trans hfx)
            clear hwx
            cases hany : ps.any (Pas.letsH x r.wth)
            · have HR := Lib.hid (show res = false by rw [HRA.out]; exact cv_all_not hat.out hany)
              rw [hany] at HCX
              clear hany
              go_wp2_with fail
              rw [← HWX.out]
              refine HCX.out.mono ?_
              rintro e u6 ⟨rfl, hf6⟩
              go_wp2
              go_ret
              exact ⟨by rw [HR.out]; rfl, (HFB.out.trans HFX.out).trans hf6⟩
            · have hnx := Lib.hid (cv_take_succ hat.out HAL.out hany)
              rw [hany] at HCX
              clear hany
              go_wp2_with fail
              rw [← HWX.out]
              refine HCX.out.mono ?_
              rintro e u6 ⟨rfl, hf6⟩
              go_wp2
              go_roundw
              case rel => exact ⟨k + 1, by omega, by go_num, hnx.out, HFR.out.trans hf6⟩
              case measure => simp [intOf]; omega
        · have hki : ¬ (k : Int) < (nl.length : Int) := by omega
          have HR := Lib.hid (show res = true by rw [HRA.out]; have h := HAL.out; rwa [List.take_of_length_le (by omega)] at h)
          go_wp2
          go_ret
          exact ⟨by rw [HR.out]; rfl, HFB.out.trans (HF4.out.trans hfr)⟩
  · have HRA := Lib.hid (show res = (askedB hs).all (fun h => ps.any (Pas.letsH h r.wth)) by rw [HRES.out, hsm]; simp)
    clear hsm HRES HC2
    obtain ⟨c9, c10⟩ := HX.out _ HF1.out
    go_wp2_with fail
    refine (Asked_any hs _ w1 (HH.out w1 (HFB.out.trans HF1.out)) HZ.out.2.1 HZ.out.2.2).mono ?_
    rintro e u4 ⟨uv, rfl, hst, hf4⟩
    obtain ⟨au, cu, huf⟩ := hst.form
    obtain ⟨nl, hnl⟩ : ∃ nl, nl = askedB hs := ⟨_, rfl⟩
    rw [← hnl] at hst huf HRA
    subst huf
    have HF4 := Lib.hid (HF1.out.trans hf4)
    have HST := Lib.hid hst.at
    clear hf4 hst hnl c9 c10
    go_wp2
    go_loopw [26] (CvRel nl r.wth ps u4) (fun i _ => nl.length - (intOf i).toNat)
    case atStart => exact ⟨0, Nat.zero_le _, rfl, rfl, Fr.refl _ _⟩
    case round =>
      obtain ⟨k, hk, rfl, hall, hfr⟩ := hrel
      have HAL := Lib.hid hall
      clear hall
      by_cases hks : k < nl.length
      · have hki : (k : Int) < (nl.length : Int) := by omega
        rcases HST.out.frNone hfr with ⟨_, _, _, e, _⟩ | ⟨bk, o, c, hf, h1, h2, h3, h4⟩
        · rw [e] at hks; exact absurd hks (Nat.not_lt_zero _)
        · cases hf
          unfold maxLen at h2
          have hat := Lib.hid (List.getElem?_eq_getElem hks)
          have hc := h4 k _ hat.out
          generalize nl[k] = x at hat hc
          clear h4
          obtain ⟨wx, hwx⟩ : ∃ wx, wx = wr.alloc (.cells #[.string x] 9) := ⟨_, rfl⟩
          have hxb : wx.heap[wr.heap.size]? = some (.cells #[.string x] 9 (0, 0)) := by rw [hwx]; exact new_block _ _
          have hfx : Fr noB wr wx := by rw [hwx]; exact (Fr.refl _ _).alloc _
          have HFX := Lib.hid ((HF4.out.trans hfr).trans hfx)
          have HCX := Lib.hid (show Calls Tryz.prog 79 #[.func (.func 84) #[] #[.pointer (some ⟨wr.heap.size, 0, none⟩), .pointer (some ⟨w.heap.size, 0, none⟩)], .pointer (some ⟨w.heap.size + 1, 0, none⟩)] wx fun e w' => e = .returned (.bool (ps.any (Pas.letsH x r.wth))) ∧ Fr noB wx w' from by
            rw [← any_pasC]
            refine Cov1_any _ _ (fun y => Pas.letsH x r.wth (pasC y)) _ _ _ wx Tryz.call84 ?_ (HV.out wx (HFB.out.trans HFX.out)) (HC.out wx HFX.out).2
            intro y hy u hu
            obtain ⟨p, hp, rfl⟩ := List.mem_map.1 hy
            exact Cov3_any p x r _ _ u (hu.keep hxb (fun h => h)) ((HC.out u (HFX.out.trans hu)).1))
          have HWX := Lib.hid hwx
          have HFR := Lib.hid (hfr.trans hfx)
          clear hwx
          cases hany : ps.any (Pas.letsH x r.wth)
          · have HR := Lib.hid (show res = false by rw [HRA.out]; exact cv_all_not hat.out hany)
            rw [hany] at HCX
            clear hany
            go_wp2_with fail
            rw [← HWX.out]
            refine HCX.out.mono ?_
            rintro e u6 ⟨rfl, hf6⟩
            go_wp2
            go_ret
            exact ⟨by rw [HR.out]; rfl, (HFB.out.trans HFX.out).trans hf6⟩
          · have hnx := Lib.hid (cv_take_succ hat.out HAL.out hany)
            rw [hany] at HCX
            clear hany
            go_wp2_with fail
            rw [← HWX.out]
            refine HCX.out.mono ?_
            rintro e u6 ⟨rfl, hf6⟩
            go_wp2
            go_roundw
            case rel => exact ⟨k + 1, by omega, by go_num, hnx.out, HFR.out.trans hf6⟩
            case measure => simp [intOf]; omega
      · have hki : ¬ (k : Int) < (nl.length : Int) := by omega
        have HR := Lib.hid (show res = true by rw [HRA.out]; have h := HAL.out; rwa [List.take_of_length_le (by omega)] at h)
        go_wp2
        go_ret
        exact ⟨by rw [HR.out]; rfl, HFB.out.trans (HF4.out.trans hfr)⟩

set_option maxRecDepth 100000 in
set_option maxHeartbeats 4000000 in
theorem Needs_any (r : ReqOf Value) (hs : List Prm) (w : World) (hr : PrmsAt w r.heads hs) (hz : ReqOk r hs) :
    Calls Tryz.prog 31 #[.agg r.cells.toArray] w fun e w' => e = .returned (.bool (r.toL hs).needs) ∧ Fr noB w w' := by
  have HRES := Lib.hid (show (r.toL hs).needs = (!r.frm.eqB r.o && !(r.toL hs).covers []) from rfl)
  generalize (r.toL hs).needs = res at HRES ⊢
  have hne := run_neq_ori r.frm r.o
  obtain ⟨wb, hwb⟩ : ∃ wb, wb = w.alloc (.cells r.cells.toArray 53) := ⟨_, rfl⟩
  have hfb : Fr noB w wb := by rw [hwb]; exact (Fr.refl noB w).alloc _
  have hk1 : wb.heap[w.heap.size]? = some (.cells r.cells.toArray 53 (0, 0)) := by rw [hwb]; exact new_block _ _
  have hfld : ∀ i u, r.cells[i]? = some u → wb.cell? ⟨w.heap.size, i, none⟩ = some u := fun i u hu => by
    simp only [World.cell?, hk1]; simpa using hu
  have c1 := hfld 1 _ rfl
  have c2 := hfld 2 _ rfl
  have c3 := hfld 3 _ rfl
  have c4 := hfld 4 _ rfl
  have c5 := hfld 5 _ rfl
  have c6 := hfld 6 _ rfl
  have HCV := Lib.hid (Covers_any r hs (.slice none 0 0) [] wb (RowsAt.frNone hr hfb) (show RowsAt 12 wb _ [] from ⟨by simp, Or.inl ⟨_, _, rfl, rfl, fun _ => rfl⟩⟩) hz)
  have HFB := Lib.hid hfb
  have c7 := hfld 7 _ rfl
  have c8 := hfld 8 _ rfl
  have c9 := hfld 9 _ rfl
  have c10 := hfld 10 _ rfl
  have c11 := hfld 11 _ rfl
  have c12 := hfld 12 _ rfl
  have c0 := hfld 0 _ rfl
  obtain ⟨ah, ch, hhf⟩ := RowsAt.form hr
  rw [List.length_map] at hhf
  have hrc : r.cells = [.int .i64 r.part, .bool r.frm.secure, .string r.frm.host, .int .i64 r.frm.port, .bool r.o.secure, .string r.o.host, .int .i64 r.o.port, .string r.path, .string r.query, .string r.method, .slice ah hs.length ch, .bool r.wth, .string r.body] := by unfold ReqOf.cells; rw [hhf]
  rw [hhf] at c10
  rw [hrc] at HCV hwb ⊢
  have HWB := Lib.hid hwb
  clear hhf hrc hfld hk1 hfb hwb hr hz
  cases e1 : r.frm.eqB r.o
  · have HR := Lib.hid (show res = !(r.toL hs).covers [] by rw [HRES.out, e1]; rfl)
    rw [e1] at hne
    clear HRES e1
    rw [HWB.out] at c0 c1 c2 c3 c4 c5 c6 c7 c8 c9 c10 c11 c12
    go_enter Tryz.func31, Tryz.ntmps31
    go_wp2_with fail
    rw [← HWB.out]
    refine HCV.out.mono ?_
    rintro e u ⟨rfl, hf⟩
    go_wp2
    go_ret
    exact ⟨by rw [HR.out]; rfl, HFB.out.trans hf⟩
  · have HR := Lib.hid (show res = false by rw [HRES.out, e1]; rfl)
    rw [e1] at hne
    clear HRES e1
    rw [HWB.out] at c0 c1 c2 c3 c4 c5 c6 c7 c8 c9 c10 c11 c12
    have HF := Lib.hid (HWB.out ▸ HFB.out)
    go_enter Tryz.func31, Tryz.ntmps31
    go_wp2
    go_ret
    exact ⟨by rw [HR.out]; rfl, HF.out⟩
end Go.Proofs.YtkoobhgedoanhaaGreatDoor

namespace Go.Proofs.YtkoobhgedoanhaaGreatDoor
open Go.RowKit

theorem run_eqPas (p q : Pas) (w : World) : (binOp .eql 64 (.agg p.cells.toArray) (.agg q.cells.toArray)).run Tryz.prog w = .ok (.bool (p.eqB q)) w := by
  obtain ⟨⟨a, b, c⟩, ⟨d, e, f⟩, g, i, j, k, l, m⟩ := p
  obtain ⟨⟨a', b', c'⟩, ⟨d', e', f'⟩, g', i', j', k', l', m'⟩ := q
  unfold Pas.cells
  go_simp
  simp only [show ∀ (P : Prop) [Decidable P] (W : World) (b : Bool), (if P then (Result.ok (Value.bool b) W : Result Value) else .ok (.bool false) W) = .ok (.bool (decide P && b)) W from fun P _ W b => by by_cases h : P <;> simp [h]]
  congr 2
  rw [Bool.eq_iff_iff]
  simp only [Pas.eqB, Ori.eqB, Bool.and_eq_true, decide_eq_true_eq, beq_iff_eq, and_assoc, and_true]
/-- the twelve cells of a pass at a place -/
def PasLie (w : World) (b o : Nat) (p : Pas) : Prop :=
  w.cell? ⟨b, o, none⟩ = some (.bool p.frm.secure) ∧ w.cell? ⟨b, o + 1, none⟩ = some (.string p.frm.host) ∧ w.cell? ⟨b, o + 2, none⟩ = some (.int .i64 p.frm.port) ∧ w.cell? ⟨b, o + 3, none⟩ = some (.bool p.o.secure) ∧ w.cell? ⟨b, o + 4, none⟩ = some (.string p.o.host) ∧ w.cell? ⟨b, o + 5, none⟩ = some (.int .i64 p.o.port) ∧ w.cell? ⟨b, o + 6, none⟩ = some (.string p.path) ∧ w.cell? ⟨b, o + 7, none⟩ = some (.string p.query) ∧ w.cell? ⟨b, o + 8, none⟩ = some (.bool p.wth) ∧ w.cell? ⟨b, o + 9, none⟩ = some (.string p.method) ∧ w.cell? ⟨b, o + 10, none⟩ = some (.string p.head) ∧ w.cell? ⟨b, o + 11, none⟩ = some (.int .i64 p.til)
theorem PasLie.of {w : World} {b o : Nat} {p : Pas} (h : ∀ (i : Nat) u, p.cells[i]? = some u → w.cell? ⟨b, o + i, none⟩ = some u) : PasLie w b o p :=
  ⟨h 0 _ rfl, h 1 _ rfl, h 2 _ rfl, h 3 _ rfl, h 4 _ rfl, h 5 _ rfl, h 6 _ rfl, h 7 _ rfl, h 8 _ rfl, h 9 _ rfl, h 10 _ rfl, h 11 _ rfl⟩
theorem PasLie.blk {w : World} {b : Nat} {p : Pas} (h : w.heap[b]? = some (.cells p.cells.toArray 64 (0, 0))) : PasLie w b 0 p :=
  PasLie.of fun i u hu => by simp only [World.cell?, h]; simpa using hu
theorem PasAt.lie {w : World} {a : Option Addr} {c n : Nat} {ps : List Pas} (h : PasAt w (.slice a n c) ps) (hne : ps ≠ []) :
    ∃ bk of, a = some ⟨bk, of, none⟩ ∧ n = ps.length ∧ n ≤ c ∧ n ≤ maxLen ∧ bk < w.heap.size ∧ ∀ (j : Nat) q, ps[j]? = some q → PasLie w bk (of + j * 12) q := by
  rcases h.2 with ⟨_, _, _, e, _⟩ | ⟨bk, of, c', hf, g1, g2, g3, g4⟩
  · exact absurd (by simpa using e) hne
  · cases hf
    rw [List.length_map] at g1
    exact ⟨bk, of, rfl, by simp, by simpa using g1, by rw [List.length_map]; have h1 : ps.length ≤ c := g1; exact Nat.le_trans h1 g2, g3, fun j q hq => PasLie.of (g4 j q.cells (by rw [List.getElem?_map, hq]; rfl))⟩
def IxRel (w : World) (n : Nat) (f : Nat → Bool) (i : Value) (wr : World) : Prop := ∃ k : Nat, k ≤ n ∧ i = .int .i64 k ∧ f k = true ∧ Fr noB w wr
set_option maxRecDepth 100000 in
set_option maxHeartbeats 2000000 in
theorem Index_Pa (v : Value) (ps : List Pas) (p : Pas) (w : World) (h : PasAt w v ps) :
    Calls Tryz.prog 127 #[v, .agg p.cells.toArray] w fun e w' => e = .returned (.int .i64 (idxP (fun q => p.eqB q) ps 0)) ∧ Fr noB w w' := by
  obtain ⟨av, cv, hv⟩ := RowsAt.form h
  subst hv
  rw [List.length_map] at h ⊢
  have HQ := Lib.hid (run_eqPas p)
  obtain ⟨w1, hw1⟩ : ∃ w1, w1 = w.alloc (.cells p.cells.toArray 64) := ⟨_, rfl⟩
  have hf1 : Fr noB w w1 := by rw [hw1]; exact (Fr.refl _ _).alloc _
  have hk1 : w1.heap[w.heap.size]? = some (.cells p.cells.toArray 64 (0, 0)) := by rw [hw1]; exact new_block _ _
  have HP := Lib.hid (show ∀ U, Fr noB w1 U → PasLie U w.heap.size 0 p from fun U hU => PasLie.blk (hU.keep hk1 (fun h => h)))
  have HL := Lib.hid (show ∀ U, Fr noB w1 U → PasAt U (.slice av ps.length cv) ps from fun U hU => RowsAt.frNone h (hf1.trans hU))
  have HF1 := Lib.hid hf1
  have HW1 := Lib.hid hw1
  clear h hf1 hk1
  unfold Pas.cells at hw1 HQ ⊢
  go_enter Tryz.func127, Tryz.ntmps127
  go_wp2
  rw [← hw1]
  clear hw1
  go_loopw [8] (IxRel w1 ps.length (fun k => !(ps.take k).any (fun q => p.eqB q))) (fun i _ => ps.length - (intOf i).toNat)
  case atStart => exact ⟨0, Nat.zero_le _, rfl, rfl, Fr.refl _ _⟩
  case round =>
    obtain ⟨k, hk, rfl, hn, hfr⟩ := hrel
    have HN := Lib.hid (show (ps.take k).any (fun q => p.eqB q) = false by simpa using hn)
    clear hn
    by_cases hks : k < ps.length
    · have hki : (k : Int) < (ps.length : Int) := by omega
      have hki0 : (0 : Int) ≤ (k : Int) := by omega
      obtain ⟨bk, of, rfl, g1, g2, g3, g4, g5⟩ := PasAt.lie (HL.out wr hfr) (by intro e; rw [e] at hks; cases hks)
      unfold maxLen at g3
      have hat := Lib.hid (List.getElem?_eq_getElem hks)
      generalize ps[k] = q at hat
      obtain ⟨c0, c1, c2, c3, c4, c5, c6, c7, c8, c9, c10, c11⟩ := g5 k q hat.out
      obtain ⟨d0, d1, d2, d3, d4, d5, d6, d7, d8, d9, d10, d11⟩ := HP.out wr hfr
      simp only [Nat.zero_add] at d0 d1 d2 d3 d4 d5 d6 d7 d8 d9 d10 d11
      have heq := HQ.out q
      unfold Pas.cells at heq
      have hfd := hfr.drewN
      clear g1 g5
      cases he : p.eqB q
      · have hnx := Lib.hid (any_take_succ hat.out HN.out he)
        rw [he] at heq
        clear he
        go_wp2
        go_quiet (fail)
        go_wp2
        go_roundw
        case rel => exact ⟨k + 1, by omega, by go_num, by show (!(ps.take (k + 1)).any (fun q => p.eqB q)) = true; rw [hnx.out]; rfl, hfr.drewN _⟩
        case measure => simp [intOf]; omega
      · have hfin := Lib.hid (idxP_hit (i := 0) hat.out he HN.out)
        rw [he] at heq
        clear he
        go_wp2
        go_quiet (fail)
        go_wp2
        go_ret
        rw [hfin.out, Nat.zero_add]
        exact ⟨rfl, HF1.out.trans (hfr.drewN _)⟩
    · have hki : ¬ (k : Int) < (ps.length : Int) := by omega
      have hfin := Lib.hid (show idxP (fun q => p.eqB q) ps 0 = -1 from idxP_none (by have h := HN.out; rw [List.take_of_length_le (by omega)] at h; exact h))
      go_wp2
      go_ret
      rw [hfin.out]
      exact ⟨rfl, HF1.out.trans hfr⟩
set_option maxRecDepth 100000 in
set_option maxHeartbeats 1000000 in
theorem Contains_Pa (v : Value) (ps : List Pas) (p : Pas) (w : World) (h : PasAt w v ps) :
    Calls Tryz.prog 78 #[v, .agg p.cells.toArray] w fun e w' => e = .returned (.bool (ps.any (fun q => p.eqB q))) ∧ Fr noB w w' := by
  have hb := Lib.hid (idxP_any (fun q => p.eqB q) ps 0)
  have hf1 : Fr noB w (w.alloc (.cells p.cells.toArray 64)) := (Fr.refl _ _).alloc _
  have hk1 : (w.alloc (.cells p.cells.toArray 64)).heap[w.heap.size]? = some (.cells p.cells.toArray 64 (0, 0)) := new_block _ _
  have HC := Lib.hid (Index_Pa v ps p _ (RowsAt.frNone h hf1))
  obtain ⟨av, cv, hv⟩ := RowsAt.form h
  subst hv
  rw [List.length_map] at HC ⊢
  have HF1 := Lib.hid hf1
  have G := Lib.hid hk1
  clear h hf1 hk1
  unfold Pas.cells at *
  go_enter Tryz.func78, Tryz.ntmps78
  go_wp2_with (first | ((with_reducible refine wpList_at ⟨some 6, _, _, _, _, _⟩ ?_); go_must (refine wpList_load_row rfl 64 (.tmp 3) rfl w.heap.size rfl _ _ (0, 0) _ G.out Tryz.underlying64 rfl (by kernel_rfl) ?_)) | fail)
  refine HC.out.mono ?_
  rintro e w2 ⟨rfl, hf2⟩
  go_wp2
  go_ret
  exact ⟨ret_bool hb.out, HF1.out.trans hf2⟩
/-- a request's thirteen cells -/
def ReqLie (w : World) (b : Nat) (r : ReqOf Value) : Prop :=
  w.cell? ⟨b, 0, none⟩ = some (.int .i64 r.part) ∧ w.cell? ⟨b, 1, none⟩ = some (.bool r.frm.secure) ∧ w.cell? ⟨b, 2, none⟩ = some (.string r.frm.host) ∧ w.cell? ⟨b, 3, none⟩ = some (.int .i64 r.frm.port) ∧ w.cell? ⟨b, 4, none⟩ = some (.bool r.o.secure) ∧ w.cell? ⟨b, 5, none⟩ = some (.string r.o.host) ∧ w.cell? ⟨b, 6, none⟩ = some (.int .i64 r.o.port) ∧ w.cell? ⟨b, 7, none⟩ = some (.string r.path) ∧ w.cell? ⟨b, 8, none⟩ = some (.string r.query) ∧ w.cell? ⟨b, 9, none⟩ = some (.string r.method) ∧ w.cell? ⟨b, 10, none⟩ = some r.heads ∧ w.cell? ⟨b, 11, none⟩ = some (.bool r.wth) ∧ w.cell? ⟨b, 12, none⟩ = some (.string r.body)
theorem ReqLie.blk {w : World} {b : Nat} {r : ReqOf Value} (h : w.heap[b]? = some (.cells r.cells.toArray 53 (0, 0))) : ReqLie w b r := by
  have hc : ∀ i u, r.cells[i]? = some u → w.cell? ⟨b, i, none⟩ = some u := fun i u hu => by simp only [World.cell?, h]; simpa using hu
  exact ⟨hc 0 _ rfl, hc 1 _ rfl, hc 2 _ rfl, hc 3 _ rfl, hc 4 _ rfl, hc 5 _ rfl, hc 6 _ rfl, hc 7 _ rfl, hc 8 _ rfl, hc 9 _ rfl, hc 10 _ rfl, hc 11 _ rfl, hc 12 _ rfl⟩
end Go.Proofs.YtkoobhgedoanhaaGreatDoor

namespace Go.Proofs.YtkoobhgedoanhaaGreatDoor
open Go.RowKit

theorem buildPas (a d g : Bool) (b e p q m h : ByteArray) (c f t : Int) : Tryz.prog.built 64 [(0, .agg #[.bool a, .string b, .int .i64 c]), (1, .agg #[.bool d, .string e, .int .i64 f, .string p, .string q]), (2, .bool g), (3, .string m), (4, .string h), (5, .int .i64 t)] = some #[.bool a, .string b, .int .i64 c, .bool d, .string e, .int .i64 f, .string p, .string q, .bool g, .string m, .string h, .int .i64 t] := by kernel_rfl
theorem info_passG : (Tryz.prog.info? 64).map (fun i => (i.zero, i.size, i.bytes)) = some (some (.agg zPa), 12, 144) := by kernel_rfl
theorem OwnRows.kindPa {b k : Nat} {e : TypeId} {w : World} {v : Value} {xs : List (List Value)} (h : OwnRows b e k w v xs) {g : Nat} (hg : own v g) : ∃ c, w.heap[g]? = some (.cells c e (0, 0)) := by
  obtain ⟨cap, cur, _, _, h2, _⟩ := h.open hg
  exact ⟨cur, h2⟩
theorem pas_oneG (p : Pas) : ∀ u ∈ p.cells, u.oneCell' = true := by unfold Pas.cells; simp [Value.oneCell']
theorem any_comm (acc : List Pas) (X : Pas) : acc.any (fun q => q.eqB X) = acc.any (fun q => X.eqB q) := by
  congr 1; funext q
  rw [Bool.eq_iff_iff, Pas.eqB_iff, Pas.eqB_iff]
  exact eq_comm
theorem yields_build {P : Program} {ops : Array Oper} {S : World → Prop} {o : Oper} {a : Act} (hg : o.guard = none) (t : TypeId) (parts : Array (Nat × Operand)) (ho : o.op = .build t parts) (cells : Array Value)
    (hf : P.built t (parts.map fun (i, x) => (i, a.eval x)).toList = some cells) : YieldsIf P ops S o (.agg cells) a :=
  Or.inl ⟨by simp [Region.wanted, hg], fun w _ => by
    unfold execOp
    simp only [ho, Sem.run_bind, run_build w t _ cells hf, Result.andThen_ok]
    rfl⟩
theorem yields_buildPas {ops : Array Oper} {S : World → Prop} {o : Oper} {a : Act} (hg : o.guard = none) (x0 x1 x2 x3 x4 x5 : Operand)
    (ho : o.op = .build 64 #[(0, x0), (1, x1), (2, x2), (3, x3), (4, x4), (5, x5)]) (b1 b2 b3 : Bool) (s1 s2 s3 s4 s5 s6 : ByteArray) (i1 i2 i3 : Int)
    (h0 : a.eval x0 = .agg #[.bool b1, .string s1, .int .i64 i1]) (h1 : a.eval x1 = .agg #[.bool b2, .string s2, .int .i64 i2, .string s3, .string s4]) (h2 : a.eval x2 = .bool b3) (h3 : a.eval x3 = .string s5) (h4 : a.eval x4 = .string s6) (h5 : a.eval x5 = .int .i64 i3) :
    YieldsIf Tryz.prog ops S o (.agg #[.bool b1, .string s1, .int .i64 i1, .bool b2, .string s2, .int .i64 i2, .string s3, .string s4, .bool b3, .string s5, .string s6, .int .i64 i3]) a := by
  refine yields_build hg 64 _ ho _ ?_
  simp only [List.map_toArray, List.map_cons, List.map_nil, h0, h1, h2, h3, h4, h5]
  exact buildPas _ _ _ _ _ _ _ _ _ _ _ _
theorem step_store_row {P : Program} {ops : Array Oper} {a : Act} {w : World} {K : Act → World → Prop} {Q : Exit → Act → World → Prop} {E : Prop} {o : Oper} (hgd : o.guard = none) (ty : TypeId) (x y : Operand) (ho : o.op = .store ty x y)
    (g : Nat) (cells : Array Value) (hx : a.eval x = .pointer (some ⟨g, 0, none⟩)) (hy : a.eval y = .agg cells)
    (t : TypeId) (old : Array Value) (hg : w.heap[g]? = some (.cells old t (0, 0))) (hi : (P.info? ty).map (·.size) = some cells.size)
    (hold : old.size = cells.size) (h1 : cells.all (·.oneCell') = true)
    (h : K (a.put o.dst undef) (w.setRow g cells)) : if Region.wanted o (yielded ops a.tmps) = true then Oper.wp P o a w K Q else E := by
  have hw : Region.wanted o (yielded ops a.tmps) = true := by simp [Region.wanted, hgd]
  rw [if_pos hw]
  exact wp_store_row ty x y ho g cells hx hy t old hg hi hold h1 h
theorem setRow_fr {S : Nat → Prop} {a w : World} (h : Fr S a w) {g : Nat} (hg : a.heap.size ≤ g) (cs : Array Value) : Fr S a (w.setRow g cs) :=
  ⟨h.os, h.tape, h.output, by show a.heap.size ≤ (w.setRow g cs).heap.size; rw [World.setRow]; simp only [Array.size_modify]; exact h.size, fun k hk hn => (show (w.setRow g cs).heap[k]? = w.heap[k]? by simp [World.setRow, Array.getElem?_modify, show g ≠ k by omega]).trans (h.block k hk hn)⟩
theorem setRow_at {w : World} {g : Nat} {old cs : Array Value} {t : TypeId} (h : w.heap[g]? = some (.cells old t (0, 0))) : (w.setRow g cs).heap[g]? = some (.cells cs t (0, 0)) := by
  simp [World.setRow, Array.getElem?_modify, h]
set_option maxHeartbeats 4000000 in
set_option maxRecDepth 100000 in
theorem Add_any (base : Nat) (m hd : ByteArray) (r : ReqOf Value) (hs : List Prm) (now : Int) (lv : Value) (ps : List Par) (acc : List Pas) (v : Value) (br bn bl bp : Nat) (w : World)
    (hr : w.heap[br]? = some (.cells r.cells.toArray 53 (0, 0))) (hn : w.heap[bn]? = some (.cells #[.int .i64 now] 3 (0, 0))) (hl : w.heap[bl]? = some (.cells #[lv] 36 (0, 0))) (hp : w.heap[bp]? = some (.cells #[v] 60 (0, 0)))
    (hpv : ParsAt w lv ps) (hz : ParsSmall ps) (hown : OwnRows base 64 12 w v (acc.map Pas.cells)) (hb : base ≤ bp) (hlen : acc.length < 1000000) (n0 : 0 ≤ now) (n1 : now ≤ 1099511627776) :
    Calls Tryz.prog 77 #[.string m, .string hd, .pointer (some ⟨br, 0, none⟩), .pointer (some ⟨bn, 0, none⟩), .pointer (some ⟨bl, 0, none⟩), .pointer (some ⟨bp, 0, none⟩)] w fun e w' => e = .returned (.tuple #[]) ∧ ∃ v', w'.heap[bp]? = some (.cells #[v'] 60 (0, 0)) ∧ OwnRows base 64 12 w' v' ((addP acc ((r.toL hs).pas (now + ageI ps) m hd)).map Pas.cells) ∧ Fr (fun k => k = bp ∨ own v k) w w' := by
  have hag := ageI_range ps
  have HAGE := Lib.hid (show ∀ U, Fr noB w U → Calls Tryz.prog 27 #[lv] U fun e w' => e = .returned (.int .i64 (ageI ps)) ∧ Fr noB U w' from fun U hU => Age_any lv ps U (RowsAt.frNone hpv hU) hz)
  obtain ⟨al, cl, hlv⟩ := RowsAt.form hpv
  rw [List.length_map] at hlv
  subst hlv
  have HC := Lib.hid (show ∀ U, Fr noB w U → (U.cell? ⟨br, 1, none⟩ = some (.bool r.frm.secure) ∧ U.cell? ⟨br, 2, none⟩ = some (.string r.frm.host) ∧ U.cell? ⟨br, 3, none⟩ = some (.int .i64 r.frm.port) ∧ U.cell? ⟨br, 4, none⟩ = some (.bool r.o.secure) ∧ U.cell? ⟨br, 5, none⟩ = some (.string r.o.host) ∧ U.cell? ⟨br, 6, none⟩ = some (.int .i64 r.o.port) ∧ U.cell? ⟨br, 7, none⟩ = some (.string r.path) ∧ U.cell? ⟨br, 8, none⟩ = some (.string r.query) ∧ U.cell? ⟨br, 11, none⟩ = some (.bool r.wth) ∧ U.cell? ⟨bn, 0, none⟩ = some (.int .i64 now) ∧ U.cell? ⟨bl, 0, none⟩ = some (.slice al ps.length cl)) from fun U hU => by
    have j := hU.keep hr (fun h => h)
    have hc : ∀ i u, r.cells[i]? = some u → U.cell? ⟨br, i, none⟩ = some u := fun i u hu => by simp only [World.cell?, j]; simpa using hu
    exact ⟨hc 1 _ rfl, hc 2 _ rfl, hc 3 _ rfl, hc 4 _ rfl, hc 5 _ rfl, hc 6 _ rfl, hc 7 _ rfl, hc 8 _ rfl, hc 11 _ rfl, by simp [World.cell?, hU.keep hn (fun h => h)], by simp [World.cell?, hU.keep hl (fun h => h)]⟩)
  obtain ⟨X, hX⟩ : ∃ X, X = (r.toL hs).pas (now + ageI ps) m hd := ⟨_, rfl⟩
  obtain ⟨x, hx⟩ : ∃ x, x = X.cells := ⟨_, rfl⟩
  have hxk : x.length = 12 := by rw [hx]; rfl
  have HONE := Lib.hid (show ∀ u ∈ x, u.oneCell' = true from by rw [hx]; exact pas_oneG X)
  have hfold := fold_zip x #[.bool false, .string ⟨#[]⟩, .int .i64 0, .bool false, .string ⟨#[]⟩, .int .i64 0, .string ⟨#[]⟩, .string ⟨#[]⟩, .bool false, .string ⟨#[]⟩, .string ⟨#[]⟩, .int .i64 0] (by rw [hxk]; rfl)
  have HX := Lib.hid hx
  have HXC := Lib.hid (show x.toArray = #[.bool r.frm.secure, .string r.frm.host, .int .i64 r.frm.port, .bool r.o.secure, .string r.o.host, .int .i64 r.o.port, .string r.path, .string r.query, .bool r.wth, .string m, .string hd, .int .i64 (now + ageI ps)] by rw [hx, hX]; rfl)
  rw [← hX]
  clear hX hx
  have hwrap : IntKind.i64.wrap (now + ageI ps) = now + ageI ps := by rw [IntWalk.i64_left]; exact IntWalk.wrap64_in _ (by omega)
  clear hr hn hl hpv hz
  go_enter Tryz.func77, Tryz.ntmps77
  go_wp2_with fail
  refine wp_region_held_drew (S := (fun U => U.cell? ⟨br, 1, none⟩ = some (.bool r.frm.secure) ∧ U.cell? ⟨br, 2, none⟩ = some (.string r.frm.host) ∧ U.cell? ⟨br, 3, none⟩ = some (.int .i64 r.frm.port) ∧ U.cell? ⟨br, 4, none⟩ = some (.bool r.o.secure) ∧ U.cell? ⟨br, 5, none⟩ = some (.string r.o.host) ∧ U.cell? ⟨br, 6, none⟩ = some (.int .i64 r.o.port) ∧ U.cell? ⟨br, 7, none⟩ = some (.string r.path) ∧ U.cell? ⟨br, 8, none⟩ = some (.string r.query) ∧ U.cell? ⟨br, 11, none⟩ = some (.bool r.wth) ∧ U.cell? ⟨bn, 0, none⟩ = some (.int .i64 now) ∧ U.cell? ⟨bl, 0, none⟩ = some (.slice al ps.length cl))) (by kernel_rfl) (HC.out _ (Fr.refl noB w).drew) ?_
  intro hS0
  refine wpAnyH_take (i := 0) (oi := ⟨some 9, _, _, _, _, _⟩) (v := ?_) rfl (by kernel_rfl) (by kernel_rfl) (by kernel_rfl) (fun _ _ _ h => h) (Or.inl ⟨by rfl, ?hy⟩) (by assumption) ?_
  case hy => (intro w hSw; (try dsimp only at hSw); go_simp <;> with_reducible rfl)
  try simp only [Act.put, List.setIfInBounds_toArray, List.set_cons_zero, List.set_cons_succ]
  refine wpAnyH_take (i := 1) (oi := ⟨some 10, _, _, _, _, _⟩) (v := ?_) rfl (by kernel_rfl) (by kernel_rfl) (by kernel_rfl) (fun _ _ _ h => h) (Or.inl ⟨by rfl, ?hy⟩) (by assumption) ?_
  case hy => (intro w hSw; (try dsimp only at hSw); go_simp <;> with_reducible rfl)
  try simp only [Act.put, List.setIfInBounds_toArray, List.set_cons_zero, List.set_cons_succ]
  refine wpAnyH_take (i := 2) (oi := ⟨some 11, _, _, _, _, _⟩) (v := ?_) rfl (by kernel_rfl) (by kernel_rfl) (by kernel_rfl) (fun _ _ _ h => h) (Or.inl ⟨by rfl, ?hy⟩) (by assumption) ?_
  case hy => (intro w hSw; (try dsimp only at hSw); go_simp <;> with_reducible rfl)
  try simp only [Act.put, List.setIfInBounds_toArray, List.set_cons_zero, List.set_cons_succ]
  refine wpAnyH_take (i := 3) (oi := ⟨some 12, _, _, _, _, _⟩) (v := ?_) rfl (by kernel_rfl) (by kernel_rfl) (by kernel_rfl) (fun _ _ _ h => h) (Or.inl ⟨by rfl, ?hy⟩) (by assumption) ?_
  case hy => (intro w hSw; (try dsimp only at hSw); go_simp <;> with_reducible rfl)
  try simp only [Act.put, List.setIfInBounds_toArray, List.set_cons_zero, List.set_cons_succ]
  refine wpAnyH_take (i := 4) (oi := ⟨some 13, _, _, _, _, _⟩) (v := ?_) rfl (by kernel_rfl) (by kernel_rfl) (by kernel_rfl) (fun _ _ _ h => h) (Or.inl ⟨by rfl, ?hy⟩) (by assumption) ?_
  case hy => (intro w hSw; (try dsimp only at hSw); go_simp <;> with_reducible rfl)
  try simp only [Act.put, List.setIfInBounds_toArray, List.set_cons_zero, List.set_cons_succ]
  refine wpAnyH_take (i := 5) (oi := ⟨some 14, _, _, _, _, _⟩) (v := ?_) rfl (by kernel_rfl) (by kernel_rfl) (by kernel_rfl) (fun _ _ _ h => h) (Or.inl ⟨by rfl, ?hy⟩) (by assumption) ?_
  case hy => (intro w hSw; (try dsimp only at hSw); go_simp <;> with_reducible rfl)
  try simp only [Act.put, List.setIfInBounds_toArray, List.set_cons_zero, List.set_cons_succ]
  refine wpAnyH_take (i := 6) (oi := ⟨some 15, _, _, _, _, _⟩) (v := ?_) rfl (by kernel_rfl) (by kernel_rfl) (by kernel_rfl) (fun _ _ _ h => h) (Or.inl ⟨by rfl, ?hy⟩) (by assumption) ?_
  case hy => (intro w hSw; (try dsimp only at hSw); go_simp <;> with_reducible rfl)
  try simp only [Act.put, List.setIfInBounds_toArray, List.set_cons_zero, List.set_cons_succ]
  refine wpAnyH_take (i := 7) (oi := ⟨some 16, _, _, _, _, _⟩) (v := ?_) rfl (by kernel_rfl) (by kernel_rfl) (by kernel_rfl) (fun _ _ _ h => h) (Or.inl ⟨by rfl, ?hy⟩) (by assumption) ?_
  case hy => (intro w hSw; (try dsimp only at hSw); go_simp <;> with_reducible rfl)
  try simp only [Act.put, List.setIfInBounds_toArray, List.set_cons_zero, List.set_cons_succ]
  refine wpAnyH_take (i := 8) (oi := ⟨some 17, _, _, _, _, _⟩) (v := ?_) rfl (by kernel_rfl) (by kernel_rfl) (by kernel_rfl) (fun _ _ _ h => h) (Or.inl ⟨by rfl, ?hy⟩) (by assumption) ?_
  case hy => (intro w hSw; (try dsimp only at hSw); go_simp <;> with_reducible rfl)
  try simp only [Act.put, List.setIfInBounds_toArray, List.set_cons_zero, List.set_cons_succ]
  refine wpAnyH_take (i := 9) (oi := ⟨some 18, _, _, _, _, _⟩) (v := ?_) rfl (by kernel_rfl) (by kernel_rfl) (by kernel_rfl) (fun _ _ _ h => h) (Or.inl ⟨by rfl, ?hy⟩) (by assumption) ?_
  case hy => (intro w hSw; (try dsimp only at hSw); go_simp <;> with_reducible rfl)
  try simp only [Act.put, List.setIfInBounds_toArray, List.set_cons_zero, List.set_cons_succ]
  refine wpAnyH_ready (rs := [10, 13]) (by kernel_rfl) (by simp) ?_
  refine AllReadyH.cons rfl (fun K hK => ?_) (AllReadyH.cons rfl (fun K hK => ?_) AllReadyH.nil)
  · go_simp
    refine (HAGE.out _ (Fr.refl noB w).drew).mono ?_
    rintro e u ⟨rfl, hu⟩
    have HU := Lib.hid (show Fr noB w u from ((Fr.refl noB w).drew).trans hu)
    refine hK.out _ _ (HC.out _ HU.out) ?_
    intro hS1
    clear hK hS0 hu K
    try simp only [Act.put, List.setIfInBounds_toArray, List.set_cons_zero, List.set_cons_succ]
    refine wpAnyH_take (i := 11) (oi := ⟨some 20, _, _, _, _, _⟩) (v := ?_) rfl (by kernel_rfl) (by kernel_rfl) (by kernel_rfl) (fun _ _ _ h => h) (Or.inl ⟨by rfl, ?hy⟩) (by assumption) ?_
    case hy => (intro w hSw; (try dsimp only at hSw); go_simp <;> with_reducible rfl)
    try simp only [Act.put, List.setIfInBounds_toArray, List.set_cons_zero, List.set_cons_succ]
    refine wpAnyH_take (i := 12) (oi := ⟨some 21, _, _, _, _, _⟩) (v := .agg #[.bool r.frm.secure, .string r.frm.host, .int .i64 r.frm.port, .bool r.o.secure, .string r.o.host, .int .i64 r.o.port, .string r.path, .string r.query, .bool r.wth, .string m, .string hd, .int .i64 (now + ageI ps)]) rfl (by kernel_rfl) (by kernel_rfl) (by kernel_rfl) (fun _ _ _ h => h) (yields_buildPas rfl (.tmp 10) (.tmp 12) (.tmp 14) (.tmp 15) (.tmp 16) (.tmp 20) rfl r.frm.secure r.o.secure r.wth r.frm.host r.o.host r.path r.query m hd r.frm.port r.o.port (now + ageI ps) rfl rfl rfl rfl rfl rfl) (by assumption) ?_
    try simp only [Act.put, List.setIfInBounds_toArray, List.set_cons_zero, List.set_cons_succ]
    refine wpAnyH_ready (rs := [13]) (by kernel_rfl) (by simp) ?_
    refine AllReadyH.cons rfl (fun K hK => ?_) AllReadyH.nil
    go_simp
    obtain ⟨bx, hbxe⟩ : ∃ bx, bx = u.heap.size := ⟨_, rfl⟩
    obtain ⟨w3, hw3⟩ : ∃ w3, w3 = u.alloc (.cells zPa 64) := ⟨_, rfl⟩
    have HZB := Lib.hid (show w3.heap[bx]? = some (.cells zPa 64 (0, 0)) from by rw [hw3, hbxe]; exact new_block _ _)
    have HW3 := Lib.hid (show Fr noB w w3 from by rw [hw3]; exact HU.out.alloc _)
    have hbx : w.heap.size ≤ bx := by rw [hbxe]; exact HU.out.size
    rw [← hw3, ← hbxe]
    refine hK.out _ _ (HC.out _ HW3.out) ?_
    intro hS2
    clear hK hS1 K hw3 hbxe
    try simp only [Act.put, List.setIfInBounds_toArray, List.set_cons_zero, List.set_cons_succ]
    refine wpAnyH_ready (rs := [14]) (by kernel_rfl) (by simp) ?_
    refine AllReadyH.cons rfl (fun K hK => ?_) AllReadyH.nil
    refine step_store_row rfl 64 (.tmp 8) (.tmp 21) rfl bx #[.bool r.frm.secure, .string r.frm.host, .int .i64 r.frm.port, .bool r.o.secure, .string r.o.host, .int .i64 r.o.port, .string r.path, .string r.query, .bool r.wth, .string m, .string hd, .int .i64 (now + ageI ps)] rfl rfl 64 zPa HZB.out (by kernel_rfl) rfl (by simp [Value.oneCell']) ?_
    obtain ⟨W, hW⟩ : ∃ W, W = w3.setRow bx #[.bool r.frm.secure, .string r.frm.host, .int .i64 r.frm.port, .bool r.o.secure, .string r.o.host, .int .i64 r.o.port, .string r.path, .string r.query, .bool r.wth, .string m, .string hd, .int .i64 (now + ageI ps)] := ⟨_, rfl⟩
    have hWF : Fr noB w W := by rw [hW]; exact setRow_fr HW3.out hbx _
    have hWX : W.heap[bx]? = some (.cells x.toArray 64 (0, 0)) := by rw [hW, HXC.out]; exact setRow_at HZB.out
    rw [← hW]
    refine hK.out _ _ (HC.out _ hWF) ?_
    intro hS4
    clear hK hS4 K hW HZB HW3
    try simp only [Act.put, List.setIfInBounds_toArray]
    refine wpAnyH_done (by kernel_rfl) ?_ _
    have HWF := Lib.hid hWF
    have HWX := Lib.hid hWX
    obtain ⟨avv, cvv, hvv⟩ := hown.form
    rw [List.length_map] at hvv
    subst hvv
    have HCT := Lib.hid (show Calls Tryz.prog 78 #[.slice avv acc.length cvv, .agg x.toArray] W fun e w' => e = .returned (.bool (acc.any (fun q => X.eqB q))) ∧ Fr noB W w' from by rw [HX.out]; exact Contains_Pa _ acc X W (RowsAt.frNone hown.at hWF))
    have HBP := Lib.hid (show ∀ U, Fr (own (.slice avv acc.length cvv)) w U → U.heap[bp]? = some (.cells #[.slice avv acc.length cvv] 60 (0, 0)) from fun U hU => hU.keep hp (fun hk => by
      obtain ⟨cc, e⟩ := hown.kindPa hk
      rw [hp] at e; cases e))
    have HOW := Lib.hid (fun U (hU : Fr noB w U) => hown.fr hU (fun _ _ h => h))
    have d5 : W.cell? ⟨bp, 0, none⟩ = some (.slice avv acc.length cvv) := by simp [World.cell?, HBP.out W (hWF.mono (fun _ _ h => absurd h (fun h => h)))]
    have hxs : (Tryz.prog.info? 64).map (·.size) = some x.toArray.size := by rw [List.size_toArray]; exact sizePa hxk
    have HXS := Lib.hid hxs
    have hw1 : base ≤ W.heap.size := by have h1 := hWF.size; have h2 := lt_of_some hp; omega
    clear hp hown hWF hWX hxs
    go_wp2_with (first | ((with_reducible refine wpList_at ⟨some 23, _, _, _, _, _⟩ ?_); go_must (refine wpList_load_row rfl 64 (.tmp 8) rfl bx rfl _ x.toArray (0, 0) _ HWX.out Tryz.underlying64 rfl HXS.out ?_)) | fail)
    refine HCT.out.mono ?_
    rintro e u2 ⟨rfl, hu2⟩
    have HU2 := Lib.hid (HWF.out.trans hu2)
    have HX2 := Lib.hid (hu2.keep HWX.out (fun h => h))
    have HO2 := Lib.hid (HOW.out u2 HU2.out)
    have hb2 := HBP.out u2 (HU2.out.mono (fun _ _ h => absurd h (fun h => h)))
    have d6 : u2.cell? ⟨bp, 0, none⟩ = some (.slice avv acc.length cvv) := by simp [World.cell?, hb2]
    have hw2 : base ≤ u2.heap.size := by have := hu2.size; omega
    clear hu2 d5 HCT
    cases hany : acc.any (fun q => X.eqB q)
    · have HADD := Lib.hid (show addP acc X = acc ++ [X] by
        unfold addP
        rw [if_neg]
        rw [any_comm, hany]; decide)
      clear hany
      go_wp2_with (first | ((with_reducible refine wpList_at ⟨some 27, _, _, _, _, _⟩ ?_); go_must (refine wpList_load_row rfl 64 (.tmp 8) rfl bx rfl _ x.toArray (0, 0) _ HX2.out Tryz.underlying64 rfl HXS.out ?_)) | (at_builtin; go_must (refine wpList_row rfl _ _ 60 64 rfl 12 144 (.agg zPa) Tryz.underlying60 info_passG rfl (by decide) (by decide) base (.slice avv acc.length cvv) (acc.map Pas.cells) rfl (HO2.out.alloc _) u2.heap.size 1 x rfl hxk HONE.out (fun i u hi => by rw [World.cell?_alloc_mark]; simpa using hi) (by rw [List.length_map]; omega) (by simp; omega) ?_); intro v' w4 hown4 hg4; obtain ⟨a4, c4, hv4⟩ := hown4.form; subst hv4; have HF4 : Fr (own (.slice avv acc.length cvv)) u2 w4 := Fr.grown ((Fr.refl _ u2).alloc (.cells x.toArray 64)) hg4 (fun k hk _ => hk); have hb4 := HBP.out w4 ((HU2.out.mono (fun _ _ h => absurd h (fun h => h))).step HF4 (fun _ _ h => h)); have k4 : w4.cell? ⟨bp, 0, none⟩ = some (.slice avv acc.length cvv) := (by simp [World.cell?, hb4]); have e4 : w4.frozen? ⟨bp, 0, none⟩ = false := (by simp [World.frozen?, hb4])) | fail)
      clear hfold
      go_end0
      refine ⟨rfl, _, setCell_heap hb4 0 _, ?_, ?_⟩
      · rw [HADD.out, List.map_append, List.map_cons, List.map_nil, ← HX.out]
        have hown5 : OwnRows base 64 12 w4 (.slice a4 (acc.length + 1) c4) (acc.map Pas.cells ++ [x]) := by
          have h := hown4
          rw [List.length_append, List.length_map, List.length_singleton] at h
          exact h
        have hfs : Fr (one bp) w4 (w4.setCell ⟨bp, 0, none⟩ (.slice a4 (acc.length + 1) c4)) := (Fr.refl (one bp) w4).setCell (p := ⟨bp, 0, none⟩) (fun _ => rfl) _
        refine hown5.fr hfs ?_
        intro k hk e
        obtain ⟨cc, ek⟩ := hown5.kindPa hk
        have e : k = bp := e
        rw [e, hb4] at ek; cases ek
      · exact (Fr.step (S := fun k => k = bp ∨ own (.slice avv acc.length cvv) k) (HU2.out.mono (fun _ _ h => absurd h (fun h => h))) HF4 (fun _ _ h => Or.inr h)).setCell (p := ⟨bp, 0, none⟩) (fun _ => Or.inl rfl) _
    · have HADD := Lib.hid (show addP acc X = acc by
        unfold addP
        rw [if_pos]
        rw [any_comm, hany])
      clear hany
      go_wp2
      go_end0
      exact ⟨rfl, _, hb2, by rw [HADD.out]; exact HO2.out, HU2.out.mono (fun _ _ h => absurd h (fun h => h))⟩
  · go_simp
    obtain ⟨bx, hbxe⟩ : ∃ bx, bx = w.heap.size := ⟨_, rfl⟩
    obtain ⟨w2, hw2e⟩ : ∃ w2, w2 = (w.alloc (.cells zPa 64)).drew := ⟨_, rfl⟩
    have hz2 : w2.heap[bx]? = some (.cells zPa 64 (0, 0)) := by rw [hw2e, hbxe]; exact new_block _ _
    have hw2f : Fr noB w w2 := by rw [hw2e]; exact ((Fr.refl _ _).alloc _).drew
    have hbx : w.heap.size ≤ bx := by rw [hbxe]; exact Nat.le_refl _
    rw [← hw2e, ← hbxe]
    refine hK.out _ _ (HC.out _ hw2f) ?_
    intro hS1
    clear hK hS0 K hw2e hbxe
    try simp only [Act.put, List.setIfInBounds_toArray, List.set_cons_zero, List.set_cons_succ]
    refine wpAnyH_ready (rs := [10]) (by kernel_rfl) (by simp) ?_
    refine AllReadyH.cons rfl (fun K hK => ?_) AllReadyH.nil
    go_simp
    refine (HAGE.out _ hw2f).mono ?_
    rintro e w3 ⟨rfl, hu⟩
    have HZB := Lib.hid (hu.keep hz2 (fun h => h))
    have HW3 := Lib.hid (hw2f.trans hu)
    refine hK.out _ _ (HC.out _ HW3.out) ?_
    intro hS2
    clear hK hS1 hu K hz2 hw2f
    try simp only [Act.put, List.setIfInBounds_toArray, List.set_cons_zero, List.set_cons_succ]
    refine wpAnyH_take (i := 11) (oi := ⟨some 20, _, _, _, _, _⟩) (v := ?_) rfl (by kernel_rfl) (by kernel_rfl) (by kernel_rfl) (fun _ _ _ h => h) (Or.inl ⟨by rfl, ?hy⟩) (by assumption) ?_
    case hy => (intro w hSw; (try dsimp only at hSw); go_simp <;> with_reducible rfl)
    try simp only [Act.put, List.setIfInBounds_toArray, List.set_cons_zero, List.set_cons_succ]
    refine wpAnyH_take (i := 12) (oi := ⟨some 21, _, _, _, _, _⟩) (v := .agg #[.bool r.frm.secure, .string r.frm.host, .int .i64 r.frm.port, .bool r.o.secure, .string r.o.host, .int .i64 r.o.port, .string r.path, .string r.query, .bool r.wth, .string m, .string hd, .int .i64 (now + ageI ps)]) rfl (by kernel_rfl) (by kernel_rfl) (by kernel_rfl) (fun _ _ _ h => h) (yields_buildPas rfl (.tmp 10) (.tmp 12) (.tmp 14) (.tmp 15) (.tmp 16) (.tmp 20) rfl r.frm.secure r.o.secure r.wth r.frm.host r.o.host r.path r.query m hd r.frm.port r.o.port (now + ageI ps) rfl rfl rfl rfl rfl rfl) (by assumption) ?_
    try simp only [Act.put, List.setIfInBounds_toArray, List.set_cons_zero, List.set_cons_succ]
    refine wpAnyH_ready (rs := [14]) (by kernel_rfl) (by simp) ?_
    refine AllReadyH.cons rfl (fun K hK => ?_) AllReadyH.nil
    refine step_store_row rfl 64 (.tmp 8) (.tmp 21) rfl bx #[.bool r.frm.secure, .string r.frm.host, .int .i64 r.frm.port, .bool r.o.secure, .string r.o.host, .int .i64 r.o.port, .string r.path, .string r.query, .bool r.wth, .string m, .string hd, .int .i64 (now + ageI ps)] rfl rfl 64 zPa HZB.out (by kernel_rfl) rfl (by simp [Value.oneCell']) ?_
    obtain ⟨W, hW⟩ : ∃ W, W = w3.setRow bx #[.bool r.frm.secure, .string r.frm.host, .int .i64 r.frm.port, .bool r.o.secure, .string r.o.host, .int .i64 r.o.port, .string r.path, .string r.query, .bool r.wth, .string m, .string hd, .int .i64 (now + ageI ps)] := ⟨_, rfl⟩
    have hWF : Fr noB w W := by rw [hW]; exact setRow_fr HW3.out hbx _
    have hWX : W.heap[bx]? = some (.cells x.toArray 64 (0, 0)) := by rw [hW, HXC.out]; exact setRow_at HZB.out
    rw [← hW]
    refine hK.out _ _ (HC.out _ hWF) ?_
    intro hS4
    clear hK hS4 K hW HZB HW3
    try simp only [Act.put, List.setIfInBounds_toArray]
    refine wpAnyH_done (by kernel_rfl) ?_ _
    have HWF := Lib.hid hWF
    have HWX := Lib.hid hWX
    obtain ⟨avv, cvv, hvv⟩ := hown.form
    rw [List.length_map] at hvv
    subst hvv
    have HCT := Lib.hid (show Calls Tryz.prog 78 #[.slice avv acc.length cvv, .agg x.toArray] W fun e w' => e = .returned (.bool (acc.any (fun q => X.eqB q))) ∧ Fr noB W w' from by rw [HX.out]; exact Contains_Pa _ acc X W (RowsAt.frNone hown.at hWF))
    have HBP := Lib.hid (show ∀ U, Fr (own (.slice avv acc.length cvv)) w U → U.heap[bp]? = some (.cells #[.slice avv acc.length cvv] 60 (0, 0)) from fun U hU => hU.keep hp (fun hk => by
      obtain ⟨cc, e⟩ := hown.kindPa hk
      rw [hp] at e; cases e))
    have HOW := Lib.hid (fun U (hU : Fr noB w U) => hown.fr hU (fun _ _ h => h))
    have d5 : W.cell? ⟨bp, 0, none⟩ = some (.slice avv acc.length cvv) := by simp [World.cell?, HBP.out W (hWF.mono (fun _ _ h => absurd h (fun h => h)))]
    have hxs : (Tryz.prog.info? 64).map (·.size) = some x.toArray.size := by rw [List.size_toArray]; exact sizePa hxk
    have HXS := Lib.hid hxs
    have hw1 : base ≤ W.heap.size := by have h1 := hWF.size; have h2 := lt_of_some hp; omega
    clear hp hown hWF hWX hxs
    go_wp2_with (first | ((with_reducible refine wpList_at ⟨some 23, _, _, _, _, _⟩ ?_); go_must (refine wpList_load_row rfl 64 (.tmp 8) rfl bx rfl _ x.toArray (0, 0) _ HWX.out Tryz.underlying64 rfl HXS.out ?_)) | fail)
    refine HCT.out.mono ?_
    rintro e u2 ⟨rfl, hu2⟩
    have HU2 := Lib.hid (HWF.out.trans hu2)
    have HX2 := Lib.hid (hu2.keep HWX.out (fun h => h))
    have HO2 := Lib.hid (HOW.out u2 HU2.out)
    have hb2 := HBP.out u2 (HU2.out.mono (fun _ _ h => absurd h (fun h => h)))
    have d6 : u2.cell? ⟨bp, 0, none⟩ = some (.slice avv acc.length cvv) := by simp [World.cell?, hb2]
    have hw2 : base ≤ u2.heap.size := by have := hu2.size; omega
    clear hu2 d5 HCT
    cases hany : acc.any (fun q => X.eqB q)
    · have HADD := Lib.hid (show addP acc X = acc ++ [X] by
        unfold addP
        rw [if_neg]
        rw [any_comm, hany]; decide)
      clear hany
      go_wp2_with (first | ((with_reducible refine wpList_at ⟨some 27, _, _, _, _, _⟩ ?_); go_must (refine wpList_load_row rfl 64 (.tmp 8) rfl bx rfl _ x.toArray (0, 0) _ HX2.out Tryz.underlying64 rfl HXS.out ?_)) | (at_builtin; go_must (refine wpList_row rfl _ _ 60 64 rfl 12 144 (.agg zPa) Tryz.underlying60 info_passG rfl (by decide) (by decide) base (.slice avv acc.length cvv) (acc.map Pas.cells) rfl (HO2.out.alloc _) u2.heap.size 1 x rfl hxk HONE.out (fun i u hi => by rw [World.cell?_alloc_mark]; simpa using hi) (by rw [List.length_map]; omega) (by simp; omega) ?_); intro v' w4 hown4 hg4; obtain ⟨a4, c4, hv4⟩ := hown4.form; subst hv4; have HF4 : Fr (own (.slice avv acc.length cvv)) u2 w4 := Fr.grown ((Fr.refl _ u2).alloc (.cells x.toArray 64)) hg4 (fun k hk _ => hk); have hb4 := HBP.out w4 ((HU2.out.mono (fun _ _ h => absurd h (fun h => h))).step HF4 (fun _ _ h => h)); have k4 : w4.cell? ⟨bp, 0, none⟩ = some (.slice avv acc.length cvv) := (by simp [World.cell?, hb4]); have e4 : w4.frozen? ⟨bp, 0, none⟩ = false := (by simp [World.frozen?, hb4])) | fail)
      clear hfold
      go_end0
      refine ⟨rfl, _, setCell_heap hb4 0 _, ?_, ?_⟩
      · rw [HADD.out, List.map_append, List.map_cons, List.map_nil, ← HX.out]
        have hown5 : OwnRows base 64 12 w4 (.slice a4 (acc.length + 1) c4) (acc.map Pas.cells ++ [x]) := by
          have h := hown4
          rw [List.length_append, List.length_map, List.length_singleton] at h
          exact h
        have hfs : Fr (one bp) w4 (w4.setCell ⟨bp, 0, none⟩ (.slice a4 (acc.length + 1) c4)) := (Fr.refl (one bp) w4).setCell (p := ⟨bp, 0, none⟩) (fun _ => rfl) _
        refine hown5.fr hfs ?_
        intro k hk e
        obtain ⟨cc, ek⟩ := hown5.kindPa hk
        have e : k = bp := e
        rw [e, hb4] at ek; cases ek
      · exact (Fr.step (S := fun k => k = bp ∨ own (.slice avv acc.length cvv) k) (HU2.out.mono (fun _ _ h => absurd h (fun h => h))) HF4 (fun _ _ h => Or.inr h)).setCell (p := ⟨bp, 0, none⟩) (fun _ => Or.inl rfl) _
    · have HADD := Lib.hid (show addP acc X = acc by
        unfold addP
        rw [if_pos]
        rw [any_comm, hany])
      clear hany
      go_wp2
      go_end0
      exact ⟨rfl, _, hb2, by rw [HADD.out]; exact HO2.out, HU2.out.mono (fun _ _ h => absurd h (fun h => h))⟩
end Go.Proofs.YtkoobhgedoanhaaGreatDoor
