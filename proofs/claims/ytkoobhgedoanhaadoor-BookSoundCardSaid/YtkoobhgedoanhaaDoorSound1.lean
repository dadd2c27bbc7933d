/- The law BookSound: its closures. -/
import Derived.Test.YtkoobhgedoanhaaDoorRightful
import Derived.Test.YtkoobhgedoanhaaDoorBooked
import Derived.Test.YtkoobhgedoanhaaDoorEqPa
import Derived.Test.YtkoobhgedoanhaaDoorBookLaw
namespace Go.Proofs.YtkoobhgedoanhaaDoor
open Go.RowKit

set_option maxHeartbeats 1000000 in
set_option maxRecDepth 100000 in
theorem Sou2_any (p : Pas) (m : ByteArray) (r : ReqOf Value) (bm br : Nat) (w : World) (hm : w.heap[bm]? = some (.cells #[.string m] 9 (0, 0))) (hr : w.heap[br]? = some (.cells r.cells.toArray 67 (0, 0))) :
    Calls Tryd.prog 37 #[.agg p.cells.toArray, .pointer (some ⟨bm, 0, none⟩), .pointer (some ⟨br, 0, none⟩)] w fun e w' => e = .returned (.bool (p.lets m r.wth)) ∧ Fr noB w w' := by
  unfold Pas.cells
  unfold ReqOf.cells at hr
  have hfa : Fr noB w _ := (Fr.refl noB w).alloc (.cells #[.bool p.frm.secure, .string p.frm.host, .int .i64 p.frm.port, .bool p.o.secure, .string p.o.host, .int .i64 p.o.port, .string p.path, .string p.query, .bool p.wth, .string p.method, .string p.head, .int .i64 p.til] 63)
  have hm2 := hfa.keep hm (fun h => h)
  have hr2 := hfa.keep hr (fun h => h)
  have cm : (w.alloc (.cells #[.bool p.frm.secure, .string p.frm.host, .int .i64 p.frm.port, .bool p.o.secure, .string p.o.host, .int .i64 p.o.port, .string p.path, .string p.query, .bool p.wth, .string p.method, .string p.head, .int .i64 p.til] 63)).cell? ⟨bm, 0, none⟩ = some (.string m) := by simp [World.cell?, hm2]
  clear hm2
  have HFA := Lib.hid hfa
  cases e1 : (p.method.toList == m.toList)
  · cases e2 : (p.method.toList == star)
    · have HR := Lib.hid (show p.lets m r.wth = false by unfold Pas.lets; rw [e1, e2]; rfl)
      have e2' : (p.method.toList == [42]) = false := e2
      clear hfa hm hr e2
      go_enter Tryd.func37, Tryd.ntmps37
      go_wp2
      go_ret
      exact ⟨by rw [HR.out]; rfl, HFA.out⟩
    · have e2' : (p.method.toList == [42]) = true := e2
      have cw : (w.alloc (.cells #[.bool p.frm.secure, .string p.frm.host, .int .i64 p.frm.port, .bool p.o.secure, .string p.o.host, .int .i64 p.o.port, .string p.path, .string p.query, .bool p.wth, .string p.method, .string p.head, .int .i64 p.til] 63)).cell? ⟨br, 11, none⟩ = some (.bool r.wth) := by simp [World.cell?, hr2]
      cases e3 : r.wth
      · have HR := Lib.hid (show p.lets m false = true by unfold Pas.lets; rw [e1, e2]; rfl)
        rw [e3] at cw
        clear hfa hm hr e2 hr2 e3
        go_enter Tryd.func37, Tryd.ntmps37
        go_wp2
        go_ret
        exact ⟨by rw [HR.out]; rfl, HFA.out⟩
      · have HR := Lib.hid (show p.lets m true = false by unfold Pas.lets; rw [e1, e2]; rfl)
        rw [e3] at cw
        clear hfa hm hr e2 hr2 e3
        go_enter Tryd.func37, Tryd.ntmps37
        go_wp2
        go_ret
        exact ⟨by rw [HR.out]; rfl, HFA.out⟩
  · have HR := Lib.hid (show p.lets m r.wth = true by unfold Pas.lets; rw [e1]; rfl)
    clear hfa hm hr
    go_enter Tryd.func37, Tryd.ntmps37
    go_wp2
    go_ret
    exact ⟨by rw [HR.out]; rfl, HFA.out⟩
set_option maxHeartbeats 1000000 in
set_option maxRecDepth 100000 in
theorem Sou3_any (p : Pas) (m : ByteArray) (r : ReqOf Value) (bm br : Nat) (w : World) (hm : w.heap[bm]? = some (.cells #[.string m] 9 (0, 0))) (hr : w.heap[br]? = some (.cells r.cells.toArray 67 (0, 0))) :
    Calls Tryd.prog 39 #[.agg p.cells.toArray, .pointer (some ⟨bm, 0, none⟩), .pointer (some ⟨br, 0, none⟩)] w fun e w' => e = .returned (.bool (p.letsH m r.wth)) ∧ Fr noB w w' := by
  unfold Pas.cells
  unfold ReqOf.cells at hr
  have hfa : Fr noB w _ := (Fr.refl noB w).alloc (.cells #[.bool p.frm.secure, .string p.frm.host, .int .i64 p.frm.port, .bool p.o.secure, .string p.o.host, .int .i64 p.o.port, .string p.path, .string p.query, .bool p.wth, .string p.method, .string p.head, .int .i64 p.til] 63)
  have hm2 := hfa.keep hm (fun h => h)
  have hr2 := hfa.keep hr (fun h => h)
  have cm : (w.alloc (.cells #[.bool p.frm.secure, .string p.frm.host, .int .i64 p.frm.port, .bool p.o.secure, .string p.o.host, .int .i64 p.o.port, .string p.path, .string p.query, .bool p.wth, .string p.method, .string p.head, .int .i64 p.til] 63)).cell? ⟨bm, 0, none⟩ = some (.string m) := by simp [World.cell?, hm2]
  clear hm2
  have HFA := Lib.hid hfa
  cases e1 : (p.head.toList == m.toList)
  · cases e2 : (p.head.toList == star)
    · have HR := Lib.hid (show p.letsH m r.wth = false by unfold Pas.letsH; rw [e1, e2]; rfl)
      have e2' : (p.head.toList == [42]) = false := e2
      clear hfa hm hr e2
      go_enter Tryd.func39, Tryd.ntmps39
      go_wp2
      go_ret
      exact ⟨by rw [HR.out]; rfl, HFA.out⟩
    · have e2' : (p.head.toList == [42]) = true := e2
      have cw : (w.alloc (.cells #[.bool p.frm.secure, .string p.frm.host, .int .i64 p.frm.port, .bool p.o.secure, .string p.o.host, .int .i64 p.o.port, .string p.path, .string p.query, .bool p.wth, .string p.method, .string p.head, .int .i64 p.til] 63)).cell? ⟨br, 11, none⟩ = some (.bool r.wth) := by simp [World.cell?, hr2]
      cases e3 : r.wth
      · rw [e3] at cw
        cases e4 : (m.toList == authz)
        · have HR := Lib.hid (show p.letsH m false = true by unfold Pas.letsH; rw [e1, e2]; unfold bne; rw [e4]; rfl)
          have e4' : (m.toList == [97, 117, 116, 104, 111, 114, 105, 122, 97, 116, 105, 111, 110]) = false := e4
          clear hfa hm hr e2 hr2 e3 e4
          go_enter Tryd.func39, Tryd.ntmps39
          go_wp2
          go_ret
          exact ⟨by rw [HR.out]; rfl, HFA.out⟩
        · have HR := Lib.hid (show p.letsH m false = false by unfold Pas.letsH; rw [e1, e2]; unfold bne; rw [e4]; rfl)
          have e4' : (m.toList == [97, 117, 116, 104, 111, 114, 105, 122, 97, 116, 105, 111, 110]) = true := e4
          clear hfa hm hr e2 hr2 e3 e4
          go_enter Tryd.func39, Tryd.ntmps39
          go_wp2
          go_ret
          exact ⟨by rw [HR.out]; rfl, HFA.out⟩
      · have HR := Lib.hid (show p.letsH m true = false by unfold Pas.letsH; rw [e1, e2]; rfl)
        rw [e3] at cw
        clear hfa hm hr e2 hr2 e3
        go_enter Tryd.func39, Tryd.ntmps39
        go_wp2
        go_ret
        exact ⟨by rw [HR.out]; rfl, HFA.out⟩
  · have HR := Lib.hid (show p.letsH m r.wth = true by unfold Pas.letsH; rw [e1]; rfl)
    clear hfa hm hr
    go_enter Tryd.func39, Tryd.ntmps39
    go_wp2
    go_ret
    exact ⟨by rw [HR.out]; rfl, HFA.out⟩
set_option maxHeartbeats 2000000 in
set_option maxRecDepth 100000 in
theorem Sou11_any (p : Pas) (r : ReqOf Value) (hs : List Prm) (t : Int) (g : Nat) (cap : Array Value) (f : Bool) (bt br bf : Nat) (w : World) (eg : ∀ args w, (callFunc g args).run Tryd.prog w = .ok (.enter g args) w)
    (hg : ∀ u, Fr noB w u → Calls Tryd.prog g (#[.agg p.cells.toArray] ++ cap) u fun e w' => e = .returned (.bool f) ∧ Fr noB u w')
    (ht : w.heap[bt]? = some (.cells #[.int .i64 t] 3 (0, 0))) (hr : w.heap[br]? = some (.cells r.cells.toArray 67 (0, 0))) (hf : w.heap[bf]? = some (.cells #[.func (.func g) #[] cap] 73 (0, 0))) :
    Calls Tryd.prog 34 #[.agg p.cells.toArray, .pointer (some ⟨bt, 0, none⟩), .pointer (some ⟨br, 0, none⟩), .pointer (some ⟨bf, 0, none⟩)] w fun e w' => e = .returned (.bool ((r.toL hs).mine t p && f)) ∧ Fr noB w w' := by
  have HRES := Lib.hid (show ((r.toL hs).mine t p && f) = ((p.alive t && (p.frm.eqB r.frm && ((p.o.eqB r.o && (p.path.toList == r.path.toList && p.query.toList == r.query.toList)) && (p.wth || !r.wth)))) && f) from rfl)
  generalize ((r.toL hs).mine t p && f) = res at HRES ⊢
  have heq := run_eql_ori p.frm r.frm
  have heu := run_eql_urlP p.o p.path p.query r.o r.path r.query
  obtain ⟨W, hW⟩ : ∃ W, W = w.alloc (.cells p.cells.toArray 63) := ⟨_, rfl⟩
  have hfa : Fr noB w W := by rw [hW]; exact (Fr.refl noB w).alloc _
  have gp : W.heap[w.heap.size]? = some (.cells p.cells.toArray 63 (0, 0)) := by rw [hW]; exact new_block _ _
  obtain ⟨d0, d1, d2, d3, d4, d5, d6, d7, d8, d9, d10, d11⟩ := PasLie.blk gp
  simp only [Nat.zero_add] at d0 d1 d2 d3 d4 d5 d6 d7 d8 d9 d10 d11
  have gt := hfa.keep ht (fun h => h)
  have gr := hfa.keep hr (fun h => h)
  have gf := hfa.keep hf (fun h => h)
  have ct : W.cell? ⟨bt, 0, none⟩ = some (.int .i64 t) := by simp [World.cell?, gt]
  have cf : W.cell? ⟨bf, 0, none⟩ = some (.func (.func g) #[] cap) := by simp [World.cell?, gf]
  have hc : ∀ i u, r.cells[i]? = some u → W.cell? ⟨br, i, none⟩ = some u := fun i u hu => by simp only [World.cell?, gr]; simpa using hu
  have c1 := hc 1 _ rfl
  have c2 := hc 2 _ rfl
  have c3 := hc 3 _ rfl
  have c4 := hc 4 _ rfl
  have c5 := hc 5 _ rfl
  have c6 := hc 6 _ rfl
  have c7 := hc 7 _ rfl
  have c8 := hc 8 _ rfl
  have c11 := hc 11 _ rfl
  have HF := Lib.hid hfa
  have HC := Lib.hid (hg W hfa)
  have HW := Lib.hid hW
  clear hr gr gp hc hfa ht hf gt gf hg
  rw [hW] at d0 d1 d2 d3 d4 d5 d6 d7 d8 d9 d10 d11 ct cf c1 c2 c3 c4 c5 c6 c7 c8 c11
  clear hW
  unfold Pas.cells at *
  cases e0 : p.alive t
  · have HR := Lib.hid (show res = false by rw [HRES.out, e0]; rfl)
    have ha : ¬ t < p.til := by unfold Pas.alive at e0; simpa using e0
    clear e0
    go_enter Tryd.func34, Tryd.ntmps34
    go_wp2
    go_ret
    exact ⟨by rw [HR.out]; rfl, HW.out ▸ HF.out⟩
  have ha : t < p.til := by unfold Pas.alive at e0; simpa using e0
  cases e1 : p.frm.eqB r.frm
  · have HR := Lib.hid (show res = false by rw [HRES.out, e0, e1]; rfl)
    rw [e1] at heq
    clear e0 e1
    go_enter Tryd.func34, Tryd.ntmps34
    go_wp2
    go_ret
    exact ⟨by rw [HR.out]; rfl, HW.out ▸ HF.out⟩
  rw [e1] at heq
  cases e2 : (p.o.eqB r.o && (p.path.toList == r.path.toList && p.query.toList == r.query.toList))
  · have HR := Lib.hid (show res = false by rw [HRES.out, e0, e1, e2]; rfl)
    rw [e2] at heu
    clear e0 e1 e2
    go_enter Tryd.func34, Tryd.ntmps34
    go_wp2
    go_ret
    exact ⟨by rw [HR.out]; rfl, HW.out ▸ HF.out⟩
  rw [e2] at heu
  rcases (show p.wth = false ∨ p.wth = true by cases p.wth <;> simp) with e3 | e3
  · rcases (show r.wth = false ∨ r.wth = true by cases r.wth <;> simp) with e4 | e4
    · have HR := Lib.hid (show res = f by rw [HRES.out, e0, e1, e2, e3, e4]; rfl)
      replace d8 := d8.trans (by rw [e3])
      rw [e3] at HC
      replace c11 := c11.trans (by rw [e4])
      clear e0 e1 e2 e3 e4
      go_enter Tryd.func34, Tryd.ntmps34
      go_wp2_with fail
      rw [← HW.out]
      refine HC.out.mono ?_
      rintro e u ⟨rfl, hu⟩
      cases f
      · go_wp2
        go_ret
        exact ⟨by rw [HR.out]; rfl, HF.out.trans hu⟩
      · go_wp2
        go_ret
        exact ⟨by rw [HR.out]; rfl, HF.out.trans hu⟩
    · have HR := Lib.hid (show res = false by rw [HRES.out, e0, e1, e2, e3, e4]; rfl)
      replace d8 := d8.trans (by rw [e3])
      replace c11 := c11.trans (by rw [e4])
      clear e0 e1 e2 e3 e4
      go_enter Tryd.func34, Tryd.ntmps34
      go_wp2
      go_ret
      exact ⟨by rw [HR.out]; rfl, HW.out ▸ HF.out⟩
  · have HR := Lib.hid (show res = f by rw [HRES.out, e0, e1, e2, e3]; rfl)
    replace d8 := d8.trans (by rw [e3])
    rw [e3] at HC
    clear e0 e1 e2 e3
    go_enter Tryd.func34, Tryd.ntmps34
    go_wp2_with fail
    rw [← HW.out]
    refine HC.out.mono ?_
    rintro e u ⟨rfl, hu⟩
    cases f
    · go_wp2
      go_ret
      exact ⟨by rw [HR.out]; rfl, HF.out.trans hu⟩
    · go_wp2
      go_ret
      exact ⟨by rw [HR.out]; rfl, HF.out.trans hu⟩
set_option maxHeartbeats 1000000 in
set_option maxRecDepth 100000 in
theorem Sou1_any (v : Value) (l : List Pas) (r : ReqOf Value) (hs : List Prm) (t : Int) (g : Nat) (cap : Array Value) (f : Pas → Bool) (bl bt br : Nat) (w : World) (eg : ∀ args w, (callFunc g args).run Tryd.prog w = .ok (.enter g args) w)
    (hg : ∀ p ∈ l, ∀ u, Fr noB w u → Calls Tryd.prog g (#[.agg p.cells.toArray] ++ cap) u fun e w' => e = .returned (.bool (f p)) ∧ Fr noB u w')
    (hl : w.heap[bl]? = some (.cells #[v] 53 (0, 0))) (hv : PasAt w v l)
    (ht : w.heap[bt]? = some (.cells #[.int .i64 t] 3 (0, 0))) (hr : w.heap[br]? = some (.cells r.cells.toArray 67 (0, 0))) :
    Calls Tryd.prog 32 #[.func (.func g) #[] cap, .pointer (some ⟨bl, 0, none⟩), .pointer (some ⟨bt, 0, none⟩), .pointer (some ⟨br, 0, none⟩)] w fun e w' => e = .returned (.bool (l.any (fun p => (r.toL hs).mine t p && f p))) ∧ Fr noB w w' := by
  obtain ⟨W, hW⟩ : ∃ W, W = w.alloc (.cells #[.func (.func g) #[] cap] 73) := ⟨_, rfl⟩
  have hfa : Fr noB w W := by rw [hW]; exact (Fr.refl noB w).alloc _
  have gf : W.heap[w.heap.size]? = some (.cells #[.func (.func g) #[] cap] 73 (0, 0)) := by rw [hW]; exact new_block _ _
  have gl := hfa.keep hl (fun h => h)
  have hc := ContainsFunc_Pa 34 #[.pointer (some ⟨bt, 0, none⟩), .pointer (some ⟨br, 0, none⟩), .pointer (some ⟨w.heap.size, 0, none⟩)] (fun x => (r.toL hs).mine t (pasC x) && f (pasC x)) v (l.map Pas.cells) W Tryd.call34 (fun x hx u hu => by
    obtain ⟨p, hp, rfl⟩ := List.mem_map.1 hx
    exact Sou11_any p r hs t g cap (f p) bt br w.heap.size u eg (fun u' hu' => hg p hp u' ((hfa.trans hu).trans hu')) ((hfa.trans hu).keep ht (fun h => h)) ((hfa.trans hu).keep hr (fun h => h)) (hu.keep gf (fun h => h))) (RowsAt.frNone hv hfa)
  rw [any_pasC l (fun p => (r.toL hs).mine t p && f p)] at hc
  obtain ⟨av, cv, rfl⟩ := RowsAt.form hv
  rw [List.length_map] at hc hl
  have HC := Lib.hid hc
  have HF := Lib.hid hfa
  have cl : W.cell? ⟨bl, 0, none⟩ = some (.slice av l.length cv) := by simp [World.cell?, gl]
  have HW := Lib.hid hW
  rw [hW] at cl
  generalize l.any (fun p => (r.toL hs).mine t p && f p) = res at *
  clear hc hfa gf gl hl hv ht hr hg hW
  go_enter Tryd.func32, Tryd.ntmps32
  go_wp2_with fail
  rw [← HW.out]
  refine HC.out.mono ?_
  rintro e u ⟨rfl, hu⟩
  go_wp2
  go_ret
  exact ⟨rfl, HF.out.trans hu⟩
end Go.Proofs.YtkoobhgedoanhaaDoor
