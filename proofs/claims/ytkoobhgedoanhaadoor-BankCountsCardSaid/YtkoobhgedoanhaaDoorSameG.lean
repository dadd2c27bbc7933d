/- sameAsk and sameGrant of the laws, at what reads the same. -/
import Derived.Test.YtkoobhgedoanhaaDoorReadsDet
namespace Go.Proofs.YtkoobhgedoanhaaDoor
open Go.RowKit

theorem EqualS_same (v v' : Value) (ss : List ByteArray) (w : World) (h : StrsAt w v ss) (h' : StrsAt w v' ss) (hl : ss.length ≤ 9223372036854775807) :
    Calls Tryd.prog 58 #[v, v'] w fun e w' => e = .returned (.bool true) ∧ Fr noB w w' := by
  rcases h with ⟨a, c, rfl, rfl, _⟩ | ⟨bk, o, c, rfl, h1, h2, h3, h4⟩
  · obtain ⟨a', c', rfl⟩ := h'.form
    refine (Tryd.slices_Equal_string_empty a a' c 0 c' w (by omega)).mono ?_
    rintro e w' ⟨rfl, rfl⟩
    exact ⟨rfl, Fr.refl _ _⟩
  · rcases h' with ⟨a', c', rfl, rfl, _⟩ | ⟨bk', o', c', rfl, h1', h2', h3', h4'⟩
    · refine (Tryd.slices_Equal_string_empty (some ⟨bk, o, none⟩) a' c 0 c' w (by omega)).mono ?_
      rintro e w' ⟨rfl, rfl⟩
      exact ⟨rfl, Fr.refl _ _⟩
    · refine (Tryd.slices_Equal_string bk o ss.length c bk' o' ss.length c' ss ss w (Nat.le_refl _) (Nat.le_refl _) hl hl (fun j hj => h4 j _ (by simp [List.getD, hj])) (fun j hj => h4' j _ (by simp [List.getD, hj]))).mono ?_
      rintro e w' ⟨rfl, q, rfl⟩
      exact ⟨by simp, Fr.drewN _ (Fr.refl _ _)⟩
theorem run_eql_creds (u p : ByteArray) (w : World) : (binOp .eql 29 (.agg #[.string u, .string p]) (.agg #[.string u, .string p])).run Tryd.prog w = .ok (.bool true) w := by
  go_simp
set_option maxHeartbeats 2000000 in
set_option maxRecDepth 100000 in
theorem sameAsk_same (r r' : AskOf Value) (a : AskOf Texts) (w : World) (h : r.Reads (StrsAt w) a) (h' : r'.Reads (StrsAt w) a) (hl : a.dom.length ≤ 9223372036854775807) :
    Calls Tryd.prog 57 #[.agg r.cells.toArray, .agg r'.cells.toArray] w fun e w' => e = .returned (.bool true) ∧ Fr noB w w' := by
  obtain ⟨e1, e2, e3, e4, e5, e6, e7, hd⟩ := h
  obtain ⟨f1, f2, f3, f4, f5, f6, f7, hd'⟩ := h'
  obtain ⟨ad, cd, hdv⟩ := hd.form
  obtain ⟨ad', cd', hdv'⟩ := hd'.form
  unfold AskOf.cells
  rw [e1, e2, e3, e4, e5, e6, e7, f1, f2, f3, f4, f5, f6, f7, hdv, hdv']
  rw [hdv] at hd
  rw [hdv'] at hd'
  have hf : Fr noB w _ := ((Fr.refl noB w).alloc (.cells #[.int .i64 a.scheme, .string a.realm, .string a.nonce, .string a.opaq, .bool a.sess, .string a.qop, .bool a.stale, .slice ad a.dom.length cd] 32)).alloc (.cells #[.int .i64 a.scheme, .string a.realm, .string a.nonce, .string a.opaq, .bool a.sess, .string a.qop, .bool a.stale, .slice ad' a.dom.length cd'] 32)
  have EQ := Lib.hid (EqualS_same _ _ _ _ (hd.frNone hf) (hd'.frNone hf) hl)
  clear e1 e2 e3 e4 e5 e6 e7 f1 f2 f3 f4 f5 f6 f7 hdv hdv' hd hd'
  go_enter Tryd.func57, Tryd.ntmps57
  go_wp2_with fail
  refine EQ.out.mono ?_
  rintro e w1 ⟨rfl, hf1⟩
  go_wp2
  go_ret
  exact ⟨rfl, hf.trans hf1⟩
set_option maxHeartbeats 4000000 in
set_option maxRecDepth 100000 in
theorem sameGrant_same (r r' : GrantOf Value) (g : GrantOf Texts) (w : World) (h : r.Reads (StrsAt w) g) (h' : r'.Reads (StrsAt w) g) (hl : g.a.dom.length ≤ 9223372036854775807) (hl2 : g.paths.length ≤ 9223372036854775807) :
    Calls Tryd.prog 19 #[.agg r.cells.toArray, .agg r'.cells.toArray] w fun e w' => e = .returned (.bool true) ∧ Fr noB w w' := by
  obtain ⟨e1, e2, e3, e4, e5, e6, hd⟩ := h
  obtain ⟨f1, f2, f3, f4, f5, f6, hd'⟩ := h'
  obtain ⟨ad, cd, hdv⟩ := hd.form
  obtain ⟨ad', cd', hdv'⟩ := hd'.form
  obtain ⟨am, cm, hm⟩ := e5.2.2.2.2.2.2.2.form
  obtain ⟨am', cm', hm'⟩ := f5.2.2.2.2.2.2.2.form
  have hr : r.cells = [.bool g.o.secure, .string g.o.host, .int .i64 g.o.port, .bool g.proxy, .string g.user, .string g.pass, .int .i64 g.a.scheme, .string g.a.realm, .string g.a.nonce, .string g.a.opaq, .bool g.a.sess, .string g.a.qop, .bool g.a.stale, .slice am g.a.dom.length cm, .int .i64 g.count, .slice ad g.paths.length cd] := by
    unfold GrantOf.cells
    rw [e1, e2, e3, e4, e5.1, e5.2.1, e5.2.2.1, e5.2.2.2.1, e5.2.2.2.2.1, e5.2.2.2.2.2.1, e5.2.2.2.2.2.2.1, hm, e6, hdv]
  have hr' : r'.cells = [.bool g.o.secure, .string g.o.host, .int .i64 g.o.port, .bool g.proxy, .string g.user, .string g.pass, .int .i64 g.a.scheme, .string g.a.realm, .string g.a.nonce, .string g.a.opaq, .bool g.a.sess, .string g.a.qop, .bool g.a.stale, .slice am' g.a.dom.length cm', .int .i64 g.count, .slice ad' g.paths.length cd'] := by
    unfold GrantOf.cells
    rw [f1, f2, f3, f4, f5.1, f5.2.1, f5.2.2.1, f5.2.2.2.1, f5.2.2.2.2.1, f5.2.2.2.2.2.1, f5.2.2.2.2.2.2.1, hm', f6, hdv']
  have hra : r.a.cells = [.int .i64 g.a.scheme, .string g.a.realm, .string g.a.nonce, .string g.a.opaq, .bool g.a.sess, .string g.a.qop, .bool g.a.stale, .slice am g.a.dom.length cm] := by
    unfold AskOf.cells
    rw [e5.1, e5.2.1, e5.2.2.1, e5.2.2.2.1, e5.2.2.2.2.1, e5.2.2.2.2.2.1, e5.2.2.2.2.2.2.1, hm]
  have hra' : r'.a.cells = [.int .i64 g.a.scheme, .string g.a.realm, .string g.a.nonce, .string g.a.opaq, .bool g.a.sess, .string g.a.qop, .bool g.a.stale, .slice am' g.a.dom.length cm'] := by
    unfold AskOf.cells
    rw [f5.1, f5.2.1, f5.2.2.1, f5.2.2.2.1, f5.2.2.2.2.1, f5.2.2.2.2.2.1, f5.2.2.2.2.2.2.1, hm']
  rw [hr, hr']
  rw [hdv] at hd
  rw [hdv'] at hd'
  have hf : Fr noB w _ := ((Fr.refl noB w).alloc (.cells #[.bool g.o.secure, .string g.o.host, .int .i64 g.o.port, .bool g.proxy, .string g.user, .string g.pass, .int .i64 g.a.scheme, .string g.a.realm, .string g.a.nonce, .string g.a.opaq, .bool g.a.sess, .string g.a.qop, .bool g.a.stale, .slice am g.a.dom.length cm, .int .i64 g.count, .slice ad g.paths.length cd] 34)).alloc (.cells #[.bool g.o.secure, .string g.o.host, .int .i64 g.o.port, .bool g.proxy, .string g.user, .string g.pass, .int .i64 g.a.scheme, .string g.a.realm, .string g.a.nonce, .string g.a.opaq, .bool g.a.sess, .string g.a.qop, .bool g.a.stale, .slice am' g.a.dom.length cm', .int .i64 g.count, .slice ad' g.paths.length cd'] 34)
  have SA := Lib.hid (sameAsk_same r.a r'.a g.a _ (e5.mono (fun _ _ h => h.frNone hf)) (f5.mono (fun _ _ h => h.frNone hf)) hl)
  rw [hra, hra'] at SA
  have hpa := Lib.hid (hd.frNone hf)
  have hpa' := Lib.hid (hd'.frNone hf)
  have hoe : Ori.eqB g.o g.o = true := (Ori.eqB_iff _ _).2 rfl
  have hne := run_eql_ori g.o g.o
  rw [hoe] at hne
  have hce := run_eql_creds g.user g.pass
  clear e1 e2 e3 e4 e5 e6 f1 f2 f3 f4 f5 f6 hdv hdv' hd hd' hm hm' hr hr' hra hra' hoe
  obtain ⟨x, hx⟩ : ∃ x : Array Value, x = #[.bool g.o.secure, .string g.o.host, .int .i64 g.o.port, .bool g.proxy, .string g.user, .string g.pass, .int .i64 g.a.scheme, .string g.a.realm, .string g.a.nonce, .string g.a.opaq, .bool g.a.sess, .string g.a.qop, .bool g.a.stale, .slice am g.a.dom.length cm, .int .i64 g.count, .slice ad g.paths.length cd] := ⟨_, rfl⟩
  obtain ⟨y, hy⟩ : ∃ y : Array Value, y = #[.bool g.o.secure, .string g.o.host, .int .i64 g.o.port, .bool g.proxy, .string g.user, .string g.pass, .int .i64 g.a.scheme, .string g.a.realm, .string g.a.nonce, .string g.a.opaq, .bool g.a.sess, .string g.a.qop, .bool g.a.stale, .slice am' g.a.dom.length cm', .int .i64 g.count, .slice ad' g.paths.length cd'] := ⟨_, rfl⟩
  have hb0 : ((w.alloc (.cells x 34)).alloc (.cells y 34)).heap[w.heap.size]? = some (.cells x 34 (0, 0)) := by
    rw [Below.heap_alloc _ _ _ (by simp)]; exact new_block w _
  have hb1 : ((w.alloc (.cells x 34)).alloc (.cells y 34)).heap[w.heap.size + 1]? = some (.cells y 34 (0, 0)) := by
    have := new_block (w.alloc (.cells x 34)) (.cells y 34)
    simpa using this
  have x14 : x[14]? = some (.int .i64 g.count) := by rw [hx]; rfl
  have x15 : x[15]? = some (.slice ad g.paths.length cd) := by rw [hx]; rfl
  have y14 : y[14]? = some (.int .i64 g.count) := by rw [hy]; rfl
  have y15 : y[15]? = some (.slice ad' g.paths.length cd') := by rw [hy]; rfl
  have X := Lib.hid (And.intro x14 x15)
  have Y := Lib.hid (And.intro y14 y15)
  have HB := Lib.hid (And.intro hb0 hb1)
  have HX := Lib.hid hx
  have HY := Lib.hid hy
  clear x14 x15 y14 y15 hb0 hb1 hx hy
  go_enter Tryd.func19, Tryd.ntmps19
  go_wp2_with fail
  refine SA.out.mono ?_
  rintro e w1 ⟨rfl, hf1⟩
  clear SA
  rw [← HX.out, ← HY.out] at hf hf1 hpa hpa'
  have hb0 := hf1.keep HB.out.1 (fun h => h)
  have hb1 := hf1.keep HB.out.2 (fun h => h)
  have c14 : w1.cell? ⟨w.heap.size, 14, none⟩ = some (.int .i64 g.count) := by simp only [World.cell?, hb0]; simpa using X.out.1
  have c15 : w1.cell? ⟨w.heap.size, 15, none⟩ = some (.slice ad g.paths.length cd) := by simp only [World.cell?, hb0]; simpa using X.out.2
  have d14 : w1.cell? ⟨w.heap.size + 1, 14, none⟩ = some (.int .i64 g.count) := by simp only [World.cell?, hb1]; simpa using Y.out.1
  have d15 : w1.cell? ⟨w.heap.size + 1, 15, none⟩ = some (.slice ad' g.paths.length cd') := by simp only [World.cell?, hb1]; simpa using Y.out.2
  have EQ := Lib.hid (EqualS_same _ _ _ w1 (hpa.out.frNone hf1) (hpa'.out.frNone hf1) hl2)
  have HF := Lib.hid (hf.trans hf1)
  clear hb0 hb1 hf hf1 hpa hpa' HB X Y HX HY hne hce
  go_wp2_with fail
  refine EQ.out.mono ?_
  rintro e w2 ⟨rfl, hf2⟩
  go_wp2
  go_ret
  exact ⟨rfl, HF.out.trans hf2⟩

def EqRel (w : World) (n : Nat) (i : Value) (wr : World) : Prop := ∃ k : Nat, k ≤ n ∧ i = .int .i64 k ∧ Fr noB w wr
set_option maxHeartbeats 2000000 in
set_option maxRecDepth 100000 in
/-- slices.EqualFunc by sameGrant, at grants that read the same -/
theorem EqualG_same (v v' : Value) (rs rs' : List (GrantOf Value)) (gs : List (GrantOf Texts)) (w : World) (hv : RowsAt 16 w v (rs.map GrantOf.cells)) (hv' : RowsAt 16 w v' (rs'.map GrantOf.cells)) (hb : Both (GrantOf.Reads (StrsAt w)) rs gs) (hb' : Both (GrantOf.Reads (StrsAt w)) rs' gs)
    (hl : ∀ g ∈ gs, g.a.dom.length ≤ 9223372036854775807 ∧ g.paths.length ≤ 9223372036854775807) :
    Calls Tryd.prog 18 #[v, v', .func (.func 19) #[] #[]] w fun e w' => e = .returned (.bool true) ∧ Fr noB w w' := by
  have hn := hb.len
  have hn' := hb'.len
  obtain ⟨av, cv, hform⟩ := hv.form
  obtain ⟨av', cv', hform'⟩ := hv'.form
  rw [List.length_map, hn] at hform
  rw [List.length_map, hn'] at hform'
  subst hform hform'
  go_enter Tryd.func18, Tryd.ntmps18
  go_wp2
  go_loopw [17] (EqRel w gs.length) (fun i _ => gs.length - (intOf i).toNat)
  case atStart => exact ⟨0, Nat.zero_le _, rfl, Fr.refl _ _⟩
  case round =>
    obtain ⟨k, hk, rfl, hfr⟩ := hrel
    by_cases hks : k < gs.length
    · obtain ⟨r, hri⟩ : ∃ r, rs[k]? = some r := ⟨_, List.getElem?_eq_getElem (by omega)⟩
      obtain ⟨r', hri'⟩ : ∃ r, rs'[k]? = some r := ⟨_, List.getElem?_eq_getElem (by omega)⟩
      obtain ⟨g, hg, hr⟩ := hb.get hri
      obtain ⟨g', hg', hr'⟩ := hb'.get hri'
      rw [hg] at hg'
      cases hg'
      obtain ⟨hl1, hl2⟩ := hl g (List.mem_of_getElem? hg)
      have hone := (hv.1 _ (List.mem_map.2 ⟨r, List.mem_of_getElem? hri, rfl⟩)).2
      have hone' := (hv'.1 _ (List.mem_map.2 ⟨r', List.mem_of_getElem? hri', rfl⟩)).2
      rcases (hv.frNone hfr).2 with ⟨_, _, _, e, _⟩ | ⟨bk, o, c, e1, q1, q2, q3, q4⟩
      · simp at e; rw [e] at hn; simp at hn; omega
      rcases (hv'.frNone hfr).2 with ⟨_, _, _, e, _⟩ | ⟨bk', o', c', e1', q1', q2', q3', q4'⟩
      · simp at e; rw [e] at hn'; simp at hn'; omega
      rw [List.length_map, hn] at e1 q1
      rw [List.length_map, hn'] at e1' q1'
      cases e1
      cases e1'
      unfold maxLen at q2 q2'
      have hcell := q4 k r.cells (by rw [List.getElem?_map, hri]; rfl)
      have hcell0' := q4' k r'.cells (by rw [List.getElem?_map, hri']; rfl)
      obtain ⟨x, hx⟩ : ∃ x, x = r.cells := ⟨_, rfl⟩
      obtain ⟨y, hy⟩ : ∃ y, y = r'.cells := ⟨_, rfl⟩
      have hxk : x.length = 16 := by rw [hx]; rfl
      have hyk : y.length = 16 := by rw [hy]; rfl
      have hst := fun W => run_storeCells_new (P := Tryd.prog) W 34 zGrant x (by rw [hxk]; rfl) (by rw [hx]; exact hone)
      have hst2 := run_storeCells_new (P := Tryd.prog) (wr.alloc (.cells x.toArray 34)) 34 zGrant y (by rw [hyk]; rfl) (by rw [hy]; exact hone')
      rw [show (wr.alloc (.cells x.toArray 34)).heap.size = wr.heap.size + 1 from by simp] at hst2
      rw [← hx] at hcell
      rw [← hy] at hcell0'
      have hcell' : ∀ (i : Nat) u, y[i]? = some u → (wr.alloc (.cells x.toArray 34)).cell? ⟨bk', o' + k * 16 + i, none⟩ = some u := fun i u hu => by
        have := hcell0' i u hu
        rw [← this]
        exact ((Fr.refl noB wr).alloc _).cell (p := ⟨bk', o' + k * 16 + i, none⟩) q3' (fun h => h)
      have hf2 : Fr noB wr ((wr.alloc (.cells x.toArray 34)).alloc (.cells y.toArray 34)) := ((Fr.refl noB wr).alloc _).alloc _
      have hb0 : ((wr.alloc (.cells x.toArray 34)).alloc (.cells y.toArray 34)).heap[wr.heap.size]? = some (.cells x.toArray 34 (0, 0)) := by
        rw [Below.heap_alloc _ _ _ (by simp)]; exact new_block wr _
      have hb1 : ((wr.alloc (.cells x.toArray 34)).alloc (.cells y.toArray 34)).heap[wr.heap.size + 1]? = some (.cells y.toArray 34 (0, 0)) := by
        have := new_block (wr.alloc (.cells x.toArray 34)) (.cells y.toArray 34)
        simpa using this
      have SG := Lib.hid (sameGrant_same r r' g _ (hr.mono (fun _ _ h => (h.frNone hfr).frNone hf2)) (hr'.mono (fun _ _ h => (h.frNone hfr).frNone hf2)) hl1 hl2)
      rw [← hx, ← hy] at SG
      have HB := Lib.hid (And.intro hb0 hb1)
      have HF := Lib.hid (hfr.trans hf2)
      have hxi : (Tryd.prog.info? 34).map (·.size) = some x.length := by rw [hxk]; kernel_rfl
      have hyi : (Tryd.prog.info? 34).map (·.size) = some y.length := by rw [hyk]; kernel_rfl
      have HXI := Lib.hid hxi
      have HYI := Lib.hid hyi
      clear hx hy hb0 hb1 hone hone' hr hr' hg hri hri' q4 q4' hcell0' hxi hyi hl1 hl2 hf2
      go_wp2_with (first | ((with_reducible refine wpList_at ⟨some 21, _, _, _, _, _⟩ ?_); go_must (refine wpList_load_mid rfl 34 (.tmp 20) rfl bk (o + k * 16) rfl x _ hcell Tryd.underlying34 rfl HXI.out ?_)) | ((with_reducible refine wpList_at ⟨some 25, _, _, _, _, _⟩ ?_); go_must (refine wpList_load_mid rfl 34 (.tmp 24) rfl bk' (o' + k * 16) rfl y _ hcell' Tryd.underlying34 rfl HYI.out ?_)) | ((with_reducible refine wpList_at ⟨some 27, _, _, _, _, _⟩ ?_); go_must (refine wpList_load_row rfl 34 (.tmp 8) rfl wr.heap.size rfl _ x.toArray (0, 0) _ HB.out.1 Tryd.underlying34 rfl (by rw [List.size_toArray]; exact HXI.out) ?_)) | ((with_reducible refine wpList_at ⟨some 28, _, _, _, _, _⟩ ?_); go_must (refine wpList_load_row rfl 34 (.tmp 9) rfl (wr.heap.size + 1) rfl _ y.toArray (0, 0) _ HB.out.2 Tryd.underlying34 rfl (by rw [List.size_toArray]; exact HYI.out) ?_)) | fail)
      clear hst hst2
      refine SG.out.mono ?_
      rintro e w3 ⟨rfl, hf3⟩
      have HF3 := Lib.hid (HF.out.trans hf3)
      go_wp2
      go_roundw
      case rel => exact ⟨k + 1, by omega, by go_num, HF3.out⟩
      case measure => simp [intOf]; omega
    · go_wp2
      go_ret
      exact ⟨rfl, hfr⟩
end Go.Proofs.YtkoobhgedoanhaaDoor
