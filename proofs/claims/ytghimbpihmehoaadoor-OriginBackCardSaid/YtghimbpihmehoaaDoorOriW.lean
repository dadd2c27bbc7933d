/- The law OriginBack: its walk. -/
import Derived.Test.YtghimbpihmehoaaDoorNamed
import Derived.Test.YtghimbpihmehoaaDoorUrlLaws
import Derived.Test.YtghimbpihmehoaaDoorPrint
import Derived.Test.YtghimbpihmehoaaDoorOpenA
import Derived.Deep.RegionHeld3
namespace Go.Proofs.YtghimbpihmehoaaDoor
open Go.RowKit

theorem toL_inj {o p : Ori} (h : o.toL = p.toL) : o = p := by
  obtain ⟨a, b, c⟩ := o
  obtain ⟨a', b', c'⟩ := p
  unfold Ori.toL at h
  simp only [OriL.mk.injEq] at h
  obtain ⟨rfl, hb, rfl⟩ := h
  rw [Go.WideShapes.bytes_inj hb]
theorem text_eq {o p : Ori} (ho : rightO o = true) (hp : rightO p = true) : ((oriB o).toList == (oriB p).toList) = o.eqB p := by
  rw [Bool.eq_iff_iff, beq_iff_eq, Ori.eqB_iff, toList_inj]
  constructor
  · intro h
    have h1 : textO o.toL = textO p.toL := by
      have := congrArg (fun b : ByteArray => b.data.toList) h
      exact this
    exact toL_inj (text_inj ho hp h1)
  · rintro rfl; rfl
theorem origin_oriB {o : Ori} (ho : rightO o = true) : originV (oriB o).data.toList = .tuple #[.agg o.cells.toArray, .nilIface] := by
  have h := origin_text (o := o.toL) ho
  unfold originV
  show (match originL (textO o.toL) with | some o => _ | none => _) = _
  rw [h]
  rfl
set_option maxRecDepth 100000 in
theorem host_big (s : ByteArray) (w : World) (h60 : 60 < s.size) (hs : s.size ≤ 140737488351232) :
    Calls Tryd.prog 85 #[.string s] w fun e w' => e = .returned (.bool false) ∧ Fr noB w w' := by
  have i60 : (60 : Int) < (s.size : Int) := by omega
  go_enter Tryd.func85, Tryd.ntmps85
  go_wp2
  refine bodyPost_ret (v := .bool false) ?_ rfl ⟨rfl, ?_⟩
  · simp [results, Tryd.f85, go_sem]
  · first | exact (Fr.refl noB w).alloc _ | exact ((Fr.refl noB w).alloc _).setNew (p := ⟨w.heap.size, 0, none⟩) (Nat.le_refl _) _
set_option maxHeartbeats 1000000 in
theorem Right_all (o : Ori) (w : World) (hs : o.host.size ≤ 140737488351232) :
    Calls Tryd.prog 41 #[.agg o.cells.toArray] w fun e w' => e = .returned (.bool (rightO o)) ∧ Fr noB w w' := by
  by_cases hz : o.host.size < 100000
  · exact Right_any o w hz
  · obtain ⟨sec, host, port⟩ := o
    unfold Ori.cells
    have hz : ¬ host.size < 100000 := hz
    have hs : host.size ≤ 140737488351232 := hs
    have HR := Lib.hid (show rightO ⟨sec, host, port⟩ = false by
      unfold rightO rightB hostB
      rw [decide_eq_false (by have : host.data.toList.length = host.size := by simp
                              show ¬ host.data.toList.length ≤ 60
                              omega)]
      rfl)
    obtain ⟨wb, hwb⟩ : ∃ wb, wb = w.alloc (.cells #[.bool sec, .string host, .int .i64 port] 57) := ⟨_, rfl⟩
    have hfb : Fr noB w wb := by rw [hwb]; exact (Fr.refl noB w).alloc _
    have HWB := Lib.hid hwb
    clear hwb
    go_enter Tryd.func41, Tryd.ntmps41
    go_wp2_with fail
    rw [← HWB.out]
    refine (host_big host wb (by omega) hs).mono ?_
    rintro e u ⟨rfl, hfu⟩
    go_wp2
    go_ret
    exact ⟨by rw [HR.out]; rfl, hfb.trans hfu⟩
set_option maxRecDepth 100000 in
set_option maxHeartbeats 8000000 in
theorem OriginBack_walk (o p : Ori) (w : World) (so : o.Sized ∧ (Lit.int .i64 o.port).wf = true) (sp : p.Sized ∧ (Lit.int .i64 p.port).wf = true) (ht : PwTab w) :
    Calls Tryd.prog 10 #[.agg o.cells.toArray, .agg p.cells.toArray] w fun e w' => e = .returned (.bool true) ∧ Below w.heap.size w w' := by
  have er : reachBytes = 140737488351232 := rfl
  have z1 : o.host.size ≤ 140737488351232 := so.1
  have z2 : p.host.size ≤ 140737488351232 := sp.1
  clear so sp
  have HN := Lib.hid (fun U (h : PwTab U) => named_any U h)
  have CRO := Lib.hid (fun U => Right_all o U z1)
  have CRP := Lib.hid (fun U => Right_all p U z2)
  have HTE := Lib.hid (@text_eq o p)
  have HOO := Lib.hid (@origin_oriB o)
  have HRO := Lib.hid (show rightO o = true → o.host.size ≤ 60 ∧ -9223372036854775808 ≤ o.port ∧ o.port ≤ 9223372036854775807 from fun h => by
    have := right_host (o := o.toL) h
    have h1 : o.host.data.toList.length ≤ 60 := this.1
    have h2 : 1 ≤ o.port := this.2.1
    have h3 : o.port ≤ 65535 := this.2.2
    have h4 : o.host.data.toList.length = o.host.size := by simp
    omega)
  have HRP := Lib.hid (show rightO p = true → p.host.size ≤ 60 ∧ -9223372036854775808 ≤ p.port ∧ p.port ≤ 9223372036854775807 from fun h => by
    have := right_host (o := p.toL) h
    have h1 : p.host.data.toList.length ≤ 60 := this.1
    have h2 : 1 ≤ p.port := this.2.1
    have h3 : p.port ≤ 65535 := this.2.2
    have h4 : p.host.data.toList.length = p.host.size := by simp
    omega)
  have CTO := Lib.hid (fun U h a b c => Text_any o U h a b c)
  have CTP := Lib.hid (fun U h a b c => Text_any p U h a b c)
  have heq := run_eql_ori o p
  have heo := run_eql_ori o o
  have hoo : o.eqB o = true := (Ori.eqB_iff o o).2 rfl
  rw [hoo] at heo
  clear hoo
  have HSZ := Lib.hid (show -9223372036854775808 ≤ o.port → o.port ≤ 9223372036854775807 → (oriB o).size ≤ o.host.size + 40 from fun a b => oriB_size o a b)
  unfold Ori.cells at *
  generalize hob : oriB o = ob at *
  generalize hpb : oriB p = pb at *
  generalize hro : rightO o = ro at *
  generalize hrp : rightO p = rp at *
  generalize heb : o.eqB p = eb at *
  clear hob hpb hro hrp heb
  obtain ⟨osec, oh, opt⟩ := o
  obtain ⟨psec, ph, ppt⟩ := p
  obtain ⟨x1, hx1⟩ : ∃ x1, x1 = (w.alloc (.cells #[.bool osec, .string oh, .int .i64 opt] 57)).alloc (.cells #[.bool psec, .string ph, .int .i64 ppt] 57) := ⟨_, rfl⟩
  have hf1 : Fr noB w x1 := by rw [hx1]; exact ((Fr.refl noB w).alloc _).alloc _
  have hb1 : x1.heap[w.heap.size]? = some (.cells #[.bool osec, .string oh, .int .i64 opt] 57 (0, 0)) := by rw [hx1]; exact ((Fr.refl noB _).alloc _).keep (new_block w _) (fun h => h)
  have hb2 : x1.heap[w.heap.size + 1]? = some (.cells #[.bool psec, .string ph, .int .i64 ppt] 57 (0, 0)) := by rw [hx1]; have := new_block (w.alloc (.cells #[.bool osec, .string oh, .int .i64 opt] 57)) (.cells #[.bool psec, .string ph, .int .i64 ppt] 57); simpa using this
  have HS := Lib.hid (show ∀ U, Fr noB x1 U → (U.cell? ⟨w.heap.size, 0, none⟩ = some (.bool osec) ∧ U.cell? ⟨w.heap.size, 1, none⟩ = some (.string oh) ∧ U.cell? ⟨w.heap.size, 2, none⟩ = some (.int .i64 opt)) ∧ U.cell? ⟨w.heap.size + 1, 0, none⟩ = some (.bool psec) ∧ U.cell? ⟨w.heap.size + 1, 1, none⟩ = some (.string ph) ∧ U.cell? ⟨w.heap.size + 1, 2, none⟩ = some (.int .i64 ppt) from fun U hU => by
    have j1 := hU.keep hb1 (fun h => h)
    have j2 := hU.keep hb2 (fun h => h)
    simp [World.cell?, j1, j2])
  have HX1 := Lib.hid hx1
  have HF1 := Lib.hid hf1
  clear hx1 hb1 hb2
  go_enter Tryd.func10, Tryd.ntmps10
  go_wp2_with fail
  rw [← HX1.out]
  refine (HN.out x1 (ht.fr hf1)).mono ?_
  rintro e u1 ⟨rfl, hf2⟩
  have HT1 := Lib.hid ((ht.fr hf1).fr hf2)
  have HF2 := Lib.hid hf2
  clear hf1 hf2 ht HN
  obtain ⟨⟨c0, c1, c2⟩, d0, d1, d2⟩ := HS.out u1 HF2.out
  go_wp2_with fail
  refine (CRO.out u1).mono ?_
  rintro e u2 ⟨rfl, hf3⟩
  have HF3 := Lib.hid (HF2.out.trans hf3)
  have HT2 := Lib.hid (HT1.out.fr hf3)
  clear hf3 c0 c1 c2 d0 d1 d2
  cases ro
  · go_wp2
    go_ret
    exact ⟨rfl, (HF1.out.trans HF3.out).none_below⟩
  · obtain ⟨⟨c0, c1, c2⟩, d0, d1, d2⟩ := HS.out u2 HF3.out
    go_wp2_with fail
    refine (CRP.out u2).mono ?_
    rintro e u3 ⟨rfl, hf4⟩
    have HF4 := Lib.hid (HF3.out.trans hf4)
    have HT3 := Lib.hid (HT2.out.fr hf4)
    clear hf4 c0 c1 c2 d0 d1 d2
    cases rp
    · go_wp2
      go_ret
      exact ⟨rfl, (HF1.out.trans HF4.out).none_below⟩
    · obtain ⟨a1, a2, a3⟩ := HRO.out (by simp)
      obtain ⟨b1, b2, b3⟩ := HRP.out (by simp)
      have hte := HTE.out (by simp) (by simp)
      have hoo := HOO.out (by simp)
      have hsz := HSZ.out a2 a3
      have a1 : oh.size ≤ 60 := a1
      have b1 : ph.size ≤ 60 := b1
      have hsz : ob.size ≤ oh.size + 40 := hsz
      have COR := Lib.hid (show ∀ U, Calls Tryd.prog 42 #[.string ob] U fun e w' => e = .returned (.tuple #[.agg #[.bool osec, .string oh, .int .i64 opt], .nilIface]) ∧ Fr noB U w' from fun U => (Origin_any ob U (by omega)).mono fun e w' h => ⟨by rw [h.1, hoo], h.2⟩)
      have CT1 := Lib.hid (show ∀ U, PwTab U → Calls Tryd.prog 43 #[.agg #[.bool osec, .string oh, .int .i64 opt]] U fun e w' => e = .returned (.string ob) ∧ Fr noB U w' from fun U h => CTO.out U h a2 a3 (Nat.lt_of_le_of_lt a1 (by decide)))
      have CT2 := Lib.hid (show ∀ U, PwTab U → Calls Tryd.prog 43 #[.agg #[.bool psec, .string ph, .int .i64 ppt]] U fun e w' => e = .returned (.string pb) ∧ Fr noB U w' from fun U h => CTP.out U h b2 b3 (Nat.lt_of_le_of_lt b1 (by decide)))
      clear hoo CTO CTP HRO HRP HTE HOO HSZ a2 a3 b1 b2 b3 CRO CRP
      obtain ⟨⟨c0, c1, c2⟩, d0, d1, d2⟩ := HS.out u3 HF4.out
      go_wp2_with fail
      refine (CT1.out u3 HT3.out).mono ?_
      rintro e u4 ⟨rfl, hf5⟩
      go_wp2_with fail
      refine (COR.out u4).mono ?_
      rintro e u5 ⟨rfl, hf6⟩
      have HF6 := Lib.hid ((HF4.out.trans hf5).trans hf6)
      have HT5 := Lib.hid ((HT3.out.fr hf5).fr hf6)
      clear hf5 hf6 c0 c1 c2 d0 d1 d2
      obtain ⟨x5, hx5⟩ : ∃ x5, x5 = u5.alloc (.cells #[.bool osec, .string oh, .int .i64 opt] 57) := ⟨_, rfl⟩
      have hb5 : x5.heap[u5.heap.size]? = some (.cells #[.bool osec, .string oh, .int .i64 opt] 57 (0, 0)) := by rw [hx5]; exact new_block _ _
      have HF7 := Lib.hid (show Fr noB x1 x5 by rw [hx5]; exact HF6.out.alloc _)
      have HT7 := Lib.hid (show PwTab x5 by rw [hx5]; exact HT5.out.fr ((Fr.refl noB u5).alloc _))
      have HS7 := Lib.hid (show ∀ U, Fr noB x5 U → ((U.cell? ⟨w.heap.size, 0, none⟩ = some (.bool osec) ∧ U.cell? ⟨w.heap.size, 1, none⟩ = some (.string oh) ∧ U.cell? ⟨w.heap.size, 2, none⟩ = some (.int .i64 opt)) ∧ U.cell? ⟨w.heap.size + 1, 0, none⟩ = some (.bool psec) ∧ U.cell? ⟨w.heap.size + 1, 1, none⟩ = some (.string ph) ∧ U.cell? ⟨w.heap.size + 1, 2, none⟩ = some (.int .i64 ppt)) ∧ U.cell? ⟨u5.heap.size, 0, none⟩ = some (.bool osec) ∧ U.cell? ⟨u5.heap.size, 1, none⟩ = some (.string oh) ∧ U.cell? ⟨u5.heap.size, 2, none⟩ = some (.int .i64 opt) from fun U hU => by
        have j1 := hU.keep hb5 (fun h => h)
        exact ⟨HS.out U (HF7.out.trans hU), by simp [World.cell?, j1]⟩)
      have HX5 := Lib.hid hx5
      clear hx5 hb5
      go_wp2_with fail
      rw [← HX5.out]
      obtain ⟨⟨⟨c0, c1, c2⟩, d0, d1, d2⟩, f0, f1, f2⟩ := HS7.out x5 (Fr.refl _ _)
      cases eb
      all_goals
        go_region_held3 (fun U => ((U.cell? ⟨w.heap.size, 0, none⟩ = some (.bool osec) ∧ U.cell? ⟨w.heap.size, 1, none⟩ = some (.string oh) ∧ U.cell? ⟨w.heap.size, 2, none⟩ = some (.int .i64 opt)) ∧ U.cell? ⟨w.heap.size + 1, 0, none⟩ = some (.bool psec) ∧ U.cell? ⟨w.heap.size + 1, 1, none⟩ = some (.string ph) ∧ U.cell? ⟨w.heap.size + 1, 2, none⟩ = some (.int .i64 ppt)) ∧ U.cell? ⟨u5.heap.size, 0, none⟩ = some (.bool osec) ∧ U.cell? ⟨u5.heap.size, 1, none⟩ = some (.string oh) ∧ U.cell? ⟨u5.heap.size, 2, none⟩ = some (.int .i64 opt)) ((refine HS7.out _ ?_; repeat (first | exact Fr.refl _ _ | apply Fr.alloc | apply Fr.drew | refine Fr.trans ?_ (by assumption)))) (first | (go_at_call 43; (with_reducible refine (CT1.out _ (HT7.out.fr (by repeat (first | exact Fr.refl _ _ | apply Fr.alloc | apply Fr.drew | refine Fr.trans ?_ (by assumption))))).mono ?_); rintro e v1 ⟨rfl, hv1⟩) | (go_at_call 43; (with_reducible refine (CT2.out _ (HT7.out.fr (by repeat (first | exact Fr.refl _ _ | apply Fr.alloc | apply Fr.drew | refine Fr.trans ?_ (by assumption))))).mono ?_); rintro e v2 ⟨rfl, hv2⟩))
        all_goals
          go_wp2
          go_ret
          exact ⟨rfl, ((HF1.out.trans HF7.out).trans (by repeat (first | exact Fr.refl _ _ | apply Fr.alloc | apply Fr.drew | refine Fr.trans ?_ (by assumption)))).none_below⟩
end Go.Proofs.YtghimbpihmehoaaDoor
