/- The law UrlSends: its walk. -/
import Derived.Test.YtghimbpihmehoaaDoorNamed
import Derived.Test.YtghimbpihmehoaaDoorUrlLaws
import Derived.Deep.RegionHeld3
namespace Go.Proofs.YtghimbpihmehoaaDoor
open Go.RowKit

theorem target_head {p q : ByteArray} (h : p.data.toList.head? = some 47) : Lib.hasPrefix (targetB p q).data.toList [47] = true := by
  rw [prefix47]
  unfold targetB
  split
  · rw [h]; rfl
  · have e : ((p ++ ⟨#[63]⟩) ++ q).data.toList.head? = some 47 := by
      cases hp : p.data.toList with
      | nil => rw [hp] at h; cases h
      | cons a l => rw [hp] at h; simp at h; simp [hp, h]
    rw [e]; rfl
set_option maxRecDepth 100000 in
set_option maxHeartbeats 8000000 in
theorem UrlSends_walk (s : ByteArray) (z0 : s.size ≤ 140737488351232) (w : World) (ht : PwTab w) :
    Calls Tryd.prog 13 #[.string s] w fun e w' => e = .returned (.bool true) ∧ Below w.heap.size w w' := by
  have HN := Lib.hid (named_any w ht)
  have HT := Lib.hid ht
  clear ht
  go_enter Tryd.func13, Tryd.ntmps13
  go_wp2_with fail
  refine HN.out.mono ?_
  rintro e u ⟨rfl, hf⟩
  have HF := Lib.hid hf
  clear hf HN
  by_cases hlen : 500 < s.size
  · have hlen' : (500 : Int) < (s.size : Int) := by omega
    go_wp2
    go_ret
    exact ⟨rfl, HF.out.none_below⟩
  · have hlen' : ¬ (500 : Int) < (s.size : Int) := by omega
    have hsl : s.data.toList.length = s.size := by simp
    go_wp2_with fail
    refine (Parse_any s u (by omega)).mono ?_
    rintro e u1 ⟨rfl, hf1⟩
    have HF1 := Lib.hid (HF.out.trans hf1)
    clear hf1
    rcases parseV_cases s.data.toList with ⟨n, hv⟩ | ⟨x, hx, hv⟩
    · rw [hv]
      clear hv
      go_wp2_with fail
      go_quiet (fail)
      go_wp2
      go_ret
      exact ⟨rfl, ((HF1.out.alloc _).drewN _).none_below⟩
    · rw [hv]
      clear hv
      have hr := right_host (parse_right hx)
      have hp := parse_path hx
      have hq := parse_query_len hx
      clear hx
      obtain ⟨⟨sec, host, port⟩, path, query⟩ := x
      have hr : host.length ≤ 60 ∧ 1 ≤ port ∧ port ≤ 65535 := hr
      have hp : path.head? = some 47 ∧ path.length ≤ 200 ∧ _ := hp
      have hq : query.length ≤ s.data.toList.length := hq
      obtain ⟨ho, hho⟩ : ∃ ho : ByteArray, ho = ⟨host.toArray⟩ := ⟨_, rfl⟩
      obtain ⟨pa, hpa⟩ : ∃ pa : ByteArray, pa = ⟨path.toArray⟩ := ⟨_, rfl⟩
      obtain ⟨qu, hqu⟩ : ∃ qu : ByteArray, qu = ⟨query.toArray⟩ := ⟨_, rfl⟩
      have zh : ho.size < 100000 := by rw [hho]; show host.toArray.size < _; simp; omega
      have zp : pa.size < 100000 := by rw [hpa]; show path.toArray.size < _; simp; omega
      have zq : qu.size < 100000 := by rw [hqu]; show query.toArray.size < _; simp; omega
      have HH := Lib.hid (target_head (q := qu) (show pa.data.toList.head? = some 47 by rw [hpa]; exact hp.1))
      have HPT := Lib.hid (print_target ⟨sec, ho, port⟩ pa qu)
      have HV : (UrlL.cells ⟨⟨sec, host, port⟩, path, query⟩).toArray = #[.bool sec, .string ho, .int .i64 port, .string pa, .string qu] := by rw [hho, hpa, hqu]; rfl
      rw [HV]
      clear HV hho hpa hqu hp hq
      obtain ⟨x1, hx1⟩ : ∃ x1, x1 = u1.alloc (.cells #[.bool sec, .string ho, .int .i64 port, .string pa, .string qu] 65) := ⟨_, rfl⟩
      have hb := new_block u1 (.cells #[.bool sec, .string ho, .int .i64 port, .string pa, .string qu] 65)
      rw [← hx1] at hb
      have HF2 := Lib.hid (show Fr noB w x1 by rw [hx1]; exact HF1.out.alloc _)
      have HS := Lib.hid (show ∀ U, Fr noB x1 U → U.cell? ⟨u1.heap.size, 0, none⟩ = some (.bool sec) ∧ U.cell? ⟨u1.heap.size, 1, none⟩ = some (.string ho) ∧ U.cell? ⟨u1.heap.size, 2, none⟩ = some (.int .i64 port) ∧ U.cell? ⟨u1.heap.size, 3, none⟩ = some (.string pa) ∧ U.cell? ⟨u1.heap.size, 4, none⟩ = some (.string qu) from fun U hU => by
        have j1 := hU.keep hb (fun h => h)
        simp [World.cell?, j1])
      have hoz := oriB_size ⟨sec, ho, port⟩ (by show _ ≤ port; omega) (by show port ≤ _; omega)
      have hoz : (oriB ⟨sec, ho, port⟩).size ≤ ho.size + 40 := hoz
      have htz : (targetB pa qu).size ≤ pa.size + qu.size + 1 := by
        unfold targetB
        split
        · omega
        · rw [ByteArray.size_append, ByteArray.size_append]; show pa.size + 1 + qu.size ≤ _; omega
      have CP := Lib.hid (show ∀ U, Fr noB x1 U → Calls Tryd.prog 48 #[.agg #[.bool sec, .string ho, .int .i64 port, .string pa, .string qu]] U fun e w' => e = .returned (.string (oriB ⟨sec, ho, port⟩ ++ targetB pa qu)) ∧ Fr noB U w' from fun U hU => (Print_any ⟨sec, ho, port⟩ pa qu U (HT.out.fr (HF2.out.trans hU)) (by show _ ≤ port; omega) (by show port ≤ _; omega) zh zp zq).mono fun e w' h => ⟨by rw [h.1, HPT.out], h.2⟩)
      have CT := Lib.hid (show ∀ U, Fr noB x1 U → Calls Tryd.prog 43 #[.agg #[.bool sec, .string ho, .int .i64 port]] U fun e w' => e = .returned (.string (oriB ⟨sec, ho, port⟩)) ∧ Fr noB U w' from fun U hU => Text_any ⟨sec, ho, port⟩ U (HT.out.fr (HF2.out.trans hU)) (by show _ ≤ port; omega) (by show port ≤ _; omega) zh)
      have CG := Lib.hid (show ∀ U, Calls Tryd.prog 49 #[.agg #[.bool sec, .string ho, .int .i64 port, .string pa, .string qu]] U fun e w' => e = .returned (.string (targetB pa qu)) ∧ Fr noB U w' from fun U => Target_any ⟨sec, ho, port⟩ pa qu U zp zq)
      have CH := Lib.hid (show ∀ U, Calls Tryd.prog 46 #[.string (targetB pa qu), .string ⟨#[47]⟩] U fun e w' => e = .returned (.bool true) ∧ U = w' from fun U => (Tryd.strings_HasPrefix (targetB pa qu) ⟨#[47]⟩ U).mono fun e w' h => ⟨by rw [h.1]; show Ending.returned (.bool (Lib.hasPrefix (targetB pa qu).data.toList [47])) = _; rw [HH.out], h.2.symm⟩)
      have HX1 := Lib.hid hx1
      clear hx1 hb HH HPT hr
      generalize oriB ⟨sec, ho, port⟩ = ob at *
      generalize targetB pa qu = tb at *
      have hn1 : ob.size + tb.size ≤ 9223372036854775807 := by omega
      have hn2 : ¬ 9223372036854775807 < ob.size + tb.size := by omega
      go_wp2_with fail
      rw [← HX1.out]
      obtain ⟨c0, c1, c2, c3, c4⟩ := HS.out x1 (Fr.refl _ _)
      go_region_held3 (fun U => U.cell? ⟨u1.heap.size, 0, none⟩ = some (.bool sec) ∧ U.cell? ⟨u1.heap.size, 1, none⟩ = some (.string ho) ∧ U.cell? ⟨u1.heap.size, 2, none⟩ = some (.int .i64 port) ∧ U.cell? ⟨u1.heap.size, 3, none⟩ = some (.string pa) ∧ U.cell? ⟨u1.heap.size, 4, none⟩ = some (.string qu)) ((refine HS.out _ ?_; repeat (first | exact Fr.refl _ _ | apply Fr.alloc | apply Fr.drew | refine Fr.trans ?_ (by assumption)))) (first | (go_at_call 48; refine (CP.out _ (by repeat (first | exact Fr.refl _ _ | apply Fr.alloc | apply Fr.drew | refine Fr.trans ?_ (by assumption)))).mono ?_; rintro e v1 ⟨rfl, hv1⟩) | (go_at_call 43; refine (CT.out _ (by repeat (first | exact Fr.refl _ _ | apply Fr.alloc | apply Fr.drew | refine Fr.trans ?_ (by assumption)))).mono ?_; rintro e v2 ⟨rfl, hv2⟩) | (go_at_call 49; refine (CG.out _).mono ?_; rintro e v3 ⟨rfl, hv3⟩) | (go_at_call 46; refine (CH.out _).mono ?_; rintro e v4 ⟨rfl, rfl⟩))
      all_goals
        go_wp2
        go_ret
        exact ⟨rfl, (HF2.out.trans (by repeat (first | exact Fr.refl _ _ | apply Fr.alloc | apply Fr.drew | refine Fr.trans ?_ (by assumption)))).none_below⟩
end Go.Proofs.YtghimbpihmehoaaDoor
