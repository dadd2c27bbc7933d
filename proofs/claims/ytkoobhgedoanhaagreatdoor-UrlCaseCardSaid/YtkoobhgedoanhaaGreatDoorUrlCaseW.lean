/- The law UrlCase: its walk. -/
import Derived.Test.YtkoobhgedoanhaaGreatDoorNamed
import Derived.Test.YtkoobhgedoanhaaGreatDoorIndexAny
import Derived.Test.YtkoobhgedoanhaaGreatDoorCaseTab
import Derived.Test.YtkoobhgedoanhaaGreatDoorCaseLaw2
import Derived.Deep.RegionHeld3
namespace Go.Proofs.YtkoobhgedoanhaaGreatDoor
open Go.RowKit

theorem run_eql_url2 (sec : Bool) (ho pa qu : ByteArray) (port : Int) (w : World) : (binOp .eql 51 (.agg #[.bool sec, .string ho, .int .i64 port, .string pa, .string qu]) (.agg #[.bool sec, .string ho, .int .i64 port, .string pa, .string qu])).run Tryz.prog w = .ok (.bool true) w := by
  go_simp
/-- what stands behind a place in a text -/
theorem cut_at {s : ByteArray} {p q : List UInt8} (h : s.data.toList = p ++ q) : (s.extract p.length s.size).data.toList = q ∧ (s.extract 0 p.length).data.toList = p := by
  have hz : s.data.toList.length = s.size := by simp
  have hl : p.length + q.length = s.size := by rw [← hz, h, List.length_append]
  constructor
  · rw [ByteArray.data_extract, Array.toList_extract]
    rw [List.extract_eq_take_drop, h, List.drop_left, ← hl, Nat.add_sub_cancel_left, List.take_length]
  · rw [ByteArray.data_extract, Array.toList_extract]
    rw [List.extract_eq_take_drop, h, List.drop_zero, Nat.sub_zero, List.take_left]
set_option maxRecDepth 100000 in
set_option maxHeartbeats 16000000 in
theorem UrlCase_walk (s more : ByteArray) (z0 : s.size ≤ 140737488351232) (z1 : more.size ≤ 140737488351232) (w : World) (ht : PwTab w) (hca : CaTab w) (hu8 : U8Tab w) (hmx : MaxAt w) :
    Calls Tryz.prog 10 #[.string s, .string more] w fun e w' => e = .returned (.bool true) ∧ Below w.heap.size w w' := by
  have HN := Lib.hid (named_any w ht)
  have HC := Lib.hid hca
  have HU := Lib.hid hu8
  have HM := Lib.hid hmx
  clear ht hca hu8 hmx
  have hwl : IntKind.i64.wrap ((s.size : Int) + (more.size : Int)) = (s.size : Int) + (more.size : Int) := by rw [IntWalk.i64_left]; exact IntWalk.wrap64_in _ (by omega)
  go_enter Tryz.func10, Tryz.ntmps10
  go_wp2_with fail
  refine HN.out.mono ?_
  rintro e u ⟨rfl, hf⟩
  have HF := Lib.hid hf
  clear hf HN
  by_cases hlen : 500 < s.size + more.size
  · have hlen' : (500 : Int) < (s.size : Int) + (more.size : Int) := by omega
    go_wp2
    go_ret
    exact ⟨rfl, HF.out.none_below⟩
  · have hlen' : ¬ (500 : Int) < (s.size : Int) + (more.size : Int) := by omega
    have hsl : s.data.toList.length = s.size := by simp
    have hml : more.data.toList.length = more.size := by simp
    go_wp2_with fail
    refine (Parse_any s u (by omega)).mono ?_
    rintro e u1 ⟨rfl, hf1⟩
    have HF1 := Lib.hid (HF.out.trans hf1)
    clear hf1
    rcases parseV_cases s.data.toList with ⟨n, hv⟩ | ⟨x, hx, hv⟩
    · rw [hv]
      clear hv
      go_wp2
      go_ret
      exact ⟨rfl, (HF1.out.alloc _).none_below⟩
    · rw [hv]
      clear hv hwl hlen'
      obtain ⟨wl, r, b, hl, hix, hia, hlow, hup⟩ := case_law hx
      have hpar : (s ++ ⟨#[35]⟩ ++ more).data.toList = s.data.toList ++ 35 :: more.data.toList := by simp
      have hha := parse_hash (m := more.data.toList) hx (by omega)
      rw [← hpar] at hha
      obtain ⟨⟨sec, host, port⟩, path, query⟩ := x
      obtain ⟨ho, hho⟩ : ∃ ho : ByteArray, ho = ⟨host.toArray⟩ := ⟨_, rfl⟩
      obtain ⟨pa, hpa⟩ : ∃ pa : ByteArray, pa = ⟨path.toArray⟩ := ⟨_, rfl⟩
      obtain ⟨qu, hqu⟩ : ∃ qu : ByteArray, qu = ⟨query.toArray⟩ := ⟨_, rfl⟩
      have HV : (UrlL.cells ⟨⟨sec, host, port⟩, path, query⟩).toArray = #[.bool sec, .string ho, .int .i64 port, .string pa, .string qu] := by rw [hho, hpa, hqu]; rfl
      have hok : ∀ T : ByteArray, parseL T.data.toList = .ok ⟨⟨sec, host, port⟩, path, query⟩ → parseV T.data.toList = .tuple #[.agg #[.bool sec, .string ho, .int .i64 port, .string pa, .string qu], .nilIface] := fun T hT => by
        unfold parseV; rw [hT]; show Value.tuple #[.agg (UrlL.cells _).toArray, _] = _; rw [HV]
      have CP := Lib.hid (show ∀ (T : ByteArray), T.size ≤ 3000 → parseL T.data.toList = .ok ⟨⟨sec, host, port⟩, path, query⟩ → ∀ U, Calls Tryz.prog 35 #[.string T] U fun e w' => e = .returned (.tuple #[.agg #[.bool sec, .string ho, .int .i64 port, .string pa, .string qu], .nilIface]) ∧ Fr noB U w' from fun T hs hT U => (Parse_any T U (by omega)).mono fun e w' h => ⟨by rw [h.1, hok T hT], h.2⟩)
      have CQ := Lib.hid (CP.out _ (by rw [ByteArray.size_append, ByteArray.size_append]; show s.size + 1 + more.size ≤ 3000; omega) hha)
      rw [HV]
      clear HV hho hpa hqu hpar hha hok
      have heq := run_eql_url2 sec ho pa qu port
      obtain ⟨x1, hx1⟩ : ∃ x1, x1 = u1.alloc (.cells #[.bool sec, .string ho, .int .i64 port, .string pa, .string qu] 51) := ⟨_, rfl⟩
      have hb := new_block u1 (.cells #[.bool sec, .string ho, .int .i64 port, .string pa, .string qu] 51)
      rw [← hx1] at hb
      have HF2 := Lib.hid (show Fr noB w x1 by rw [hx1]; exact HF1.out.alloc _)
      have HS := Lib.hid (show ∀ U, Fr noB x1 U → U.cell? ⟨u1.heap.size, 0, none⟩ = some (.bool sec) ∧ U.cell? ⟨u1.heap.size, 1, none⟩ = some (.string ho) ∧ U.cell? ⟨u1.heap.size, 2, none⟩ = some (.int .i64 port) ∧ U.cell? ⟨u1.heap.size, 3, none⟩ = some (.string pa) ∧ U.cell? ⟨u1.heap.size, 4, none⟩ = some (.string qu) from fun U hU => by
        have j1 := hU.keep hb (fun h => h)
        simp [World.cell?, j1])
      have CI := Lib.hid (show ∀ U, Fr noB w U → Calls Tryz.prog 37 #[.string s, .string ⟨#[58, 47, 47]⟩] U fun e w' => e = .returned (.int .i64 (wl.length : Int)) ∧ w' = U from fun U hU => by
        obtain ⟨m, hm⟩ := HM.out.fr hU
        exact (Tryz.strings_Index s ⟨#[58, 47, 47]⟩ m U (by omega) hm).mono fun e w' h => ⟨by rw [h.1]; show Ending.returned (.int .i64 (Lib.index s.data.toList [58, 47, 47])) = _; rw [hix], h.2⟩)
      have HX1 := Lib.hid hx1
      have hll : (wl.length + 3) + r.length + b.length = s.size := by rw [← hsl, hl]; simp; omega
      have hk3 : IntKind.i64.wrap ((wl.length : Int) + 3) = ((wl.length + 3 : Nat) : Int) := by rw [IntWalk.i64_left, IntWalk.wrap64_in _ (by omega)]; omega
      have hcut := (cut_at (s := s) (p := wl ++ ([58, 47, 47] : List UInt8)) (q := r ++ b) (by rw [hl]; simp)).1
      rw [show (wl ++ ([58, 47, 47] : List UInt8)).length = wl.length + 3 by simp] at hcut
      have CA := Lib.hid (show ∀ U, Calls Tryz.prog 36 #[.string (s.extract (wl.length + 3) s.size), .string ⟨#[47, 63, 35]⟩] U fun e w' => e = .returned (.int .i64 (if b = [] then -1 else (r.length : Int))) ∧ Fr noB U w' from fun U => (IndexAny_any _ ⟨#[47, 63, 35]⟩ U (by rw [ByteArray.size_extract]; omega) (by decide) (by decide)).mono fun e w' h => ⟨by rw [h.1, hcut]; show Ending.returned (.int .i64 (Lib.indexAny (r ++ b) [47, 63, 35])) = _; rw [hia], h.2⟩)
      have CU := Lib.hid (show ∀ U, Fr noB w U → Calls Tryz.prog 38 #[.string s] U fun e w' => e = .returned (.string ⟨(Lib.toUpperD s.data.toList).toArray⟩) ∧ Fr noB U w' from fun U hU => (Tryz.strings_ToUpper_any s U (by omega) (HC.out.fr hU) (HU.out.fr hU)).mono fun e w' h => ⟨h.1, Fr.of_below h.2⟩)
      clear hx1 hb hia hix hcut HM
      obtain ⟨c0, c1, c2, c3, c4⟩ := HS.out x1 (Fr.refl _ _)
      rw [HX1.out] at c0 c1 c2 c3 c4
      go_wp2_with fail
      rw [← HX1.out]
      refine (CI.out _ HF2.out).mono ?_
      rintro e u2 ⟨rfl, rfl⟩
      clear c0 c1 c2 c3 c4
      go_wp2_with fail
      refine (CA.out _).mono ?_
      rintro e u3 ⟨rfl, hf3⟩
      have HF3 := Lib.hid (HF2.out.trans hf3)
      have HX3 := Lib.hid hf3
      clear hf3 CA
      cases b with
      | nil =>
        clear CI
        have CU2 := Lib.hid (CU.out _ HF3.out)
        clear CU
        go_wp2_with fail
        refine CU2.out.mono ?_
        rintro e u4 ⟨rfl, hf4⟩
        have hT : Lib.toUpperD s.data.toList = Lib.toUpperA (wl ++ [58, 47, 47] ++ r) ++ [] := by
          rw [List.append_nil, hl, List.append_nil]
          exact Lib.toUpperD_ascii _ hlow
        have CT := Lib.hid (CP.out ⟨(Lib.toUpperD s.data.toList).toArray⟩ (by show (Lib.toUpperD s.data.toList).toArray.size ≤ 3000; rw [hT]; simp [Lib.toUpperA]; simp at hll; omega) (by show parseL (Lib.toUpperD s.data.toList) = _; rw [hT]; exact hup))
        generalize (⟨(Lib.toUpperD s.data.toList).toArray⟩ : ByteArray) = T at *
        have HXT := Lib.hid (HX3.out.trans hf4)
        have HFT := Lib.hid (HF3.out.trans hf4)
        clear hf4 CU2 CP HX3 HF3 hT hlow hl hup hll hx
        go_wp2_with fail
        refine (CT.out _).mono ?_
        rintro e v1 ⟨rfl, hv1⟩
        have HV1 := Lib.hid (HXT.out.trans hv1)
        have HW1 := Lib.hid (HFT.out.trans hv1)
        clear hv1 CT HXT HFT
        obtain ⟨y1, hy1⟩ : ∃ y1, y1 = v1.alloc (.cells #[.bool sec, .string ho, .int .i64 port, .string pa, .string qu] 51) := ⟨_, rfl⟩
        have hyb := new_block v1 (.cells #[.bool sec, .string ho, .int .i64 port, .string pa, .string qu] 51)
        rw [← hy1] at hyb
        have HY1 := Lib.hid hy1
        have HXY := Lib.hid (show Fr noB u2 y1 by rw [hy1]; exact HV1.out.alloc _)
        have HWY := Lib.hid (show Fr noB w y1 by rw [hy1]; exact HW1.out.alloc _)
        have HS2 := Lib.hid (show ∀ U, Fr noB y1 U → U.cell? ⟨v1.heap.size, 0, none⟩ = some (.bool sec) ∧ U.cell? ⟨v1.heap.size, 1, none⟩ = some (.string ho) ∧ U.cell? ⟨v1.heap.size, 2, none⟩ = some (.int .i64 port) ∧ U.cell? ⟨v1.heap.size, 3, none⟩ = some (.string pa) ∧ U.cell? ⟨v1.heap.size, 4, none⟩ = some (.string qu) from fun U hU => by
          have j1 := hU.keep hyb (fun h => h)
          simp [World.cell?, j1])
        clear hy1 hyb HV1 HW1
        have hn1 : s.size + 1 ≤ 9223372036854775807 := by omega
        have hn2 : ¬ 9223372036854775807 < s.size + 1 := by omega
        have hn3 : s.size + 1 + more.size ≤ 9223372036854775807 := by omega
        have hn4 : ¬ 9223372036854775807 < s.size + 1 + more.size := by omega
        go_wp2_with fail
        rw [← HY1.out]
        refine (CQ.out y1).mono ?_
        rintro e v2 ⟨rfl, hv2⟩
        clear CQ
        have HZ := Lib.hid (hv2.alloc (.cells #[.bool sec, .string ho, .int .i64 port, .string pa, .string qu] 51))
        have HWZ := Lib.hid (HWY.out.trans HZ.out)
        obtain ⟨c0, c1, c2, c3, c4⟩ := HS.out _ (HXY.out.trans HZ.out)
        obtain ⟨d0, d1, d2, d3, d4⟩ := HS2.out _ HZ.out
        clear hv2 HS HS2 HXY HWY HZ
        go_wp2_with fail
        go_ret
        exact ⟨rfl, HWZ.out.none_below⟩
      | cons y b =>
        have hne : (if y :: b = [] then (-1 : Int) else (r.length : Int)) = (r.length : Int) := rfl
        rw [hne]
        clear hne
        have hlb : 0 < (y :: b).length := by simp
        obtain ⟨k, hk⟩ : ∃ k, k = wl.length + 3 + r.length := ⟨_, rfl⟩
        have hk4 : IntKind.i64.wrap ((wl.length : Int) + 3 + (r.length : Int)) = (k : Int) := by rw [IntWalk.i64_left, IntWalk.wrap64_in _ (by omega)]; omega
        have hks : k ≤ s.size := by omega
        have hcut := cut_at (s := s) (p := wl ++ ([58, 47, 47] : List UInt8) ++ r) (q := y :: b) (by rw [hl])
        rw [show (wl ++ ([58, 47, 47] : List UInt8) ++ r).length = k by simp; omega] at hcut
        have CK := Lib.hid (show ∀ U, Fr noB w U → Calls Tryz.prog 38 #[.string (s.extract 0 k)] U fun e w' => e = .returned (.string ⟨(Lib.toUpperA (wl ++ [58, 47, 47] ++ r)).toArray⟩) ∧ Fr noB U w' from fun U hU => (Tryz.strings_ToUpper_any (s.extract 0 k) U (by rw [ByteArray.size_extract]; omega) (HC.out.fr hU) (HU.out.fr hU)).mono fun e w' h => ⟨by rw [h.1, hcut.2, Lib.toUpperD_ascii _ hlow], Fr.of_below h.2⟩)
        have hTs : ((⟨(Lib.toUpperA (wl ++ [58, 47, 47] ++ r)).toArray⟩ : ByteArray) ++ s.extract k s.size).size ≤ 3000 := by
          rw [ByteArray.size_append, ByteArray.size_extract]
          show (Lib.toUpperA (wl ++ [58, 47, 47] ++ r)).toArray.size + _ ≤ _
          simp [Lib.toUpperA]; omega
        have CT := Lib.hid (CP.out _ hTs (by rw [show ((⟨(Lib.toUpperA (wl ++ [58, 47, 47] ++ r)).toArray⟩ : ByteArray) ++ s.extract k s.size).data.toList = Lib.toUpperA (wl ++ [58, 47, 47] ++ r) ++ (s.extract k s.size).data.toList by simp, hcut.1]; exact hup))
        have hTn : ((⟨(Lib.toUpperA (wl ++ [58, 47, 47] ++ r)).toArray⟩ : ByteArray)).size + (s.extract k s.size).size ≤ 3000 := by rw [← ByteArray.size_append]; exact hTs
        have hzk : (s.extract 0 k).size = k := by rw [ByteArray.size_extract]; omega
        have hkk : (k : Int) ≤ (s.size : Int) := by omega
        have CU2 := Lib.hid (CU.out _ HF3.out)
        have CI2 := Lib.hid (fun U hU => CI.out U (HF3.out.trans hU))
        have CK2 := Lib.hid (fun U hU => CK.out U (HF3.out.trans hU))
        clear CU CI CK CP hcut hTs hl hup hlow hx hzk hk HC HU
        have hk0 : (0 : Int) ≤ (k : Int) := by omega
        generalize (⟨(Lib.toUpperA (wl ++ [58, 47, 47] ++ r)).toArray⟩ : ByteArray) = T1 at *
        have hTn1 : T1.size + (s.extract k s.size).size ≤ 9223372036854775807 := by omega
        have hTn2 : ¬ 9223372036854775807 < T1.size + (s.extract k s.size).size := by omega
        have hes : (s.extract k s.size).size = s.size - k := by rw [ByteArray.size_extract]; omega
        have hTn3 : T1.size + (s.size - k) ≤ 9223372036854775807 := by omega
        have hTn4 : ¬ 9223372036854775807 < T1.size + (s.size - k) := by omega
        go_wp2_with fail
        refine CU2.out.mono ?_
        rintro e u4 ⟨rfl, hf4⟩
        clear CU2
        clear hll hlb
        generalize (⟨(Lib.toUpperD s.data.toList).toArray⟩ : ByteArray) = T0
        go_wp2_with fail
        refine (CI2.out _ hf4).mono ?_
        rintro e u5 ⟨rfl, rfl⟩
        clear CI2
        go_wp2_with fail
        go_region_held3 (fun U => Fr noB u3 U) ((repeat (first | exact hf4 | assumption | exact Fr.refl _ _ | apply Fr.alloc | apply Fr.drew | refine Fr.trans ?_ (by assumption)))) ((first | (go_at_call 38; refine (CK2.out _ (by repeat (first | exact hf4 | assumption | apply Fr.drew))).mono ?_; rintro e u6 ⟨rfl, hf6⟩)))
        have hf5 : Fr noB u3 u6 := by first | exact hf4.trans hf6 | exact hf4.trans ((Fr.refl _ _).drew.trans hf6) | exact ((hf4.drewN _).trans hf6)
        have HXT := Lib.hid (HX3.out.trans hf5)
        have HFT := Lib.hid (HF3.out.trans hf5)
        clear hf4 hf5 hf6 CK2 HX3 HF3 hTn hTn1 hTn2 hTn3 hTn4 hes
        generalize T1 ++ s.extract k s.size = T at *
        go_wp2_with fail
        refine (CT.out _).mono ?_
        rintro e v1 ⟨rfl, hv1⟩
        have HV1 := Lib.hid (HXT.out.trans hv1)
        have HW1 := Lib.hid (HFT.out.trans hv1)
        clear hv1 CT HXT HFT
        obtain ⟨y1, hy1⟩ : ∃ y1, y1 = v1.alloc (.cells #[.bool sec, .string ho, .int .i64 port, .string pa, .string qu] 51) := ⟨_, rfl⟩
        have hyb := new_block v1 (.cells #[.bool sec, .string ho, .int .i64 port, .string pa, .string qu] 51)
        rw [← hy1] at hyb
        have HY1 := Lib.hid hy1
        have HXY := Lib.hid (show Fr noB u2 y1 by rw [hy1]; exact HV1.out.alloc _)
        have HWY := Lib.hid (show Fr noB w y1 by rw [hy1]; exact HW1.out.alloc _)
        have HS2 := Lib.hid (show ∀ U, Fr noB y1 U → U.cell? ⟨v1.heap.size, 0, none⟩ = some (.bool sec) ∧ U.cell? ⟨v1.heap.size, 1, none⟩ = some (.string ho) ∧ U.cell? ⟨v1.heap.size, 2, none⟩ = some (.int .i64 port) ∧ U.cell? ⟨v1.heap.size, 3, none⟩ = some (.string pa) ∧ U.cell? ⟨v1.heap.size, 4, none⟩ = some (.string qu) from fun U hU => by
          have j1 := hU.keep hyb (fun h => h)
          simp [World.cell?, j1])
        clear hy1 hyb HV1 HW1
        have hn1 : s.size + 1 ≤ 9223372036854775807 := by omega
        have hn2 : ¬ 9223372036854775807 < s.size + 1 := by omega
        have hn3 : s.size + 1 + more.size ≤ 9223372036854775807 := by omega
        have hn4 : ¬ 9223372036854775807 < s.size + 1 + more.size := by omega
        go_wp2_with fail
        rw [← HY1.out]
        refine (CQ.out y1).mono ?_
        rintro e v2 ⟨rfl, hv2⟩
        clear CQ
        have HZ := Lib.hid (hv2.alloc (.cells #[.bool sec, .string ho, .int .i64 port, .string pa, .string qu] 51))
        have HWZ := Lib.hid (HWY.out.trans HZ.out)
        obtain ⟨c0, c1, c2, c3, c4⟩ := HS.out _ (HXY.out.trans HZ.out)
        obtain ⟨d0, d1, d2, d3, d4⟩ := HS2.out _ HZ.out
        clear hv2 HS HS2 HXY HWY HZ
        go_wp2_with fail
        go_ret
        exact ⟨rfl, HWZ.out.none_below⟩
end Go.Proofs.YtkoobhgedoanhaaGreatDoor
