/- Package url: Parse. -/
import Derived.Test.YtkoobhgedoanhaaGreatDoorPlainU
import Derived.Test.YtkoobhgedoanhaaGreatDoorIndexAny
import Derived.Test.YtkoobhgedoanhaaGreatDoorClean
import Derived.Test.YtkoobhgedoanhaaGreatDoorStill
import Derived.Great.BuildSlice
namespace Go.Proofs.YtkoobhgedoanhaaGreatDoor
open Go.RowKit

set_option maxRecDepth 100000 in
set_option maxHeartbeats 8000000 in
theorem Parse_any (s : ByteArray) (w : World) (hs : s.size < 100000) :
    Calls Tryz.prog 35 #[.string s] w fun e w' => e = .returned (parseV s.data.toList) ∧ Fr noB w w' := by
  obtain ⟨w1, hw1⟩ : ∃ w1, w1 = w.alloc (.cells #[.bool false, .string ⟨#[]⟩, .int .i64 0, .string ⟨#[]⟩, .string ⟨#[]⟩] 51) := ⟨_, rfl⟩
  have hf1 : Fr noB w w1 := by rw [hw1]; exact (Fr.refl noB w).alloc _
  have hb1 : w1.heap[w.heap.size]? = some (.cells #[.bool false, .string ⟨#[]⟩, .int .i64 0, .string ⟨#[]⟩, .string ⟨#[]⟩] 51 (0, 0)) := by rw [hw1]; exact new_block _ _
  have HRK := Lib.hid (show ∀ U, Fr noB w1 U → U.heap[w.heap.size]? = some (.cells #[.bool false, .string ⟨#[]⟩, .int .i64 0, .string ⟨#[]⟩, .string ⟨#[]⟩] 51 (0, 0)) from fun U hU => hU.keep hb1 (fun h => h))
  have HW1 := Lib.hid hw1
  have hsl : s.data.toList.length = s.size := by simp
  clear hw1 hb1
  by_cases h3 : 3000 < s.size
  · have i3 : (3000 : Int) < (s.size : Int) := by omega
    have HP := Lib.hid (show parseV s.data.toList = .tuple #[.agg #[.bool false, .string ⟨#[]⟩, .int .i64 0, .string ⟨#[]⟩, .string ⟨#[]⟩], .iface 93 (.int .i64 4)] by unfold parseV parseL; rw [if_pos (by rw [hsl]; exact h3)]; rfl)
    go_enter Tryz.func35, Tryz.ntmps35
    have HRW := Lib.hid (new_block w (.cells #[.bool false, .string ⟨#[]⟩, .int .i64 0, .string ⟨#[]⟩, .string ⟨#[]⟩] 51))
    have hall1 : (#[.bool false, .string ⟨#[]⟩, .int .i64 0, .string ⟨#[]⟩, .string ⟨#[]⟩] : Array Value).all (·.oneCell') = true := by simp [Value.oneCell']
    go_wp2_with (first | ((with_reducible refine wpList_at ⟨none, .store 51 _ _, _, _, _, _⟩ ?_); go_must (refine wpList_store_row rfl 51 (.tmp 2) (.tmp 15) rfl w.heap.size #[.bool false, .string ⟨#[]⟩, .int .i64 0, .string ⟨#[]⟩, .string ⟨#[]⟩] rfl rfl _ #[.bool false, .string ⟨#[]⟩, .int .i64 0, .string ⟨#[]⟩, .string ⟨#[]⟩] HRW.out (by kernel_rfl) rfl hall1 ?_)) | fail)
    refine bodyPost_ret (results_cell_tmp (by rfl) _ _ w.heap.size 51 #[.bool false, .string ⟨#[]⟩, .int .i64 0, .string ⟨#[]⟩, .string ⟨#[]⟩] (0, 0) _ rfl (setRow_heap _ w.heap.size _ _ _ _ HRW.out) Tryz.underlying51 rfl (by kernel_rfl)) rfl ?_
    exact ⟨by rw [HP.out]; rfl, Fr.setRow ((Fr.refl noB w).alloc _) (g := w.heap.size) (fun h => absurd h (Nat.lt_irrefl _)) _⟩
  · have i3 : ¬ (3000 : Int) < (s.size : Int) := by omega
    obtain ⟨s1, hs1, hcut⟩ : ∃ s1 : ByteArray, s1.data.toList = (cutL 35 s.data.toList).1 ∧ ∃ x y, ∀ U, Calls Tryz.prog 87 #[.string s, .string ⟨#[35]⟩] U fun e w' => e = .returned (.tuple #[.string s1, .string x, .bool y]) ∧ Fr noB U w' := by
      by_cases hix : 0 ≤ Lib.indexByte s.data.toList 35
      · obtain ⟨i, hi⟩ : ∃ i : Nat, Lib.indexByte s.data.toList 35 = (i : Int) := ⟨(Lib.indexByte s.data.toList 35).toNat, by omega⟩
        have hil : i < s.size := by have := idx_lt hi; simpa using this
        refine ⟨s.extract 0 i, by rw [cut_hit hi, Lib.extract_data]; simp, s.extract (i + 1) s.size, true, fun U => (cut1_hit s 35 i U (by omega) hi hil).mono fun e w' h => ?_⟩
        obtain ⟨he, n, rfl⟩ := h
        exact ⟨he, (Fr.refl noB U).drewN n⟩
      · refine ⟨s, by rw [cut_miss hix], ⟨#[]⟩, false, fun U => (cut1_miss s 35 U hix).mono fun e w' h => ⟨h.1, by rw [h.2]; exact Fr.refl _ _⟩⟩
    obtain ⟨cx, cy, hcut⟩ := hcut
    have hz1 : s1.size < 100000 := by
      have h1 := congrArg List.length hs1
      have h2 : (cutL 35 s.data.toList).1.length ≤ s.data.toList.length := by
        have := cutL_is 35 s.data.toList
        rcases this.2 with ⟨_, h⟩ | ⟨_, h, _⟩
        · have := congrArg List.length h; simp at this ⊢; omega
        · have := congrArg List.length h; simp at this ⊢; omega
      have h3 : s1.data.toList.length = s1.size := by simp
      omega
    have HPS := Lib.hid (show parseV s.data.toList = match (match schemeL s1.data.toList with | none => .error 3 | some p => parseR p.1 p.2 : Except Nat UrlL) with
        | .ok u => .tuple #[.agg u.cells.toArray, .nilIface]
        | .error n => .tuple #[.agg #[.bool false, .string ⟨#[]⟩, .int .i64 0, .string ⟨#[]⟩, .string ⟨#[]⟩], .iface 93 (.int .i64 n)] by
      unfold parseV parseL
      rw [if_neg (by rw [hsl]; exact h3), hs1]
      rfl)
    have HCUT := Lib.hid hcut
    have HSC := Lib.hid (fun U => scheme_any s1 U hz1)
    have HSL := Lib.hid (schemeV_cases s1.data.toList)
    have HLEN := Lib.hid (show ∀ rest sec, schemeL s1.data.toList = some (sec, rest) → rest.length ≤ s1.data.toList.length from fun _ _ h => scheme_len h)
    have hs1l : s1.data.toList.length = s1.size := by simp
    clear hs1 hcut
    go_enter Tryz.func35, Tryz.ntmps35
    go_wp2_with fail
    rw [← HW1.out]
    refine (HCUT.out w1).mono ?_
    rintro e u1 ⟨rfl, hf2⟩
    go_wp2_with fail
    refine (HSC.out u1).mono ?_
    rintro e u2 ⟨rfl, hf3⟩
    have hfa := hf2.trans hf3
    clear hf2 hf3
    rcases HSL.out with ⟨hn, hv⟩ | ⟨sec, rest, hn, hv⟩
    · have HP := Lib.hid (show parseV s.data.toList = .tuple #[.agg #[.bool false, .string ⟨#[]⟩, .int .i64 0, .string ⟨#[]⟩, .string ⟨#[]⟩], .iface 93 (.int .i64 3)] by rw [HPS.out, hn]; rfl)
      rw [hv]
      clear hn hv HSL
      have HRW := Lib.hid (HRK.out u2 hfa)
      have hall1 : (#[.bool false, .string ⟨#[]⟩, .int .i64 0, .string ⟨#[]⟩, .string ⟨#[]⟩] : Array Value).all (·.oneCell') = true := by simp [Value.oneCell']
      go_wp2_with (first | ((with_reducible refine wpList_at ⟨none, .store 51 _ _, _, _, _, _⟩ ?_); go_must (refine wpList_store_row rfl 51 (.tmp 2) (.tmp 31) rfl w.heap.size #[.bool false, .string ⟨#[]⟩, .int .i64 0, .string ⟨#[]⟩, .string ⟨#[]⟩] rfl rfl _ #[.bool false, .string ⟨#[]⟩, .int .i64 0, .string ⟨#[]⟩, .string ⟨#[]⟩] HRW.out (by kernel_rfl) rfl hall1 ?_)) | fail)
      refine bodyPost_ret (results_cell_tmp (by rfl) _ _ w.heap.size 51 #[.bool false, .string ⟨#[]⟩, .int .i64 0, .string ⟨#[]⟩, .string ⟨#[]⟩] (0, 0) _ rfl (setRow_heap _ w.heap.size _ _ _ _ HRW.out) Tryz.underlying51 rfl (by kernel_rfl)) rfl ?_
      exact ⟨by rw [HP.out]; rfl, Fr.setRow (hf1.trans hfa) (g := w.heap.size) (fun h => absurd h (Nat.lt_irrefl _)) _⟩
    · have hlr := HLEN.out rest sec hn
      have HPR := Lib.hid (show parseV s.data.toList = match parseR sec rest with
          | .ok u => .tuple #[.agg u.cells.toArray, .nilIface]
          | .error n => .tuple #[.agg #[.bool false, .string ⟨#[]⟩, .int .i64 0, .string ⟨#[]⟩, .string ⟨#[]⟩], .iface 93 (.int .i64 n)] by rw [HPS.out, hn])
      rw [hv]
      obtain ⟨r, hr⟩ : ∃ r : ByteArray, r = ⟨rest.toArray⟩ := ⟨_, rfl⟩
      have hrl : r.data.toList = rest := by rw [hr]
      have hrz : r.size < 100000 := by have h1 := congrArg List.length hrl; have h2 : r.data.toList.length = r.size := by simp
                                       omega
      rw [← hr]
      clear hn hv HSL HLEN hlr hr HPS
      have HRL := Lib.hid hrl
      clear hrl
      have HIA := Lib.hid (IndexAny_any r ⟨#[47, 63]⟩ u2 (by omega) (by decide) (by decide))
      go_wp2_with fail
      refine HIA.out.mono ?_
      rintro e u3 ⟨rfl, hf4⟩
      have hfb := hfa.trans hf4
      clear hfa hf4
      have hsp := any_split [47, 63] r.data.toList
      have hsp : ∃ (i : Nat), i ≤ r.size ∧ hostTill rest = r.data.toList.take i ∧ hostRest rest = r.data.toList.drop i ∧ (Lib.indexAny r.data.toList (⟨#[47, 63]⟩ : ByteArray).data.toList = -1 ∧ i = r.size ∨ Lib.indexAny r.data.toList (⟨#[47, 63]⟩ : ByteArray).data.toList = (i : Int)) := by
        have hl : r.data.toList.length = r.size := by simp
        have hg := HRL.out
        unfold hostTill hostRest
        rw [← hg]
        rcases hsp with ⟨h1, h2, h3⟩ | ⟨i, h1, h2, h3, h4⟩
        · refine ⟨r.size, Nat.le_refl _, ?_, ?_, Or.inl ⟨h1, rfl⟩⟩
          · rw [List.take_of_length_le (by omega)]; exact h2
          · rw [List.drop_of_length_le (by omega)]; exact h3
        · exact ⟨i, by omega, h3, h4, Or.inr h1⟩
      obtain ⟨i, hir, hti, hre, hcase⟩ := hsp
      have q1 : (0 : Int) ≤ (i : Int) := by omega
      have q2 : (i : Int) ≤ (r.size : Int) := by omega
      obtain ⟨hb, hhb⟩ : ∃ hb : ByteArray, hb = r.extract 0 i := ⟨_, rfl⟩
      obtain ⟨tb, htb⟩ : ∃ tb : ByteArray, tb = r.extract i r.size := ⟨_, rfl⟩
      have hhl : hb.data.toList = hostTill rest := by rw [hhb, Lib.extract_data, hti]; simp
      have htl : tb.data.toList = hostRest rest := by rw [htb, Lib.extract_data, hre, List.take_of_length_le (by simp)]
      have hhz : hb.size < 100000 := by rw [hhb, ByteArray.size_extract]; omega
      have htz : tb.size < 100000 := by rw [htb, ByteArray.size_extract]; omega
      have HPLC := Lib.hid (fun U => place_any sec hb U hhz)
      have HPV := Lib.hid (show placeV sec hb.data.toList = .tuple #[.agg #[.bool (placeL sec (hostTill rest)).1.secure, .string ⟨(placeL sec (hostTill rest)).1.host.toArray⟩, .int .i64 (placeL sec (hostTill rest)).1.port], .bool (placeL sec (hostTill rest)).2] by rw [hhl]; rfl)
      obtain ⟨p, q, hpl, hql, hpz, hqz, hcut2⟩ : ∃ p q : ByteArray, p.data.toList = (cutL 63 (hostRest rest)).1 ∧ q.data.toList = queryOf rest ∧ p.size < 100000 ∧ q.size < 100000 ∧ ∃ y, ∀ U, Calls Tryz.prog 87 #[.string tb, .string ⟨#[63]⟩] U fun e w' => e = .returned (.tuple #[.string p, .string q, .bool y]) ∧ Fr noB U w' := by
        unfold queryOf
        rw [← htl]
        by_cases hix : 0 ≤ Lib.indexByte tb.data.toList 63
        · obtain ⟨j, hj⟩ : ∃ j : Nat, Lib.indexByte tb.data.toList 63 = (j : Int) := ⟨(Lib.indexByte tb.data.toList 63).toNat, by omega⟩
          have hjl : j < tb.size := by have := idx_lt hj; simpa using this
          refine ⟨tb.extract 0 j, tb.extract (j + 1) tb.size, by rw [cut_hit hj, Lib.extract_data]; simp, by rw [cut_hit hj, Lib.extract_data, List.take_of_length_le (by simp)], by rw [ByteArray.size_extract]; omega, by rw [ByteArray.size_extract]; omega, true, fun U => (cut1_hit tb 63 j U (by omega) hj hjl).mono fun e w' h => ?_⟩
          obtain ⟨he, n, rfl⟩ := h
          exact ⟨he, (Fr.refl noB U).drewN n⟩
        · refine ⟨tb, ⟨#[]⟩, by rw [cut_miss hix], by rw [cut_miss hix], htz, by decide, false, fun U => (cut1_miss tb 63 U hix).mono fun e w' h => ⟨h.1, by rw [h.2]; exact Fr.refl _ _⟩⟩
      obtain ⟨cy2, hcut2⟩ := hcut2
      have HCUT2 := Lib.hid hcut2
      have HPP := Lib.hid (show ∃ p2 : ByteArray, p2.data.toList = pathOf rest ∧ p2.size < 100000 ∧ (p.size = 0 → p2 = ⟨#[47]⟩) ∧ (¬ p.size = 0 → p2 = p) ∧ 63 ∉ p2.data.toList from by
        have h63 := (cutL_is 63 (hostRest rest)).1
        rw [← hpl] at h63
        by_cases h0 : p.size = 0
        · have e0 := byteArray_nil.2 h0
          refine ⟨⟨#[47]⟩, ?_, by decide, fun _ => rfl, fun h => absurd h0 h, by decide⟩
          unfold pathOf; rw [← hpl, if_pos e0]
        · refine ⟨p, ?_, hpz, fun h => absurd h h0, fun _ => rfl, h63⟩
          unfold pathOf; rw [← hpl, if_neg (fun h => h0 (byteArray_nil.1 h))])
      have HQL := Lib.hid hql
      clear hcut2 hhl htl hti hre hpl hql
      have HPE := Lib.hid hpz
      obtain ⟨p2, hp2, hp2z, hpe0, hpe1, hp63⟩ := HPP.out
      have HP2 := Lib.hid hp2
      have HPATH := Lib.hid (fun U => path_any p2 U hp2z)
      have hn63 : ¬ 0 ≤ Lib.indexByte p2.data.toList 63 := (idx_neg _ _).2 (fun x hx e => hp63 (by rw [← e]; exact hx))
      have HCON := Lib.hid (show ∀ U, Calls Tryz.prog 91 #[.string p2, .string ⟨#[63]⟩] U fun e w' => e = .returned (.bool false) ∧ U = w' from fun U => (Tryz.strings_Contains_one p2 63 U).mono fun e w' h => ⟨by rw [h.1, decide_eq_false hn63], h.2.symm⟩)
      have HPLQ := Lib.hid (fun U => plain_any q U hqz)
      have HCLN := Lib.hid (fun U => Clean_any p2 U hp2z)
      clear hp2 hp63 hn63 HPP
      rw [show hb = r.extract 0 i from hhb] at HPLC HPV
      rw [show tb = r.extract i r.size from htb] at HCUT2
      clear hhb htb hhz htz
      clear HSC HCUT
      rcases hcase with ⟨hneg, rfl⟩ | hpos
      · rw [hneg]
        have e1 : r.extract 0 r.size = r := by simp
        have e2 : r.extract r.size r.size = ByteArray.empty := by simp
        rw [e1] at HPLC HPV
        rw [e2] at HCUT2
        clear e1 e2
        go_wp2_with fail
        refine (HPLC.out u3).mono ?_
        rintro e u4 ⟨rfl, hf5⟩
        rw [HPV.out]
        have hbb := new_block u4 (.cells #[.bool (placeL sec (hostTill rest)).1.secure, .string ⟨(placeL sec (hostTill rest)).1.host.toArray⟩, .int .i64 (placeL sec (hostTill rest)).1.port] 49)
        have HB8 := Lib.hid (show ∀ U, Fr noB (u4.alloc (.cells #[.bool (placeL sec (hostTill rest)).1.secure, .string ⟨(placeL sec (hostTill rest)).1.host.toArray⟩, .int .i64 (placeL sec (hostTill rest)).1.port] 49)) U → U.cell? ⟨u4.heap.size, 0, none⟩ = some (.bool (placeL sec (hostTill rest)).1.secure) ∧ U.cell? ⟨u4.heap.size, 1, none⟩ = some (.string ⟨(placeL sec (hostTill rest)).1.host.toArray⟩) ∧ U.cell? ⟨u4.heap.size, 2, none⟩ = some (.int .i64 (placeL sec (hostTill rest)).1.port) from fun U hU => by
          have j := hU.keep hbb (fun h => h)
          simp [World.cell?, j])
        have HF4 := Lib.hid ((hfb.trans hf5).alloc (.cells #[.bool (placeL sec (hostTill rest)).1.secure, .string ⟨(placeL sec (hostTill rest)).1.host.toArray⟩, .int .i64 (placeL sec (hostTill rest)).1.port] 49))
        clear hbb hf5
        go_wp2_with fail
        refine (HCUT2.out _).mono ?_
        rintro e u5 ⟨rfl, hg5⟩
        have HF5 := Lib.hid (HF4.out.trans hg5)
        have HG5 := Lib.hid hg5
        clear hg5
        by_cases hp0 : p.size = 0
        · have t1 : p.toList = [] := by rw [ByteArray.toList_eq]; exact byteArray_nil.2 hp0
          have t2 : p.toList.isEmpty = true := by rw [t1]; rfl
          have e2 := hpe0 hp0
          subst e2
          cases hok : (placeL sec (hostTill rest)).2
          · have HR := Lib.hid (parseR_1 hok)
            have HP := Lib.hid (show parseV s.data.toList = .tuple #[.agg #[.bool false, .string ⟨#[]⟩, .int .i64 0, .string ⟨#[]⟩, .string ⟨#[]⟩], .iface 93 (.int .i64 3)] by rw [HPR.out, HR.out]; rfl)
            have HRW := Lib.hid (HRK.out u5 HF5.out)
            have hall1 : (#[.bool false, .string ⟨#[]⟩, .int .i64 0, .string ⟨#[]⟩, .string ⟨#[]⟩] : Array Value).all (·.oneCell') = true := by simp [Value.oneCell']
            go_wp2_with (first | ((with_reducible refine wpList_at ⟨none, .store 51 _ _, _, _, _, _⟩ ?_); go_must (refine wpList_store_row rfl 51 (.tmp 2) (.tmp 73) rfl w.heap.size #[.bool false, .string ⟨#[]⟩, .int .i64 0, .string ⟨#[]⟩, .string ⟨#[]⟩] rfl rfl _ #[.bool false, .string ⟨#[]⟩, .int .i64 0, .string ⟨#[]⟩, .string ⟨#[]⟩] HRW.out (by kernel_rfl) rfl hall1 ?_)) | fail)
            refine bodyPost_ret (results_cell_tmp (by rfl) _ _ w.heap.size 51 #[.bool false, .string ⟨#[]⟩, .int .i64 0, .string ⟨#[]⟩, .string ⟨#[]⟩] (0, 0) _ rfl (setRow_heap _ w.heap.size _ _ _ _ HRW.out) Tryz.underlying51 rfl (by kernel_rfl)) rfl ?_
            exact ⟨by rw [HP.out]; rfl, Fr.setRow (hf1.trans HF5.out) (g := w.heap.size) (fun h => absurd h (Nat.lt_irrefl _)) _⟩
          · have HOK := Lib.hid hok
            clear hok
            go_wp2_with fail
            refine (HPATH.out u5).mono ?_
            rintro e u6 ⟨rfl, hf6⟩
            have HF6 := Lib.hid (HF5.out.trans hf6)
            have HG6 := Lib.hid (HG5.out.trans hf6)
            clear hf6
            cases hpt : pathL (⟨#[47]⟩ : ByteArray).data.toList
            · have HR := Lib.hid (parseR_2 (sec := sec) (l := rest) (by rw [← HP2.out]; exact hpt))
              have HP := Lib.hid (show parseV s.data.toList = .tuple #[.agg #[.bool false, .string ⟨#[]⟩, .int .i64 0, .string ⟨#[]⟩, .string ⟨#[]⟩], .iface 93 (.int .i64 3)] by rw [HPR.out, HR.out]; rfl)
              have HRW := Lib.hid (HRK.out u6 HF6.out)
              have hall1 : (#[.bool false, .string ⟨#[]⟩, .int .i64 0, .string ⟨#[]⟩, .string ⟨#[]⟩] : Array Value).all (·.oneCell') = true := by simp [Value.oneCell']
              go_wp2_with (first | ((with_reducible refine wpList_at ⟨none, .store 51 _ _, _, _, _, _⟩ ?_); go_must (refine wpList_store_row rfl 51 (.tmp 2) (.tmp 73) rfl w.heap.size #[.bool false, .string ⟨#[]⟩, .int .i64 0, .string ⟨#[]⟩, .string ⟨#[]⟩] rfl rfl _ #[.bool false, .string ⟨#[]⟩, .int .i64 0, .string ⟨#[]⟩, .string ⟨#[]⟩] HRW.out (by kernel_rfl) rfl hall1 ?_)) | fail)
              refine bodyPost_ret (results_cell_tmp (by rfl) _ _ w.heap.size 51 #[.bool false, .string ⟨#[]⟩, .int .i64 0, .string ⟨#[]⟩, .string ⟨#[]⟩] (0, 0) _ rfl (setRow_heap _ w.heap.size _ _ _ _ HRW.out) Tryz.underlying51 rfl (by kernel_rfl)) rfl ?_
              exact ⟨by rw [HP.out]; rfl, Fr.setRow (hf1.trans HF6.out) (g := w.heap.size) (fun h => absurd h (Nat.lt_irrefl _)) _⟩
            · have HPT := Lib.hid hpt
              clear hpt
              go_wp2_with fail
              refine (HCON.out u6).mono ?_
              rintro e x ⟨rfl, rfl⟩
              go_wp2_with fail
              refine (HPLQ.out u6).mono ?_
              rintro e u7 ⟨rfl, hf7⟩
              have HF7 := Lib.hid (HF6.out.trans hf7)
              have HG7 := Lib.hid (HG6.out.trans hf7)
              clear hf7
              cases hpq : plainL q.data.toList
              · have HR := Lib.hid (parseR_3 (sec := sec) (l := rest) (by rw [← HQL.out]; exact hpq))
                have HP := Lib.hid (show parseV s.data.toList = .tuple #[.agg #[.bool false, .string ⟨#[]⟩, .int .i64 0, .string ⟨#[]⟩, .string ⟨#[]⟩], .iface 93 (.int .i64 3)] by rw [HPR.out, HR.out]; rfl)
                have HRW := Lib.hid (HRK.out u7 HF7.out)
                have hall1 : (#[.bool false, .string ⟨#[]⟩, .int .i64 0, .string ⟨#[]⟩, .string ⟨#[]⟩] : Array Value).all (·.oneCell') = true := by simp [Value.oneCell']
                go_wp2_with (first | ((with_reducible refine wpList_at ⟨none, .store 51 _ _, _, _, _, _⟩ ?_); go_must (refine wpList_store_row rfl 51 (.tmp 2) (.tmp 73) rfl w.heap.size #[.bool false, .string ⟨#[]⟩, .int .i64 0, .string ⟨#[]⟩, .string ⟨#[]⟩] rfl rfl _ #[.bool false, .string ⟨#[]⟩, .int .i64 0, .string ⟨#[]⟩, .string ⟨#[]⟩] HRW.out (by kernel_rfl) rfl hall1 ?_)) | fail)
                refine bodyPost_ret (results_cell_tmp (by rfl) _ _ w.heap.size 51 #[.bool false, .string ⟨#[]⟩, .int .i64 0, .string ⟨#[]⟩, .string ⟨#[]⟩] (0, 0) _ rfl (setRow_heap _ w.heap.size _ _ _ _ HRW.out) Tryz.underlying51 rfl (by kernel_rfl)) rfl ?_
                exact ⟨by rw [HP.out]; rfl, Fr.setRow (hf1.trans HF7.out) (g := w.heap.size) (fun h => absurd h (Nat.lt_irrefl _)) _⟩
              · have HPQ := Lib.hid hpq
                clear hpq
                go_wp2_with fail
                refine (HCLN.out u7).mono ?_
                rintro e u8 ⟨rfl, hf8⟩
                have HF8 := Lib.hid (HF7.out.trans hf8)
                have HG8 := Lib.hid (HG7.out.trans hf8)
                clear hf8
                obtain ⟨cl, hcl⟩ : ∃ cl : ByteArray, cl = ⟨(cleanL (⟨#[47]⟩ : ByteArray).data.toList).toArray⟩ := ⟨_, rfl⟩
                rw [← hcl]
                have hclz : cl.size = (cleanL (pathOf rest)).length := by rw [hcl, HP2.out]; show (cleanL (pathOf rest)).toArray.size = _; simp
                have HCL := Lib.hid hcl
                clear hcl
                by_cases h200 : 200 < cl.size
                · have i200 : (200 : Int) < (cl.size : Int) := by omega
                  have HR := Lib.hid (parseR_4 HOK.out (by rw [← HP2.out]; exact HPT.out) (by rw [← HQL.out]; exact HPQ.out) (by omega))
                  have HP := Lib.hid (show parseV s.data.toList = .tuple #[.agg #[.bool false, .string ⟨#[]⟩, .int .i64 0, .string ⟨#[]⟩, .string ⟨#[]⟩], .iface 93 (.int .i64 2)] by rw [HPR.out, HR.out]; rfl)
                  have HRW := Lib.hid (HRK.out u8 HF8.out)
                  have hall1 : (#[.bool false, .string ⟨#[]⟩, .int .i64 0, .string ⟨#[]⟩, .string ⟨#[]⟩] : Array Value).all (·.oneCell') = true := by simp [Value.oneCell']
                  go_wp2_with (first | ((with_reducible refine wpList_at ⟨none, .store 51 _ _, _, _, _, _⟩ ?_); go_must (refine wpList_store_row rfl 51 (.tmp 2) (.tmp 80) rfl w.heap.size #[.bool false, .string ⟨#[]⟩, .int .i64 0, .string ⟨#[]⟩, .string ⟨#[]⟩] rfl rfl _ #[.bool false, .string ⟨#[]⟩, .int .i64 0, .string ⟨#[]⟩, .string ⟨#[]⟩] HRW.out (by kernel_rfl) rfl hall1 ?_)) | fail)
                  refine bodyPost_ret (results_cell_tmp (by rfl) _ _ w.heap.size 51 #[.bool false, .string ⟨#[]⟩, .int .i64 0, .string ⟨#[]⟩, .string ⟨#[]⟩] (0, 0) _ rfl (setRow_heap _ w.heap.size _ _ _ _ HRW.out) Tryz.underlying51 rfl (by kernel_rfl)) rfl ?_
                  exact ⟨by rw [HP.out]; rfl, Fr.setRow (hf1.trans HF8.out) (g := w.heap.size) (fun h => absurd h (Nat.lt_irrefl _)) _⟩
                · have i200 : ¬ (200 : Int) < (cl.size : Int) := by omega
                  have HR := Lib.hid (parseR_5 HOK.out (by rw [← HP2.out]; exact HPT.out) (by rw [← HQL.out]; exact HPQ.out) (by omega))
                  have HP := Lib.hid (show parseV s.data.toList = .tuple #[.agg #[.bool (placeL sec (hostTill rest)).1.secure, .string ⟨(placeL sec (hostTill rest)).1.host.toArray⟩, .int .i64 (placeL sec (hostTill rest)).1.port, .string cl, .string q], .nilIface] by
                    rw [HPR.out, HR.out, HCL.out, HP2.out]
                    show Value.tuple #[.agg #[_, _, _, _, .string ⟨(queryOf rest).toArray⟩], _] = _
                    rw [← HQL.out])
                  obtain ⟨g0, g1, g2⟩ := HB8.out u8 HG8.out
                  generalize (placeL sec (hostTill rest)).1.secure = osec at *
                  generalize (⟨(placeL sec (hostTill rest)).1.host.toArray⟩ : ByteArray) = ohost at *
                  generalize (placeL sec (hostTill rest)).1.port = oport at *
                  have HRW := Lib.hid (HRK.out u8 HF8.out)
                  have hall1 : (#[.bool osec, .string ohost, .int .i64 oport, .string cl, .string q] : Array Value).all (·.oneCell') = true := by simp [Value.oneCell']
                  go_wp2_with (first | ((with_reducible refine wpList_at ⟨some 85, _, _, _, _, _⟩ ?_); go_must (refine wpList_buildUrl rfl (.tmp 82) (.tmp 83) (.tmp 84) rfl (some 85) rfl osec ohost cl q oport rfl rfl rfl ?_)) | ((with_reducible refine wpList_at ⟨none, .store 51 _ _, _, _, _, _⟩ ?_); go_must (refine wpList_store_row rfl 51 (.tmp 2) (.tmp 85) rfl w.heap.size #[.bool osec, .string ohost, .int .i64 oport, .string cl, .string q] rfl rfl _ #[.bool false, .string ⟨#[]⟩, .int .i64 0, .string ⟨#[]⟩, .string ⟨#[]⟩] HRW.out (by kernel_rfl) rfl hall1 ?_)) | fail)
                  refine bodyPost_ret (results_cell_tmp (by rfl) _ _ w.heap.size 51 #[.bool osec, .string ohost, .int .i64 oport, .string cl, .string q] (0, 0) _ rfl (setRow_heap _ w.heap.size _ _ _ _ HRW.out) Tryz.underlying51 rfl (by kernel_rfl)) rfl ?_
                  exact ⟨by rw [HP.out]; rfl, Fr.setRow (hf1.trans HF8.out) (g := w.heap.size) (fun h => absurd h (Nat.lt_irrefl _)) _⟩
        · have t1 : ¬ p.toList = [] := by rw [ByteArray.toList_eq]; exact fun h => hp0 (byteArray_nil.1 h)
          have t2 : p.toList.isEmpty = false := by simpa using t1
          have e2 := hpe1 hp0
          subst e2
          cases hok : (placeL sec (hostTill rest)).2
          · have HR := Lib.hid (parseR_1 hok)
            have HP := Lib.hid (show parseV s.data.toList = .tuple #[.agg #[.bool false, .string ⟨#[]⟩, .int .i64 0, .string ⟨#[]⟩, .string ⟨#[]⟩], .iface 93 (.int .i64 3)] by rw [HPR.out, HR.out]; rfl)
            have HRW := Lib.hid (HRK.out u5 HF5.out)
            have hall1 : (#[.bool false, .string ⟨#[]⟩, .int .i64 0, .string ⟨#[]⟩, .string ⟨#[]⟩] : Array Value).all (·.oneCell') = true := by simp [Value.oneCell']
            go_wp2_with (first | ((with_reducible refine wpList_at ⟨none, .store 51 _ _, _, _, _, _⟩ ?_); go_must (refine wpList_store_row rfl 51 (.tmp 2) (.tmp 73) rfl w.heap.size #[.bool false, .string ⟨#[]⟩, .int .i64 0, .string ⟨#[]⟩, .string ⟨#[]⟩] rfl rfl _ #[.bool false, .string ⟨#[]⟩, .int .i64 0, .string ⟨#[]⟩, .string ⟨#[]⟩] HRW.out (by kernel_rfl) rfl hall1 ?_)) | fail)
            refine bodyPost_ret (results_cell_tmp (by rfl) _ _ w.heap.size 51 #[.bool false, .string ⟨#[]⟩, .int .i64 0, .string ⟨#[]⟩, .string ⟨#[]⟩] (0, 0) _ rfl (setRow_heap _ w.heap.size _ _ _ _ HRW.out) Tryz.underlying51 rfl (by kernel_rfl)) rfl ?_
            exact ⟨by rw [HP.out]; rfl, Fr.setRow (hf1.trans HF5.out) (g := w.heap.size) (fun h => absurd h (Nat.lt_irrefl _)) _⟩
          · have HOK := Lib.hid hok
            clear hok
            go_wp2_with fail
            refine (HPATH.out u5).mono ?_
            rintro e u6 ⟨rfl, hf6⟩
            have HF6 := Lib.hid (HF5.out.trans hf6)
            have HG6 := Lib.hid (HG5.out.trans hf6)
            clear hf6
            cases hpt : pathL p2.data.toList
            · have HR := Lib.hid (parseR_2 (sec := sec) (l := rest) (by rw [← HP2.out]; exact hpt))
              have HP := Lib.hid (show parseV s.data.toList = .tuple #[.agg #[.bool false, .string ⟨#[]⟩, .int .i64 0, .string ⟨#[]⟩, .string ⟨#[]⟩], .iface 93 (.int .i64 3)] by rw [HPR.out, HR.out]; rfl)
              have HRW := Lib.hid (HRK.out u6 HF6.out)
              have hall1 : (#[.bool false, .string ⟨#[]⟩, .int .i64 0, .string ⟨#[]⟩, .string ⟨#[]⟩] : Array Value).all (·.oneCell') = true := by simp [Value.oneCell']
              go_wp2_with (first | ((with_reducible refine wpList_at ⟨none, .store 51 _ _, _, _, _, _⟩ ?_); go_must (refine wpList_store_row rfl 51 (.tmp 2) (.tmp 73) rfl w.heap.size #[.bool false, .string ⟨#[]⟩, .int .i64 0, .string ⟨#[]⟩, .string ⟨#[]⟩] rfl rfl _ #[.bool false, .string ⟨#[]⟩, .int .i64 0, .string ⟨#[]⟩, .string ⟨#[]⟩] HRW.out (by kernel_rfl) rfl hall1 ?_)) | fail)
              refine bodyPost_ret (results_cell_tmp (by rfl) _ _ w.heap.size 51 #[.bool false, .string ⟨#[]⟩, .int .i64 0, .string ⟨#[]⟩, .string ⟨#[]⟩] (0, 0) _ rfl (setRow_heap _ w.heap.size _ _ _ _ HRW.out) Tryz.underlying51 rfl (by kernel_rfl)) rfl ?_
              exact ⟨by rw [HP.out]; rfl, Fr.setRow (hf1.trans HF6.out) (g := w.heap.size) (fun h => absurd h (Nat.lt_irrefl _)) _⟩
            · have HPT := Lib.hid hpt
              clear hpt
              go_wp2_with fail
              refine (HCON.out u6).mono ?_
              rintro e x ⟨rfl, rfl⟩
              go_wp2_with fail
              refine (HPLQ.out u6).mono ?_
              rintro e u7 ⟨rfl, hf7⟩
              have HF7 := Lib.hid (HF6.out.trans hf7)
              have HG7 := Lib.hid (HG6.out.trans hf7)
              clear hf7
              cases hpq : plainL q.data.toList
              · have HR := Lib.hid (parseR_3 (sec := sec) (l := rest) (by rw [← HQL.out]; exact hpq))
                have HP := Lib.hid (show parseV s.data.toList = .tuple #[.agg #[.bool false, .string ⟨#[]⟩, .int .i64 0, .string ⟨#[]⟩, .string ⟨#[]⟩], .iface 93 (.int .i64 3)] by rw [HPR.out, HR.out]; rfl)
                have HRW := Lib.hid (HRK.out u7 HF7.out)
                have hall1 : (#[.bool false, .string ⟨#[]⟩, .int .i64 0, .string ⟨#[]⟩, .string ⟨#[]⟩] : Array Value).all (·.oneCell') = true := by simp [Value.oneCell']
                go_wp2_with (first | ((with_reducible refine wpList_at ⟨none, .store 51 _ _, _, _, _, _⟩ ?_); go_must (refine wpList_store_row rfl 51 (.tmp 2) (.tmp 73) rfl w.heap.size #[.bool false, .string ⟨#[]⟩, .int .i64 0, .string ⟨#[]⟩, .string ⟨#[]⟩] rfl rfl _ #[.bool false, .string ⟨#[]⟩, .int .i64 0, .string ⟨#[]⟩, .string ⟨#[]⟩] HRW.out (by kernel_rfl) rfl hall1 ?_)) | fail)
                refine bodyPost_ret (results_cell_tmp (by rfl) _ _ w.heap.size 51 #[.bool false, .string ⟨#[]⟩, .int .i64 0, .string ⟨#[]⟩, .string ⟨#[]⟩] (0, 0) _ rfl (setRow_heap _ w.heap.size _ _ _ _ HRW.out) Tryz.underlying51 rfl (by kernel_rfl)) rfl ?_
                exact ⟨by rw [HP.out]; rfl, Fr.setRow (hf1.trans HF7.out) (g := w.heap.size) (fun h => absurd h (Nat.lt_irrefl _)) _⟩
              · have HPQ := Lib.hid hpq
                clear hpq
                go_wp2_with fail
                refine (HCLN.out u7).mono ?_
                rintro e u8 ⟨rfl, hf8⟩
                have HF8 := Lib.hid (HF7.out.trans hf8)
                have HG8 := Lib.hid (HG7.out.trans hf8)
                clear hf8
                obtain ⟨cl, hcl⟩ : ∃ cl : ByteArray, cl = ⟨(cleanL p2.data.toList).toArray⟩ := ⟨_, rfl⟩
                rw [← hcl]
                have hclz : cl.size = (cleanL (pathOf rest)).length := by rw [hcl, HP2.out]; show (cleanL (pathOf rest)).toArray.size = _; simp
                have HCL := Lib.hid hcl
                clear hcl
                by_cases h200 : 200 < cl.size
                · have i200 : (200 : Int) < (cl.size : Int) := by omega
                  have HR := Lib.hid (parseR_4 HOK.out (by rw [← HP2.out]; exact HPT.out) (by rw [← HQL.out]; exact HPQ.out) (by omega))
                  have HP := Lib.hid (show parseV s.data.toList = .tuple #[.agg #[.bool false, .string ⟨#[]⟩, .int .i64 0, .string ⟨#[]⟩, .string ⟨#[]⟩], .iface 93 (.int .i64 2)] by rw [HPR.out, HR.out]; rfl)
                  have HRW := Lib.hid (HRK.out u8 HF8.out)
                  have hall1 : (#[.bool false, .string ⟨#[]⟩, .int .i64 0, .string ⟨#[]⟩, .string ⟨#[]⟩] : Array Value).all (·.oneCell') = true := by simp [Value.oneCell']
                  go_wp2_with (first | ((with_reducible refine wpList_at ⟨none, .store 51 _ _, _, _, _, _⟩ ?_); go_must (refine wpList_store_row rfl 51 (.tmp 2) (.tmp 80) rfl w.heap.size #[.bool false, .string ⟨#[]⟩, .int .i64 0, .string ⟨#[]⟩, .string ⟨#[]⟩] rfl rfl _ #[.bool false, .string ⟨#[]⟩, .int .i64 0, .string ⟨#[]⟩, .string ⟨#[]⟩] HRW.out (by kernel_rfl) rfl hall1 ?_)) | fail)
                  refine bodyPost_ret (results_cell_tmp (by rfl) _ _ w.heap.size 51 #[.bool false, .string ⟨#[]⟩, .int .i64 0, .string ⟨#[]⟩, .string ⟨#[]⟩] (0, 0) _ rfl (setRow_heap _ w.heap.size _ _ _ _ HRW.out) Tryz.underlying51 rfl (by kernel_rfl)) rfl ?_
                  exact ⟨by rw [HP.out]; rfl, Fr.setRow (hf1.trans HF8.out) (g := w.heap.size) (fun h => absurd h (Nat.lt_irrefl _)) _⟩
                · have i200 : ¬ (200 : Int) < (cl.size : Int) := by omega
                  have HR := Lib.hid (parseR_5 HOK.out (by rw [← HP2.out]; exact HPT.out) (by rw [← HQL.out]; exact HPQ.out) (by omega))
                  have HP := Lib.hid (show parseV s.data.toList = .tuple #[.agg #[.bool (placeL sec (hostTill rest)).1.secure, .string ⟨(placeL sec (hostTill rest)).1.host.toArray⟩, .int .i64 (placeL sec (hostTill rest)).1.port, .string cl, .string q], .nilIface] by
                    rw [HPR.out, HR.out, HCL.out, HP2.out]
                    show Value.tuple #[.agg #[_, _, _, _, .string ⟨(queryOf rest).toArray⟩], _] = _
                    rw [← HQL.out])
                  obtain ⟨g0, g1, g2⟩ := HB8.out u8 HG8.out
                  generalize (placeL sec (hostTill rest)).1.secure = osec at *
                  generalize (⟨(placeL sec (hostTill rest)).1.host.toArray⟩ : ByteArray) = ohost at *
                  generalize (placeL sec (hostTill rest)).1.port = oport at *
                  have HRW := Lib.hid (HRK.out u8 HF8.out)
                  have hall1 : (#[.bool osec, .string ohost, .int .i64 oport, .string cl, .string q] : Array Value).all (·.oneCell') = true := by simp [Value.oneCell']
                  go_wp2_with (first | ((with_reducible refine wpList_at ⟨some 85, _, _, _, _, _⟩ ?_); go_must (refine wpList_buildUrl rfl (.tmp 82) (.tmp 83) (.tmp 84) rfl (some 85) rfl osec ohost cl q oport rfl rfl rfl ?_)) | ((with_reducible refine wpList_at ⟨none, .store 51 _ _, _, _, _, _⟩ ?_); go_must (refine wpList_store_row rfl 51 (.tmp 2) (.tmp 85) rfl w.heap.size #[.bool osec, .string ohost, .int .i64 oport, .string cl, .string q] rfl rfl _ #[.bool false, .string ⟨#[]⟩, .int .i64 0, .string ⟨#[]⟩, .string ⟨#[]⟩] HRW.out (by kernel_rfl) rfl hall1 ?_)) | fail)
                  refine bodyPost_ret (results_cell_tmp (by rfl) _ _ w.heap.size 51 #[.bool osec, .string ohost, .int .i64 oport, .string cl, .string q] (0, 0) _ rfl (setRow_heap _ w.heap.size _ _ _ _ HRW.out) Tryz.underlying51 rfl (by kernel_rfl)) rfl ?_
                  exact ⟨by rw [HP.out]; rfl, Fr.setRow (hf1.trans HF8.out) (g := w.heap.size) (fun h => absurd h (Nat.lt_irrefl _)) _⟩
      · rw [hpos]
        have q0 : ¬ (i : Int) < 0 := by omega
        go_wp2_with fail
        refine (HPLC.out u3).mono ?_
        rintro e u4 ⟨rfl, hf5⟩
        rw [HPV.out]
        have hbb := new_block u4 (.cells #[.bool (placeL sec (hostTill rest)).1.secure, .string ⟨(placeL sec (hostTill rest)).1.host.toArray⟩, .int .i64 (placeL sec (hostTill rest)).1.port] 49)
        have HB8 := Lib.hid (show ∀ U, Fr noB (u4.alloc (.cells #[.bool (placeL sec (hostTill rest)).1.secure, .string ⟨(placeL sec (hostTill rest)).1.host.toArray⟩, .int .i64 (placeL sec (hostTill rest)).1.port] 49)) U → U.cell? ⟨u4.heap.size, 0, none⟩ = some (.bool (placeL sec (hostTill rest)).1.secure) ∧ U.cell? ⟨u4.heap.size, 1, none⟩ = some (.string ⟨(placeL sec (hostTill rest)).1.host.toArray⟩) ∧ U.cell? ⟨u4.heap.size, 2, none⟩ = some (.int .i64 (placeL sec (hostTill rest)).1.port) from fun U hU => by
          have j := hU.keep hbb (fun h => h)
          simp [World.cell?, j])
        have HF4 := Lib.hid ((hfb.trans hf5).alloc (.cells #[.bool (placeL sec (hostTill rest)).1.secure, .string ⟨(placeL sec (hostTill rest)).1.host.toArray⟩, .int .i64 (placeL sec (hostTill rest)).1.port] 49))
        clear hbb hf5
        go_wp2_with fail
        refine (HCUT2.out _).mono ?_
        rintro e u5 ⟨rfl, hg5⟩
        have HF5 := Lib.hid (HF4.out.trans hg5)
        have HG5 := Lib.hid hg5
        clear hg5
        by_cases hp0 : p.size = 0
        · have t1 : p.toList = [] := by rw [ByteArray.toList_eq]; exact byteArray_nil.2 hp0
          have t2 : p.toList.isEmpty = true := by rw [t1]; rfl
          have e2 := hpe0 hp0
          subst e2
          cases hok : (placeL sec (hostTill rest)).2
          · have HR := Lib.hid (parseR_1 hok)
            have HP := Lib.hid (show parseV s.data.toList = .tuple #[.agg #[.bool false, .string ⟨#[]⟩, .int .i64 0, .string ⟨#[]⟩, .string ⟨#[]⟩], .iface 93 (.int .i64 3)] by rw [HPR.out, HR.out]; rfl)
            have HRW := Lib.hid (HRK.out u5 HF5.out)
            have hall1 : (#[.bool false, .string ⟨#[]⟩, .int .i64 0, .string ⟨#[]⟩, .string ⟨#[]⟩] : Array Value).all (·.oneCell') = true := by simp [Value.oneCell']
            go_wp2_with (first | ((with_reducible refine wpList_at ⟨none, .store 51 _ _, _, _, _, _⟩ ?_); go_must (refine wpList_store_row rfl 51 (.tmp 2) (.tmp 73) rfl w.heap.size #[.bool false, .string ⟨#[]⟩, .int .i64 0, .string ⟨#[]⟩, .string ⟨#[]⟩] rfl rfl _ #[.bool false, .string ⟨#[]⟩, .int .i64 0, .string ⟨#[]⟩, .string ⟨#[]⟩] HRW.out (by kernel_rfl) rfl hall1 ?_)) | fail)
            refine bodyPost_ret (results_cell_tmp (by rfl) _ _ w.heap.size 51 #[.bool false, .string ⟨#[]⟩, .int .i64 0, .string ⟨#[]⟩, .string ⟨#[]⟩] (0, 0) _ rfl (setRow_heap _ w.heap.size _ _ _ _ HRW.out) Tryz.underlying51 rfl (by kernel_rfl)) rfl ?_
            exact ⟨by rw [HP.out]; rfl, Fr.setRow (hf1.trans HF5.out) (g := w.heap.size) (fun h => absurd h (Nat.lt_irrefl _)) _⟩
          · have HOK := Lib.hid hok
            clear hok
            go_wp2_with fail
            refine (HPATH.out u5).mono ?_
            rintro e u6 ⟨rfl, hf6⟩
            have HF6 := Lib.hid (HF5.out.trans hf6)
            have HG6 := Lib.hid (HG5.out.trans hf6)
            clear hf6
            cases hpt : pathL (⟨#[47]⟩ : ByteArray).data.toList
            · have HR := Lib.hid (parseR_2 (sec := sec) (l := rest) (by rw [← HP2.out]; exact hpt))
              have HP := Lib.hid (show parseV s.data.toList = .tuple #[.agg #[.bool false, .string ⟨#[]⟩, .int .i64 0, .string ⟨#[]⟩, .string ⟨#[]⟩], .iface 93 (.int .i64 3)] by rw [HPR.out, HR.out]; rfl)
              have HRW := Lib.hid (HRK.out u6 HF6.out)
              have hall1 : (#[.bool false, .string ⟨#[]⟩, .int .i64 0, .string ⟨#[]⟩, .string ⟨#[]⟩] : Array Value).all (·.oneCell') = true := by simp [Value.oneCell']
              go_wp2_with (first | ((with_reducible refine wpList_at ⟨none, .store 51 _ _, _, _, _, _⟩ ?_); go_must (refine wpList_store_row rfl 51 (.tmp 2) (.tmp 73) rfl w.heap.size #[.bool false, .string ⟨#[]⟩, .int .i64 0, .string ⟨#[]⟩, .string ⟨#[]⟩] rfl rfl _ #[.bool false, .string ⟨#[]⟩, .int .i64 0, .string ⟨#[]⟩, .string ⟨#[]⟩] HRW.out (by kernel_rfl) rfl hall1 ?_)) | fail)
              refine bodyPost_ret (results_cell_tmp (by rfl) _ _ w.heap.size 51 #[.bool false, .string ⟨#[]⟩, .int .i64 0, .string ⟨#[]⟩, .string ⟨#[]⟩] (0, 0) _ rfl (setRow_heap _ w.heap.size _ _ _ _ HRW.out) Tryz.underlying51 rfl (by kernel_rfl)) rfl ?_
              exact ⟨by rw [HP.out]; rfl, Fr.setRow (hf1.trans HF6.out) (g := w.heap.size) (fun h => absurd h (Nat.lt_irrefl _)) _⟩
            · have HPT := Lib.hid hpt
              clear hpt
              go_wp2_with fail
              refine (HCON.out u6).mono ?_
              rintro e x ⟨rfl, rfl⟩
              go_wp2_with fail
              refine (HPLQ.out u6).mono ?_
              rintro e u7 ⟨rfl, hf7⟩
              have HF7 := Lib.hid (HF6.out.trans hf7)
              have HG7 := Lib.hid (HG6.out.trans hf7)
              clear hf7
              cases hpq : plainL q.data.toList
              · have HR := Lib.hid (parseR_3 (sec := sec) (l := rest) (by rw [← HQL.out]; exact hpq))
                have HP := Lib.hid (show parseV s.data.toList = .tuple #[.agg #[.bool false, .string ⟨#[]⟩, .int .i64 0, .string ⟨#[]⟩, .string ⟨#[]⟩], .iface 93 (.int .i64 3)] by rw [HPR.out, HR.out]; rfl)
                have HRW := Lib.hid (HRK.out u7 HF7.out)
                have hall1 : (#[.bool false, .string ⟨#[]⟩, .int .i64 0, .string ⟨#[]⟩, .string ⟨#[]⟩] : Array Value).all (·.oneCell') = true := by simp [Value.oneCell']
                go_wp2_with (first | ((with_reducible refine wpList_at ⟨none, .store 51 _ _, _, _, _, _⟩ ?_); go_must (refine wpList_store_row rfl 51 (.tmp 2) (.tmp 73) rfl w.heap.size #[.bool false, .string ⟨#[]⟩, .int .i64 0, .string ⟨#[]⟩, .string ⟨#[]⟩] rfl rfl _ #[.bool false, .string ⟨#[]⟩, .int .i64 0, .string ⟨#[]⟩, .string ⟨#[]⟩] HRW.out (by kernel_rfl) rfl hall1 ?_)) | fail)
                refine bodyPost_ret (results_cell_tmp (by rfl) _ _ w.heap.size 51 #[.bool false, .string ⟨#[]⟩, .int .i64 0, .string ⟨#[]⟩, .string ⟨#[]⟩] (0, 0) _ rfl (setRow_heap _ w.heap.size _ _ _ _ HRW.out) Tryz.underlying51 rfl (by kernel_rfl)) rfl ?_
                exact ⟨by rw [HP.out]; rfl, Fr.setRow (hf1.trans HF7.out) (g := w.heap.size) (fun h => absurd h (Nat.lt_irrefl _)) _⟩
              · have HPQ := Lib.hid hpq
                clear hpq
                go_wp2_with fail
                refine (HCLN.out u7).mono ?_
                rintro e u8 ⟨rfl, hf8⟩
                have HF8 := Lib.hid (HF7.out.trans hf8)
                have HG8 := Lib.hid (HG7.out.trans hf8)
                clear hf8
                obtain ⟨cl, hcl⟩ : ∃ cl : ByteArray, cl = ⟨(cleanL (⟨#[47]⟩ : ByteArray).data.toList).toArray⟩ := ⟨_, rfl⟩
                rw [← hcl]
                have hclz : cl.size = (cleanL (pathOf rest)).length := by rw [hcl, HP2.out]; show (cleanL (pathOf rest)).toArray.size = _; simp
                have HCL := Lib.hid hcl
                clear hcl
                by_cases h200 : 200 < cl.size
                · have i200 : (200 : Int) < (cl.size : Int) := by omega
                  have HR := Lib.hid (parseR_4 HOK.out (by rw [← HP2.out]; exact HPT.out) (by rw [← HQL.out]; exact HPQ.out) (by omega))
                  have HP := Lib.hid (show parseV s.data.toList = .tuple #[.agg #[.bool false, .string ⟨#[]⟩, .int .i64 0, .string ⟨#[]⟩, .string ⟨#[]⟩], .iface 93 (.int .i64 2)] by rw [HPR.out, HR.out]; rfl)
                  have HRW := Lib.hid (HRK.out u8 HF8.out)
                  have hall1 : (#[.bool false, .string ⟨#[]⟩, .int .i64 0, .string ⟨#[]⟩, .string ⟨#[]⟩] : Array Value).all (·.oneCell') = true := by simp [Value.oneCell']
                  go_wp2_with (first | ((with_reducible refine wpList_at ⟨none, .store 51 _ _, _, _, _, _⟩ ?_); go_must (refine wpList_store_row rfl 51 (.tmp 2) (.tmp 80) rfl w.heap.size #[.bool false, .string ⟨#[]⟩, .int .i64 0, .string ⟨#[]⟩, .string ⟨#[]⟩] rfl rfl _ #[.bool false, .string ⟨#[]⟩, .int .i64 0, .string ⟨#[]⟩, .string ⟨#[]⟩] HRW.out (by kernel_rfl) rfl hall1 ?_)) | fail)
                  refine bodyPost_ret (results_cell_tmp (by rfl) _ _ w.heap.size 51 #[.bool false, .string ⟨#[]⟩, .int .i64 0, .string ⟨#[]⟩, .string ⟨#[]⟩] (0, 0) _ rfl (setRow_heap _ w.heap.size _ _ _ _ HRW.out) Tryz.underlying51 rfl (by kernel_rfl)) rfl ?_
                  exact ⟨by rw [HP.out]; rfl, Fr.setRow (hf1.trans HF8.out) (g := w.heap.size) (fun h => absurd h (Nat.lt_irrefl _)) _⟩
                · have i200 : ¬ (200 : Int) < (cl.size : Int) := by omega
                  have HR := Lib.hid (parseR_5 HOK.out (by rw [← HP2.out]; exact HPT.out) (by rw [← HQL.out]; exact HPQ.out) (by omega))
                  have HP := Lib.hid (show parseV s.data.toList = .tuple #[.agg #[.bool (placeL sec (hostTill rest)).1.secure, .string ⟨(placeL sec (hostTill rest)).1.host.toArray⟩, .int .i64 (placeL sec (hostTill rest)).1.port, .string cl, .string q], .nilIface] by
                    rw [HPR.out, HR.out, HCL.out, HP2.out]
                    show Value.tuple #[.agg #[_, _, _, _, .string ⟨(queryOf rest).toArray⟩], _] = _
                    rw [← HQL.out])
                  obtain ⟨g0, g1, g2⟩ := HB8.out u8 HG8.out
                  generalize (placeL sec (hostTill rest)).1.secure = osec at *
                  generalize (⟨(placeL sec (hostTill rest)).1.host.toArray⟩ : ByteArray) = ohost at *
                  generalize (placeL sec (hostTill rest)).1.port = oport at *
                  have HRW := Lib.hid (HRK.out u8 HF8.out)
                  have hall1 : (#[.bool osec, .string ohost, .int .i64 oport, .string cl, .string q] : Array Value).all (·.oneCell') = true := by simp [Value.oneCell']
                  go_wp2_with (first | ((with_reducible refine wpList_at ⟨some 85, _, _, _, _, _⟩ ?_); go_must (refine wpList_buildUrl rfl (.tmp 82) (.tmp 83) (.tmp 84) rfl (some 85) rfl osec ohost cl q oport rfl rfl rfl ?_)) | ((with_reducible refine wpList_at ⟨none, .store 51 _ _, _, _, _, _⟩ ?_); go_must (refine wpList_store_row rfl 51 (.tmp 2) (.tmp 85) rfl w.heap.size #[.bool osec, .string ohost, .int .i64 oport, .string cl, .string q] rfl rfl _ #[.bool false, .string ⟨#[]⟩, .int .i64 0, .string ⟨#[]⟩, .string ⟨#[]⟩] HRW.out (by kernel_rfl) rfl hall1 ?_)) | fail)
                  refine bodyPost_ret (results_cell_tmp (by rfl) _ _ w.heap.size 51 #[.bool osec, .string ohost, .int .i64 oport, .string cl, .string q] (0, 0) _ rfl (setRow_heap _ w.heap.size _ _ _ _ HRW.out) Tryz.underlying51 rfl (by kernel_rfl)) rfl ?_
                  exact ⟨by rw [HP.out]; rfl, Fr.setRow (hf1.trans HF8.out) (g := w.heap.size) (fun h => absurd h (Nat.lt_irrefl _)) _⟩
        · have t1 : ¬ p.toList = [] := by rw [ByteArray.toList_eq]; exact fun h => hp0 (byteArray_nil.1 h)
          have t2 : p.toList.isEmpty = false := by simpa using t1
          have e2 := hpe1 hp0
          subst e2
          cases hok : (placeL sec (hostTill rest)).2
          · have HR := Lib.hid (parseR_1 hok)
            have HP := Lib.hid (show parseV s.data.toList = .tuple #[.agg #[.bool false, .string ⟨#[]⟩, .int .i64 0, .string ⟨#[]⟩, .string ⟨#[]⟩], .iface 93 (.int .i64 3)] by rw [HPR.out, HR.out]; rfl)
            have HRW := Lib.hid (HRK.out u5 HF5.out)
            have hall1 : (#[.bool false, .string ⟨#[]⟩, .int .i64 0, .string ⟨#[]⟩, .string ⟨#[]⟩] : Array Value).all (·.oneCell') = true := by simp [Value.oneCell']
            go_wp2_with (first | ((with_reducible refine wpList_at ⟨none, .store 51 _ _, _, _, _, _⟩ ?_); go_must (refine wpList_store_row rfl 51 (.tmp 2) (.tmp 73) rfl w.heap.size #[.bool false, .string ⟨#[]⟩, .int .i64 0, .string ⟨#[]⟩, .string ⟨#[]⟩] rfl rfl _ #[.bool false, .string ⟨#[]⟩, .int .i64 0, .string ⟨#[]⟩, .string ⟨#[]⟩] HRW.out (by kernel_rfl) rfl hall1 ?_)) | fail)
            refine bodyPost_ret (results_cell_tmp (by rfl) _ _ w.heap.size 51 #[.bool false, .string ⟨#[]⟩, .int .i64 0, .string ⟨#[]⟩, .string ⟨#[]⟩] (0, 0) _ rfl (setRow_heap _ w.heap.size _ _ _ _ HRW.out) Tryz.underlying51 rfl (by kernel_rfl)) rfl ?_
            exact ⟨by rw [HP.out]; rfl, Fr.setRow (hf1.trans HF5.out) (g := w.heap.size) (fun h => absurd h (Nat.lt_irrefl _)) _⟩
          · have HOK := Lib.hid hok
            clear hok
            go_wp2_with fail
            refine (HPATH.out u5).mono ?_
            rintro e u6 ⟨rfl, hf6⟩
            have HF6 := Lib.hid (HF5.out.trans hf6)
            have HG6 := Lib.hid (HG5.out.trans hf6)
            clear hf6
            cases hpt : pathL p2.data.toList
            · have HR := Lib.hid (parseR_2 (sec := sec) (l := rest) (by rw [← HP2.out]; exact hpt))
              have HP := Lib.hid (show parseV s.data.toList = .tuple #[.agg #[.bool false, .string ⟨#[]⟩, .int .i64 0, .string ⟨#[]⟩, .string ⟨#[]⟩], .iface 93 (.int .i64 3)] by rw [HPR.out, HR.out]; rfl)
              have HRW := Lib.hid (HRK.out u6 HF6.out)
              have hall1 : (#[.bool false, .string ⟨#[]⟩, .int .i64 0, .string ⟨#[]⟩, .string ⟨#[]⟩] : Array Value).all (·.oneCell') = true := by simp [Value.oneCell']
              go_wp2_with (first | ((with_reducible refine wpList_at ⟨none, .store 51 _ _, _, _, _, _⟩ ?_); go_must (refine wpList_store_row rfl 51 (.tmp 2) (.tmp 73) rfl w.heap.size #[.bool false, .string ⟨#[]⟩, .int .i64 0, .string ⟨#[]⟩, .string ⟨#[]⟩] rfl rfl _ #[.bool false, .string ⟨#[]⟩, .int .i64 0, .string ⟨#[]⟩, .string ⟨#[]⟩] HRW.out (by kernel_rfl) rfl hall1 ?_)) | fail)
              refine bodyPost_ret (results_cell_tmp (by rfl) _ _ w.heap.size 51 #[.bool false, .string ⟨#[]⟩, .int .i64 0, .string ⟨#[]⟩, .string ⟨#[]⟩] (0, 0) _ rfl (setRow_heap _ w.heap.size _ _ _ _ HRW.out) Tryz.underlying51 rfl (by kernel_rfl)) rfl ?_
              exact ⟨by rw [HP.out]; rfl, Fr.setRow (hf1.trans HF6.out) (g := w.heap.size) (fun h => absurd h (Nat.lt_irrefl _)) _⟩
            · have HPT := Lib.hid hpt
              clear hpt
              go_wp2_with fail
              refine (HCON.out u6).mono ?_
              rintro e x ⟨rfl, rfl⟩
              go_wp2_with fail
              refine (HPLQ.out u6).mono ?_
              rintro e u7 ⟨rfl, hf7⟩
              have HF7 := Lib.hid (HF6.out.trans hf7)
              have HG7 := Lib.hid (HG6.out.trans hf7)
              clear hf7
              cases hpq : plainL q.data.toList
              · have HR := Lib.hid (parseR_3 (sec := sec) (l := rest) (by rw [← HQL.out]; exact hpq))
                have HP := Lib.hid (show parseV s.data.toList = .tuple #[.agg #[.bool false, .string ⟨#[]⟩, .int .i64 0, .string ⟨#[]⟩, .string ⟨#[]⟩], .iface 93 (.int .i64 3)] by rw [HPR.out, HR.out]; rfl)
                have HRW := Lib.hid (HRK.out u7 HF7.out)
                have hall1 : (#[.bool false, .string ⟨#[]⟩, .int .i64 0, .string ⟨#[]⟩, .string ⟨#[]⟩] : Array Value).all (·.oneCell') = true := by simp [Value.oneCell']
                go_wp2_with (first | ((with_reducible refine wpList_at ⟨none, .store 51 _ _, _, _, _, _⟩ ?_); go_must (refine wpList_store_row rfl 51 (.tmp 2) (.tmp 73) rfl w.heap.size #[.bool false, .string ⟨#[]⟩, .int .i64 0, .string ⟨#[]⟩, .string ⟨#[]⟩] rfl rfl _ #[.bool false, .string ⟨#[]⟩, .int .i64 0, .string ⟨#[]⟩, .string ⟨#[]⟩] HRW.out (by kernel_rfl) rfl hall1 ?_)) | fail)
                refine bodyPost_ret (results_cell_tmp (by rfl) _ _ w.heap.size 51 #[.bool false, .string ⟨#[]⟩, .int .i64 0, .string ⟨#[]⟩, .string ⟨#[]⟩] (0, 0) _ rfl (setRow_heap _ w.heap.size _ _ _ _ HRW.out) Tryz.underlying51 rfl (by kernel_rfl)) rfl ?_
                exact ⟨by rw [HP.out]; rfl, Fr.setRow (hf1.trans HF7.out) (g := w.heap.size) (fun h => absurd h (Nat.lt_irrefl _)) _⟩
              · have HPQ := Lib.hid hpq
                clear hpq
                go_wp2_with fail
                refine (HCLN.out u7).mono ?_
                rintro e u8 ⟨rfl, hf8⟩
                have HF8 := Lib.hid (HF7.out.trans hf8)
                have HG8 := Lib.hid (HG7.out.trans hf8)
                clear hf8
                obtain ⟨cl, hcl⟩ : ∃ cl : ByteArray, cl = ⟨(cleanL p2.data.toList).toArray⟩ := ⟨_, rfl⟩
                rw [← hcl]
                have hclz : cl.size = (cleanL (pathOf rest)).length := by rw [hcl, HP2.out]; show (cleanL (pathOf rest)).toArray.size = _; simp
                have HCL := Lib.hid hcl
                clear hcl
                by_cases h200 : 200 < cl.size
                · have i200 : (200 : Int) < (cl.size : Int) := by omega
                  have HR := Lib.hid (parseR_4 HOK.out (by rw [← HP2.out]; exact HPT.out) (by rw [← HQL.out]; exact HPQ.out) (by omega))
                  have HP := Lib.hid (show parseV s.data.toList = .tuple #[.agg #[.bool false, .string ⟨#[]⟩, .int .i64 0, .string ⟨#[]⟩, .string ⟨#[]⟩], .iface 93 (.int .i64 2)] by rw [HPR.out, HR.out]; rfl)
                  have HRW := Lib.hid (HRK.out u8 HF8.out)
                  have hall1 : (#[.bool false, .string ⟨#[]⟩, .int .i64 0, .string ⟨#[]⟩, .string ⟨#[]⟩] : Array Value).all (·.oneCell') = true := by simp [Value.oneCell']
                  go_wp2_with (first | ((with_reducible refine wpList_at ⟨none, .store 51 _ _, _, _, _, _⟩ ?_); go_must (refine wpList_store_row rfl 51 (.tmp 2) (.tmp 80) rfl w.heap.size #[.bool false, .string ⟨#[]⟩, .int .i64 0, .string ⟨#[]⟩, .string ⟨#[]⟩] rfl rfl _ #[.bool false, .string ⟨#[]⟩, .int .i64 0, .string ⟨#[]⟩, .string ⟨#[]⟩] HRW.out (by kernel_rfl) rfl hall1 ?_)) | fail)
                  refine bodyPost_ret (results_cell_tmp (by rfl) _ _ w.heap.size 51 #[.bool false, .string ⟨#[]⟩, .int .i64 0, .string ⟨#[]⟩, .string ⟨#[]⟩] (0, 0) _ rfl (setRow_heap _ w.heap.size _ _ _ _ HRW.out) Tryz.underlying51 rfl (by kernel_rfl)) rfl ?_
                  exact ⟨by rw [HP.out]; rfl, Fr.setRow (hf1.trans HF8.out) (g := w.heap.size) (fun h => absurd h (Nat.lt_irrefl _)) _⟩
                · have i200 : ¬ (200 : Int) < (cl.size : Int) := by omega
                  have HR := Lib.hid (parseR_5 HOK.out (by rw [← HP2.out]; exact HPT.out) (by rw [← HQL.out]; exact HPQ.out) (by omega))
                  have HP := Lib.hid (show parseV s.data.toList = .tuple #[.agg #[.bool (placeL sec (hostTill rest)).1.secure, .string ⟨(placeL sec (hostTill rest)).1.host.toArray⟩, .int .i64 (placeL sec (hostTill rest)).1.port, .string cl, .string q], .nilIface] by
                    rw [HPR.out, HR.out, HCL.out, HP2.out]
                    show Value.tuple #[.agg #[_, _, _, _, .string ⟨(queryOf rest).toArray⟩], _] = _
                    rw [← HQL.out])
                  obtain ⟨g0, g1, g2⟩ := HB8.out u8 HG8.out
                  generalize (placeL sec (hostTill rest)).1.secure = osec at *
                  generalize (⟨(placeL sec (hostTill rest)).1.host.toArray⟩ : ByteArray) = ohost at *
                  generalize (placeL sec (hostTill rest)).1.port = oport at *
                  have HRW := Lib.hid (HRK.out u8 HF8.out)
                  have hall1 : (#[.bool osec, .string ohost, .int .i64 oport, .string cl, .string q] : Array Value).all (·.oneCell') = true := by simp [Value.oneCell']
                  go_wp2_with (first | ((with_reducible refine wpList_at ⟨some 85, _, _, _, _, _⟩ ?_); go_must (refine wpList_buildUrl rfl (.tmp 82) (.tmp 83) (.tmp 84) rfl (some 85) rfl osec ohost cl q oport rfl rfl rfl ?_)) | ((with_reducible refine wpList_at ⟨none, .store 51 _ _, _, _, _, _⟩ ?_); go_must (refine wpList_store_row rfl 51 (.tmp 2) (.tmp 85) rfl w.heap.size #[.bool osec, .string ohost, .int .i64 oport, .string cl, .string q] rfl rfl _ #[.bool false, .string ⟨#[]⟩, .int .i64 0, .string ⟨#[]⟩, .string ⟨#[]⟩] HRW.out (by kernel_rfl) rfl hall1 ?_)) | fail)
                  refine bodyPost_ret (results_cell_tmp (by rfl) _ _ w.heap.size 51 #[.bool osec, .string ohost, .int .i64 oport, .string cl, .string q] (0, 0) _ rfl (setRow_heap _ w.heap.size _ _ _ _ HRW.out) Tryz.underlying51 rfl (by kernel_rfl)) rfl ?_
                  exact ⟨by rw [HP.out]; rfl, Fr.setRow (hf1.trans HF8.out) (g := w.heap.size) (fun h => absurd h (Nat.lt_irrefl _)) _⟩
end Go.Proofs.YtkoobhgedoanhaaGreatDoor
