/- The law UrlBack: its walk. -/
import Derived.Test.YtghimbpihmehoaaDoorNamed
import Derived.Test.YtghimbpihmehoaaDoorBackLaw
namespace Go.Proofs.YtghimbpihmehoaaDoor
open Go.RowKit

theorem run_eql_url (sec : Bool) (ho pa qu : ByteArray) (port : Int) (w : World) : (binOp .eql 65 (.agg #[.bool sec, .string ho, .int .i64 port, .string pa, .string qu]) (.agg #[.bool sec, .string ho, .int .i64 port, .string pa, .string qu])).run Tryd.prog w = .ok (.bool true) w := by
  go_simp
theorem print_list (sec : Bool) (host path query : List UInt8) (port : Int) : (printB ⟨sec, ⟨host.toArray⟩, port⟩ ⟨path.toArray⟩ ⟨query.toArray⟩).data.toList = printL ⟨⟨sec, host, port⟩, path, query⟩ := by
  unfold printB printL
  by_cases h : query = []
  · subst h
    rw [if_pos (show (⟨([] : List UInt8).toArray⟩ : ByteArray).size = 0 from rfl)]
    show _ = textO ⟨sec, host, port⟩ ++ (path ++ _)
    simp [oriB, Ori.toL]
  · rw [if_neg (show ¬ (⟨query.toArray⟩ : ByteArray).size = 0 from fun e => h (by have : query.toArray.size = 0 := e; simpa using this))]
    show _ = textO ⟨sec, host, port⟩ ++ (path ++ if query = [] then [] else 63 :: query)
    rw [if_neg h]
    simp [oriB, Ori.toL]
set_option maxRecDepth 100000 in
set_option maxHeartbeats 8000000 in
theorem UrlBack_walk (s : ByteArray) (z0 : s.size ≤ 140737488351232) (w : World) (ht : PwTab w) :
    Calls Tryd.prog 12 #[.string s] w fun e w' => e = .returned (.bool true) ∧ Below w.heap.size w w' := by
  have HN := Lib.hid (named_any w ht)
  have HT := Lib.hid ht
  clear ht
  go_enter Tryd.func12, Tryd.ntmps12
  go_wp2_with fail
  refine HN.out.mono ?_
  rintro e u ⟨rfl, hf⟩
  have HF := Lib.hid hf
  clear hf HN
  by_cases hlen : 500 < s.size
  · have hlen' : (500 : Int) < (s.size : Int) := by omega
    go_wp2
    go_ret
    exact ⟨rfl, HF.out.none_below⟩
  · have hlen' : ¬ (500 : Int) < (s.size : Int) := by omega
    have hsl : s.data.toList.length = s.size := by simp
    go_wp2_with fail
    refine (Parse_any s u (by omega)).mono ?_
    rintro e u1 ⟨rfl, hf1⟩
    have HF1 := Lib.hid (HF.out.trans hf1)
    clear hf1
    rcases parseV_cases s.data.toList with ⟨n, hv⟩ | ⟨x, hx, hv⟩
    · rw [hv]
      clear hv
      go_wp2
      go_ret
      exact ⟨rfl, (HF1.out.alloc _).none_below⟩
    · rw [hv]
      clear hv
      have hpp := parse_print hx (by omega)
      have hri := parse_right hx
      have hr := right_host hri
      have hp := parse_path hx
      have hq := parse_query_len hx
      clear hx
      obtain ⟨⟨sec, host, port⟩, path, query⟩ := x
      have hr : host.length ≤ 60 ∧ 1 ≤ port ∧ port ≤ 65535 := hr
      have hp : path.head? = some 47 ∧ path.length ≤ 200 ∧ _ := hp
      have hq : query.length ≤ s.data.toList.length := hq
      have hpl := print_list sec host path query port
      obtain ⟨ho, hho⟩ : ∃ ho : ByteArray, ho = ⟨host.toArray⟩ := ⟨_, rfl⟩
      obtain ⟨pa, hpa⟩ : ∃ pa : ByteArray, pa = ⟨path.toArray⟩ := ⟨_, rfl⟩
      obtain ⟨qu, hqu⟩ : ∃ qu : ByteArray, qu = ⟨query.toArray⟩ := ⟨_, rfl⟩
      rw [← hho, ← hpa, ← hqu] at hpl
      have zh : ho.size < 100000 := by rw [hho]; show host.toArray.size < _; simp; omega
      have zp : pa.size ≤ 200 := by rw [hpa]; show path.toArray.size ≤ _; simp; omega
      have zq : qu.size < 100000 := by rw [hqu]; show query.toArray.size < _; simp; omega
      have HV : (UrlL.cells ⟨⟨sec, host, port⟩, path, query⟩).toArray = #[.bool sec, .string ho, .int .i64 port, .string pa, .string qu] := by rw [hho, hpa, hqu]; rfl
      have HHD := Lib.hid (show Lib.hasPrefix pa.data.toList [47] = true by rw [prefix47, hpa]; show (path.head? == some 47) = true; rw [hp.1]; rfl)
      have HRI := Lib.hid (show rightO ⟨sec, ho, port⟩ = true by unfold rightO; rw [hho]; exact hri)
      have HPV := Lib.hid (show parseV (printB ⟨sec, ho, port⟩ pa qu).data.toList = .tuple #[.agg #[.bool sec, .string ho, .int .i64 port, .string pa, .string qu], .nilIface] by
        rw [hpl]; unfold parseV; rw [hpp]; show Value.tuple #[.agg (UrlL.cells _).toArray, _] = _; rw [HV])
      rw [HV]
      have hoz := oriB_size ⟨sec, ho, port⟩ (by show _ ≤ port; omega) (by show port ≤ _; omega)
      have hoz : (oriB ⟨sec, ho, port⟩).size ≤ ho.size + 40 := hoz
      have hzz : ho.size ≤ 60 := by rw [hho]; show host.toArray.size ≤ _; simp; omega
      have hzq : qu.size ≤ 500 := by rw [hqu]; show query.toArray.size ≤ _; simp; omega
      have hpz : (printB ⟨sec, ho, port⟩ pa qu).size < 100000 := by
        unfold printB
        split
        · rw [ByteArray.size_append]; omega
        · rw [ByteArray.size_append, ByteArray.size_append, ByteArray.size_append]; show _ + _ + (1 + _) < _; omega
      clear HV hho hpa hqu hp hq hpl hpp hri
      have heq := run_eql_url sec ho pa qu port
      obtain ⟨x1, hx1⟩ : ∃ x1, x1 = u1.alloc (.cells #[.bool sec, .string ho, .int .i64 port, .string pa, .string qu] 65) := ⟨_, rfl⟩
      have hb := new_block u1 (.cells #[.bool sec, .string ho, .int .i64 port, .string pa, .string qu] 65)
      rw [← hx1] at hb
      have HF2 := Lib.hid (show Fr noB w x1 by rw [hx1]; exact HF1.out.alloc _)
      have HS := Lib.hid (show ∀ U, Fr noB x1 U → U.cell? ⟨u1.heap.size, 0, none⟩ = some (.bool sec) ∧ U.cell? ⟨u1.heap.size, 1, none⟩ = some (.string ho) ∧ U.cell? ⟨u1.heap.size, 2, none⟩ = some (.int .i64 port) ∧ U.cell? ⟨u1.heap.size, 3, none⟩ = some (.string pa) ∧ U.cell? ⟨u1.heap.size, 4, none⟩ = some (.string qu) from fun U hU => by
        have j1 := hU.keep hb (fun h => h)
        simp [World.cell?, j1])
      have CP := Lib.hid (Print_any ⟨sec, ho, port⟩ pa qu x1 (HT.out.fr HF2.out) (by show _ ≤ port; omega) (by show port ≤ _; omega) zh (by omega) zq)
      have CQ := Lib.hid (show ∀ U, Calls Tryd.prog 47 #[.string (printB ⟨sec, ho, port⟩ pa qu)] U fun e w' => e = .returned (.tuple #[.agg #[.bool sec, .string ho, .int .i64 port, .string pa, .string qu], .nilIface]) ∧ Fr noB U w' from fun U => (Parse_any _ U hpz).mono fun e w' h => ⟨by rw [h.1, HPV.out], h.2⟩)
      have CR := Lib.hid (show ∀ U, Calls Tryd.prog 41 #[.agg #[.bool sec, .string ho, .int .i64 port]] U fun e w' => e = .returned (.bool true) ∧ Fr noB U w' from fun U => (Right_any ⟨sec, ho, port⟩ U zh).mono fun e w' h => ⟨by rw [h.1, HRI.out], h.2⟩)
      have CH := Lib.hid (show ∀ U, Calls Tryd.prog 46 #[.string pa, .string ⟨#[47]⟩] U fun e w' => e = .returned (.bool true) ∧ U = w' from fun U => (Tryd.strings_HasPrefix pa ⟨#[47]⟩ U).mono fun e w' h => ⟨by rw [h.1]; show Ending.returned (.bool (Lib.hasPrefix pa.data.toList [47])) = _; rw [HHD.out], h.2.symm⟩)
      have HX1 := Lib.hid hx1
      clear hx1 hb hr hoz hpz HRI HPV HHD
      generalize printB ⟨sec, ho, port⟩ pa qu = pr at *
      have zp' : (pa.size : Int) ≤ 200 := by omega
      obtain ⟨c0, c1, c2, c3, c4⟩ := HS.out x1 (Fr.refl _ _)
      rw [HX1.out] at c0 c1 c2 c3 c4
      go_wp2_with fail
      rw [← HX1.out]
      refine CP.out.mono ?_
      rintro e u2 ⟨rfl, hf2⟩
      go_wp2_with fail
      refine (CQ.out u2).mono ?_
      rintro e u3 ⟨rfl, hf3⟩
      clear c0 c1 c2 c3 c4
      have HF3 := Lib.hid ((hf2.trans hf3).alloc (.cells #[.bool sec, .string ho, .int .i64 port, .string pa, .string qu] 65))
      clear hf2 hf3
      obtain ⟨c0, c1, c2, c3, c4⟩ := HS.out _ HF3.out
      go_wp2_with fail
      refine (CR.out _).mono ?_
      rintro e u4 ⟨rfl, hf4⟩
      have HF4 := Lib.hid (HF3.out.trans hf4)
      clear hf4 c0 c1 c2 c3 c4
      obtain ⟨c0, c1, c2, c3, c4⟩ := HS.out _ HF4.out
      go_wp2_with fail
      refine (CH.out _).mono ?_
      rintro e x ⟨rfl, rfl⟩
      go_wp2
      go_ret
      exact ⟨rfl, (HF2.out.trans HF4.out).none_below⟩
end Go.Proofs.YtghimbpihmehoaaDoor
