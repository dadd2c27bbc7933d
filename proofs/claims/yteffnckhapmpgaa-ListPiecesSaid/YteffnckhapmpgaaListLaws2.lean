/- The law ListPieces: its walk. -/
import Derived.Test.YteffnckhapmpgaaConcat
namespace Go.Proofs.Yteffnckhapmpgaa
open Go.RowKit

theorem data_len (s : ByteArray) : s.data.toList.length = s.size := rfl

set_option maxRecDepth 100000 in
set_option maxHeartbeats 4000000 in
theorem ListPieces_walk (a0 a1 : ByteArray) (i2 : Int) (z0 : a0.size ≤ 140737488351232) (z1 : a1.size ≤ 140737488351232) (w : World) :
    Calls Try.prog 13 #[.string a0, .string a1, .int .i64 i2] w fun e w' => e = .returned (.bool true) ∧ Below w.heap.size w w' := by
  obtain ⟨hp0, hp4⟩ := pickI_range i2 4 (by decide)
  obtain ⟨k, hk⟩ := Int.eq_ofNat_of_zero_le hp0
  go_enter Try.func13, Try.ntmps13
  go_wp2_with fail
  refine (worded_any w).mono ?_
  rintro e u1 ⟨rfl, hf1⟩
  by_cases hlen : 300 < a0.size + a1.size
  · have hlen' : (300 : Int) < (a0.size : Int) + (a1.size : Int) := by omega
    go_wp2
    go_ret
    exact ⟨rfl, hf1.none_below⟩
  · have hlen' : ¬ (300 : Int) < (a0.size : Int) + (a1.size : Int) := by omega
    go_wp2_with fail
    refine (List_any a0 u1 (by omega)).mono ?_
    intro e u2 hp
    rcases list_or a0.data.toList with ⟨ws, hl, hn⟩ | hbad
    · obtain ⟨v, rfl, hv, hf2⟩ := hp.isOk hl hn
      have HL := Lib.hid hl
      have HF2 := hf1.trans hf2
      clear hp hl hf1 hf2
      go_wp2_with fail
      refine (List_any a1 u2 (by omega)).mono ?_
      intro e u3 hp
      rcases list_or a1.data.toList with ⟨ws2, hl2, hn2⟩ | hbad
      · obtain ⟨v2, rfl, hv2, hf3⟩ := hp.isOk hl2 hn2
        have HL2 := Lib.hid hl2
        have hv1 := hv.at.frNone hf3
        have hv2' := hv2.at
        have HF3 := HF2.trans hf3
        clear hp hl2 hf3 HF2 hv hv2
        obtain ⟨va, vc, hvf⟩ := hv1.form
        obtain ⟨va2, vc2, hvf2⟩ := hv2'.form
        subst hvf
        subst hvf2
        have hw1 := wordsB_len ws
        have hw2 := wordsB_len ws2
        by_cases h40 : 40 < (wordsB ws).length + (wordsB ws2).length
        · have h40' : (40 : Int) < ((wordsB ws).length : Int) + ((wordsB ws2).length : Int) := by omega
          go_wp2
          go_ret
          exact ⟨rfl, HF3.none_below⟩
        · have h40' : ¬ (40 : Int) < ((wordsB ws).length : Int) + ((wordsB ws2).length : Int) := by omega
          go_wp2_with fail
          refine (pick_any i2 4 u3 (by decide) (by decide)).mono ?_
          rintro e u4 ⟨rfl, rfl⟩
          rw [hk]
          have hkr : ¬ (9223372036854775807 : Int) < 1 + (k : Int) := by omega
          go_wp2_with fail
          rw [show ((1 : Int) + (k : Int)) = ((k + 1 : Nat) : Int) by omega]
          refine (Try.strings_Repeat ⟨#[32, 44, 9]⟩ (k + 1) u3 (by omega) (by show 3 * (k + 1) ≤ _; omega)).mono ?_
          rintro e u5 ⟨rfl, hb5⟩
          have HF5 := HF3.trans (Fr.of_below hb5)
          have hv15 := hv1.frNone (Fr.of_below hb5)
          have hv25 := hv2'.frNone (Fr.of_below hb5)
          clear hb5 hv1 hv2'
          have hrl : (Lib.repeatL [32, 44, 9] (k + 1) : List UInt8).length = 3 * (k + 1) := by rw [Lib.repeatL_length]; simp; omega
          go_wp2_with fail
          have hdl : (a0 ++ (⟨(Lib.repeatL [32, 44, 9] (k + 1)).toArray⟩ : ByteArray) ++ a1).data.toList = a0.data.toList ++ Lib.repeatL [32, 44, 9] (k + 1) ++ a1.data.toList := by simp [ByteArray.data_append]
          have hsz : (a0 ++ (⟨(Lib.repeatL [32, 44, 9] (k + 1)).toArray⟩ : ByteArray) ++ a1).size < 4398046511104 := by
            have e : (a0 ++ (⟨(Lib.repeatL [32, 44, 9] (k + 1)).toArray⟩ : ByteArray) ++ a1).size = (a0 ++ (⟨(Lib.repeatL [32, 44, 9] (k + 1)).toArray⟩ : ByteArray) ++ a1).data.toList.length := (data_len _).symm
            rw [e, hdl, List.length_append, List.length_append, hrl]
            have e0 : a0.data.toList.length = a0.size := data_len _
            have e1 : a1.data.toList.length = a1.size := data_len _
            omega
          have hpc := Lib.hid (listAll_pieces k HL.out HL2.out)
          rw [← hdl] at hpc
          generalize a0 ++ (⟨(Lib.repeatL [32, 44, 9] (k + 1)).toArray⟩ : ByteArray) ++ a1 = big at hpc hsz
          refine (List_any big u5 hsz).mono ?_
          intro e u6 hp
          obtain ⟨v3, rfl, hv3, hf6⟩ := hp.isOk hpc.out (by simp; omega)
          have hv16 := hv15.frNone hf6
          have hv26 := hv25.frNone hf6
          have HF6 := HF5.trans hf6
          have hv3' := hv3.at
          clear hp hv15 hv25 hf6 HF5 hv3 hdl hrl hsz
          go_wp2_with fail
          rw [hw1] at hv16
          rw [hw2] at hv26
          refine (Concat2_any u6.heap.size _ _ (wordsB ws) (wordsB ws2) _ (new_block u6 _) (hv16.frNone ((Fr.refl _ _).alloc _)) (hv26.frNone ((Fr.refl _ _).alloc _)) (by omega)).mono ?_
          rintro e u7 ⟨v4, rfl, hv4, hf7⟩
          have hfa := ((Fr.refl noB u6).alloc (Obj.cells #[Value.slice va ws.length vc, Value.slice va2 ws2.length vc2] 44)).trans hf7
          have hv37 := hv3'.frNone hfa
          have HF7 := HF6.trans hfa
          have hv4' := hv4.at
          clear hf7 hfa hv3' hv4 HF6 hv16 hv26
          have hwa : wordsB (ws ++ ws2) = wordsB ws ++ wordsB ws2 := by simp [wordsB]
          have hdec := Lib.hid (show decide (wordsB (ws ++ ws2) = wordsB ws ++ wordsB ws2) = true by rw [hwa]; simp)
          clear hwa
          go_wp2_with fail
          refine (EqualS_any _ _ _ _ u7 hv37 hv4' (by rw [List.length_append]; unfold maxLen; omega)).mono ?_
          rintro e u8 ⟨rfl, n8, rfl⟩
          rw [hdec.out]
          go_wp2
          go_ret
          exact ⟨rfl, (HF7.drewN _).none_below⟩
      · obtain ⟨v2, ty, x, rfl, hf3⟩ := hp.isErr hbad
        clear hp hbad
        go_wp2
        go_ret
        exact ⟨rfl, (HF2.trans hf3).none_below⟩
    · obtain ⟨v, ty, x, rfl, hf2⟩ := hp.isErr hbad
      have HF2 := hf1.trans hf2
      clear hp hbad hf1 hf2
      go_wp2_with fail
      refine (List_any a1 u2 (by omega)).mono ?_
      intro e u3 hp
      rcases list_or a1.data.toList with ⟨ws2, hl2, hn2⟩ | hbad
      · obtain ⟨v2, rfl, hv2, hf3⟩ := hp.isOk hl2 hn2
        clear hp hl2
        go_wp2
        go_ret
        exact ⟨rfl, (HF2.trans hf3).none_below⟩
      · obtain ⟨v2, ty, x, rfl, hf3⟩ := hp.isErr hbad
        clear hp hbad
        go_wp2
        go_ret
        exact ⟨rfl, (HF2.trans hf3).none_below⟩
end Go.Proofs.Yteffnckhapmpgaa
