/- The law BasicBack: its walk. -/
import Derived.Test.YtghimbpihmehoaaDoorProved
import Derived.Test.YtghimbpihmehoaaDoorCut1
namespace Go.Proofs.YtghimbpihmehoaaDoor
open Go.RowKit

theorem trim_basic (user pass : ByteArray) : Lib.trimPrefix (basicB user pass).data.toList [66, 97, 115, 105, 99, 32] = b64L (user.data.toList ++ [58] ++ pass.data.toList) := by
  unfold basicB Lib.trimPrefix Lib.hasPrefix
  simp [List.isPrefixOf]
set_option maxRecDepth 100000 in
set_option maxHeartbeats 4000000 in
theorem BasicBack_walk (user pass : ByteArray) (w : World) (st : user.size ≤ reachBytes ∧ pass.size ≤ reachBytes) (ht : MdTabs w) (hdb : TabAt w 11 .u8 dbL) :
    Calls Tryd.prog 8 #[.agg #[.string user, .string pass]] w fun e w' => e = .returned (.bool true) ∧ Below w.heap.size w w' := by
  have z0 : user.size ≤ 140737488351232 := st.1
  have z1 : pass.size ≤ 140737488351232 := st.2
  have hfb : Fr noB w (w.alloc (.cells #[.string user, .string pass] 40)) := (Fr.refl noB w).alloc _
  have hblk := new_block w (.cells #[.string user, .string pass] 40)
  have HPR := Lib.hid (proved_any _ (ht.fr hfb) (hdb.fr hfb))
  have HFB := Lib.hid hfb
  have HC := Lib.hid (show ∀ U, Fr noB (w.alloc (.cells #[.string user, .string pass] 40)) U → U.cell? ⟨w.heap.size, 0, none⟩ = some (.string user) ∧ U.cell? ⟨w.heap.size, 1, none⟩ = some (.string pass) from fun U hU => by
    have hk2 := hU.keep hblk (fun h => h)
    simp [World.cell?, hk2])
  clear ht hdb st hfb hblk
  go_enter Tryd.func8, Tryd.ntmps8
  go_wp2_with fail
  refine HPR.out.mono ?_
  rintro e u1 ⟨rfl, hf1⟩
  go_wp2_with fail
  refine (coded_any u1).mono ?_
  rintro e u2 ⟨rfl, hf2⟩
  have HF2 := Lib.hid (hf1.trans hf2)
  obtain ⟨c0, c1⟩ := HC.out u2 HF2.out
  clear hf1 hf2 HPR
  by_cases hlen : 300 < user.size + pass.size
  · have hlen' : (300 : Int) < (user.size : Int) + (pass.size : Int) := by omega
    go_wp2
    go_ret
    exact ⟨rfl, (HFB.out.trans HF2.out).none_below⟩
  · have hlen' : ¬ (300 : Int) < (user.size : Int) + (pass.size : Int) := by omega
    go_wp2_with fail
    refine (Basic_any user pass u2 (by omega) (by omega)).mono ?_
    rintro e u3 ⟨hp, hf3⟩
    have HF3 := Lib.hid (HF2.out.trans hf3)
    clear hf3 c0 c1
    by_cases hc : 0 ≤ Lib.indexByte user.data.toList 58
    · unfold BasicPost at hp
      rw [if_pos hc] at hp
      subst hp
      go_wp2
      go_ret
      exact ⟨rfl, (HFB.out.trans HF3.out).none_below⟩
    · by_cases hfi : (fineB user && fineB pass) = true
      · unfold BasicPost at hp
        rw [if_neg hc, if_pos hfi] at hp
        subst hp
        clear hfi
        have HTR := Lib.hid (trim_basic user pass)
        have HUN := Lib.hid (unb_b64 (user.data.toList ++ [58] ++ pass.data.toList))
        have HUL := Lib.hid (b64_len (user.data.toList ++ [58] ++ pass.data.toList))
        have HIX := Lib.hid (show Lib.indexByte (user.data.toList ++ [58] ++ pass.data.toList) 58 = (user.size : Int) by
          rw [List.append_assoc]
          rw [show ([58] ++ pass.data.toList : List UInt8) = 58 :: pass.data.toList from rfl, idx_first _ _ _ ((idx_neg _ _).1 hc)]; rfl)
        have HTL := Lib.hid (show (user.data.toList ++ [58] ++ pass.data.toList).length = user.size + 1 + pass.size by simp; omega)
        have HE1 := Lib.hid (show (⟨(user.data.toList ++ [58] ++ pass.data.toList).toArray⟩ : ByteArray).extract 0 user.size = user from by
          apply Go.WideShapes.bytes_inj
          rw [Lib.extract_data]
          simp)
        have HE2 := Lib.hid (show (⟨(user.data.toList ++ [58] ++ pass.data.toList).toArray⟩ : ByteArray).extract (user.size + 1) (user.size + 1 + pass.size) = pass from by
          apply Go.WideShapes.bytes_inj
          rw [Lib.extract_data]
          show List.take _ (List.drop (user.size + 1) (user.data.toList ++ [58] ++ pass.data.toList)) = _
          rw [List.drop_left' (by simp), List.take_of_length_le (by simp)])
        clear hc
        generalize basicB user pass = bs at *
        generalize user.data.toList ++ [58] ++ pass.data.toList = tl at *
        go_wp2_with fail
        refine (Tryd.strings_TrimPrefix bs ⟨#[66, 97, 115, 105, 99, 32]⟩ u3).mono ?_
        rintro e u4 ⟨rfl, rfl⟩
        rw [show (⟨#[66, 97, 115, 105, 99, 32]⟩ : ByteArray).data.toList = [66, 97, 115, 105, 99, 32] from rfl, HTR.out]
        have hul : (⟨(b64L tl).toArray⟩ : ByteArray).size < 4398046511104 := by
          show (b64L tl).toArray.size < _
          have h1 := HUL.out; have h2 := HTL.out
          simp; omega
        go_wp2_with fail
        refine (Unbase64_any ⟨(b64L tl).toArray⟩ u4 hul).mono ?_
        intro e u5 hp5
        obtain ⟨rfl, hf5⟩ := hp5.ok (show unb64 (b64L tl) = some tl from HUN.out)
        clear hp5 hul
        have HF5 := Lib.hid (HF3.out.trans hf5)
        clear hf5
        have hts : (⟨tl.toArray⟩ : ByteArray).size = user.size + 1 + pass.size := by show tl.toArray.size = _; simp [HTL.out]
        go_wp2_with fail
        refine (cut1_hit ⟨tl.toArray⟩ 58 user.size u5 (by omega) (by simpa using HIX.out) (by omega)).mono ?_
        rintro e u6 ⟨rfl, n, rfl⟩
        rw [hts, HE1.out, HE2.out]
        obtain ⟨c0, c1⟩ := HC.out u5 HF5.out
        go_wp2
        go_ret
        exact ⟨rfl, (HFB.out.trans (HF5.out.drewN n)).none_below⟩
      · unfold BasicPost at hp
        rw [if_neg hc, if_neg hfi] at hp
        subst hp
        clear hfi hc
        go_wp2
        go_ret
        exact ⟨rfl, (HFB.out.trans HF3.out).none_below⟩
end Go.Proofs.YtghimbpihmehoaaDoor
