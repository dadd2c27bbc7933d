/- The law CleanTwice: its walk. -/
import Derived.Test.YtghimbpihmehoaaDoorNamed
namespace Go.Proofs.YtghimbpihmehoaaDoor
open Go.RowKit

def CtRel (n : Nat) (W : World) (i : Value) (wr : World) : Prop := ∃ k : Nat, k ≤ n ∧ i = .int .i64 k ∧ Fr noB W wr
set_option maxRecDepth 100000 in
set_option maxHeartbeats 4000000 in
theorem CleanTwice_walk (s : ByteArray) (z0 : s.size ≤ 140737488351232) (w : World) (ht : PwTab w) :
    Calls Tryd.prog 11 #[.string s] w fun e w' => e = .returned (.bool true) ∧ Below w.heap.size w w' := by
  have HN := Lib.hid (named_any w ht)
  clear ht
  go_enter Tryd.func11, Tryd.ntmps11
  go_wp2_with fail
  refine HN.out.mono ?_
  rintro e u ⟨rfl, hf⟩
  have HF := Lib.hid hf
  clear hf HN
  by_cases hlen : 400 < s.size
  · have hlen' : (400 : Int) < (s.size : Int) := by omega
    go_wp2
    go_ret
    exact ⟨rfl, HF.out.none_below⟩
  · have hlen' : ¬ (400 : Int) < (s.size : Int) := by omega
    have hcl := clean_len s.data.toList
    have hsl : s.data.toList.length = s.size := by simp
    have HTW := Lib.hid (clean_twice s.data.toList)
    have HND := Lib.hid (clean_nodots s.data.toList)
    have HHD := Lib.hid (clean_head s.data.toList)
    have HC1 := Lib.hid (Clean_any s u (by omega))
    generalize hc : cleanL s.data.toList = cl at *
    clear hc
    obtain ⟨c, hc⟩ : ∃ c : ByteArray, c = ⟨cl.toArray⟩ := ⟨_, rfl⟩
    have hcd : c.data.toList = cl := by rw [hc]
    have hcz : c.size < 100000 := by have h1 := congrArg List.length hcd; have h2 : c.data.toList.length = c.size := by simp
                                     omega
    rw [← hc] at HC1
    have HC2 := Lib.hid (fun U => (Clean_any c U hcz).mono (R' := fun e w' => e = .returned (.string c) ∧ Fr noB U w') fun e w' h => ⟨by rw [h.1, hcd, HTW.out, hc], h.2⟩)
    have HPRE := Lib.hid (fun U => (Tryd.strings_HasPrefix c ⟨#[47]⟩ U).mono (R' := fun e w' => e = .returned (.bool true) ∧ U = w') fun e w' h => ⟨by rw [h.1, hcd]; show Ending.returned (.bool (Lib.hasPrefix cl [47])) = _; rw [prefix47, HHD.out]; rfl, h.2.symm⟩)
    have HPT := Lib.hid (show ∀ (k : Nat) p, (partsB 47 c)[k]? = some p → ¬ p.toList = [46] ∧ ¬ p.toList = [46, 46] from fun k p hp => by
      have hm := List.mem_of_getElem? hp
      unfold partsB at hm
      rw [hcd] at hm
      obtain ⟨l, hl, rfl⟩ := List.mem_map.1 hm
      have := HND.out l hl
      rw [ByteArray.toList_eq]
      exact this)
    obtain ⟨ps, hps⟩ : ∃ ps, ps = partsB 47 c := ⟨_, rfl⟩
    have hpn : ps.length ≤ 100001 := by rw [hps]; unfold partsB; rw [List.length_map]; have := splitL_count 47 c.data.toList; have h2 : c.data.toList.length = c.size := by simp
                                        omega
    have HSP := Lib.hid (fun U => Split1_any c 47 U (by omega))
    rw [← hps] at HPT HSP
    clear hc hcd hcl hps HTW HND HHD
    go_wp2_with fail
    refine HC1.out.mono ?_
    rintro e u1 ⟨rfl, hf1⟩
    have HF1 := Lib.hid (HF.out.trans hf1)
    clear hf1
    go_wp2_with fail
    refine (HSP.out u1).mono ?_
    rintro e u2 ⟨rfl, hu2⟩
    have hb := new_block u1 (.cells (ps.map Value.string).toArray 9)
    rw [← hu2] at hb
    have HF2 := Lib.hid (show Fr noB w u2 by rw [hu2]; exact HF1.out.alloc _)
    have HCELL := Lib.hid (show ∀ U, Fr noB u2 U → ∀ (k : Nat) p, ps[k]? = some p → U.cell? ⟨u1.heap.size, k, none⟩ = some (.string p) from fun U hU k p hp => by
      have := hU.keep hb (fun h => h)
      simp [World.cell?, this, hp])
    clear hu2 hb
    go_wp2
    go_loopw [16] (CtRel ps.length u2) (fun i _ => ps.length - (intOf i).toNat)
    case atStart => exact ⟨0, Nat.zero_le _, rfl, Fr.refl _ _⟩
    case round =>
      obtain ⟨k, hk, rfl, hfr⟩ := hrel
      by_cases hks : k < ps.length
      · have hki : (k : Int) < (ps.length : Int) := by omega
        obtain ⟨p, hp⟩ : ∃ p, ps[k]? = some p := ⟨_, List.getElem?_eq_getElem hks⟩
        have hcell := HCELL.out wr hfr k p hp
        obtain ⟨n1, n2⟩ := HPT.out k p hp
        have b1 : (p.toList == [46]) = false := beq_eq_false_iff_ne.2 n1
        have b2 : (p.toList == [46, 46]) = false := beq_eq_false_iff_ne.2 n2
        clear hp
        go_wp2
        go_roundw
        case rel => exact ⟨k + 1, by omega, by go_num, hfr⟩
        case measure => simp [intOf]; omega
      · have hki : ¬ (k : Int) < (ps.length : Int) := by omega
        go_wp2_with fail
        refine (HC2.out wr).mono ?_
        rintro e u4 ⟨rfl, hf4⟩
        have HF4 := Lib.hid ((HF2.out.trans hfr).trans hf4)
        clear hf4
        go_wp2_with fail
        refine (HPRE.out u4).mono ?_
        rintro e x ⟨rfl, rfl⟩
        go_wp2
        go_ret
        exact ⟨rfl, HF4.out.none_below⟩
end Go.Proofs.YtghimbpihmehoaaDoor
