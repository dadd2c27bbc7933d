/- The law MethodTwice: its walk, over fetched's contract. -/
import Derived.Test.YtghimbpihmehoaaDoorFetch1
import Derived.Test.YtghimbpihmehoaaDoorWorded
namespace Go.Proofs.YtghimbpihmehoaaDoor
open Go.RowKit

def FetchedOk : Prop := ∀ w : World, Calls Tryd.prog 28 #[] w fun e w' => e = .returned (.bool true) ∧ Fr noB w w'
theorem methodB_size (s : ByteArray) (h : s.size < 50000) : (methodB s).size < 50000 := by
  rcases methodGo_mem methodsB s with ⟨h1, _⟩ | h1
  · have := (show ∀ x ∈ methodsB, x.size < 50000 by decide) _ h1
    exact this
  · show (methodGo methodsB s).size < 50000; rw [h1]; exact h
set_option maxRecDepth 100000 in
set_option maxHeartbeats 4000000 in
theorem MethodTwice_core (HF : FetchedOk) (s t : ByteArray) (z0 : s.size ≤ 140737488351232) (z1 : t.size ≤ 140737488351232) (w : World) :
    Calls Tryd.prog 7 #[.string s, .string t] w fun e w' => e = .returned (.bool true) ∧ Below w.heap.size w w' := by
  have HF0 := Lib.hid HF
  clear HF
  go_enter Tryd.func7, Tryd.ntmps7
  go_wp2_with fail
  refine (HF0.out w).mono ?_
  rintro e u1 ⟨rfl, hf1⟩
  go_wp2_with fail
  refine (worded_any u1).mono ?_
  rintro e u2 ⟨rfl, hf2⟩
  have HF2 := Lib.hid (hf1.trans hf2)
  clear hf1 hf2
  by_cases hlen : 200 < s.size + t.size
  · have hlen' : (200 : Int) < (s.size : Int) + (t.size : Int) := by omega
    go_wp2
    go_ret
    exact ⟨rfl, HF2.out.none_below⟩
  · have hlen' : ¬ (200 : Int) < (s.size : Int) + (t.size : Int) := by omega
    have hs : s.size < 50000 := by omega
    have ht : t.size < 50000 := by omega
    obtain ⟨m, hm⟩ : ∃ m, m = methodB s := ⟨_, rfl⟩
    have hmz : m.size < 50000 := by rw [hm]; exact methodB_size s hs
    have HMM := Lib.hid (show methodB m = m by rw [hm]; exact method_twice s)
    have HMS := Lib.hid (show sameL m.data.toList s.data.toList = true by rw [hm]; exact method_same s)
    have HML := Lib.hid (show sameL s.data.toList t.data.toList = true → ¬ m = s → methodB t = m from fun h1 h2 => by rw [hm] at h2 ⊢; exact method_like h1 h2)
    have HSF := Lib.hid (show simpleB s = true → m = s from fun h => by rw [hm]; exact simple_fix s h)
    have HM := Lib.hid hm.symm
    clear hm
    go_wp2_with fail
    refine (Method_any s u2 (by omega)).mono ?_
    rw [HM.out]
    rintro e u3 ⟨rfl, hf3⟩
    have HF3 := Lib.hid (HF2.out.trans hf3)
    clear hf3
    go_wp2_with fail
    refine (Method_any m u3 (by omega)).mono ?_
    rw [HMM.out]
    rintro e u4 ⟨rfl, hf4⟩
    have HF4 := Lib.hid (HF3.out.trans hf4)
    clear hf4
    go_wp2_with fail
    refine (Same_any m s u4 (by omega) (by omega)).mono ?_
    rw [HMS.out]
    rintro e u5 ⟨rfl, hf5⟩
    have HF5 := Lib.hid (HF4.out.trans hf5)
    clear hf5
    by_cases hms : m = s
    · subst hms
      go_wp2_with fail
      refine (Simple_any m u5).mono ?_
      rintro e u6 ⟨rfl, rfl⟩
      cases simpleB m
      · go_wp2
        go_ret
        exact ⟨rfl, HF5.out.none_below⟩
      · go_wp2
        go_ret
        exact ⟨rfl, HF5.out.none_below⟩
    · have hms2 : ¬ m.toList = s.toList := fun h => hms (by rw [ByteArray.toList_eq, ByteArray.toList_eq] at h; exact Go.WideShapes.bytes_inj h)
      have hms3 : (m.toList == s.toList) = false := beq_eq_false_iff_ne.2 hms2
      have HNS := Lib.hid (show simpleB s = false by cases h : simpleB s with | false => rfl | true => exact absurd (HSF.out h) hms)
      have HMS2 := Lib.hid hms
      clear hms
      go_wp2_with fail
      refine (Same_any s t u5 (by omega) (by omega)).mono ?_
      rintro e u6 ⟨rfl, hf6⟩
      have HF6 := Lib.hid (HF5.out.trans hf6)
      clear hf6
      cases hst : sameL s.data.toList t.data.toList
      · clear hst
        go_wp2_with fail
        refine (Simple_any s u6).mono ?_
        rw [HNS.out]
        rintro e u7 ⟨rfl, rfl⟩
        go_wp2
        go_ret
        exact ⟨rfl, HF6.out.none_below⟩
      · have HMT := Lib.hid (HML.out hst HMS2.out)
        clear hst
        go_wp2_with fail
        refine (Method_any t u6 (by omega)).mono ?_
        rw [HMT.out]
        rintro e u7 ⟨rfl, hf7⟩
        have HF7 := Lib.hid (HF6.out.trans hf7)
        clear hf7
        go_wp2_with fail
        refine (Simple_any s u7).mono ?_
        rw [HNS.out]
        rintro e u8 ⟨rfl, rfl⟩
        go_wp2
        go_ret
        exact ⟨rfl, HF7.out.none_below⟩
end Go.Proofs.YtghimbpihmehoaaDoor
