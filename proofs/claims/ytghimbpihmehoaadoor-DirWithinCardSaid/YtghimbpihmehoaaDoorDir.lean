/- url.Dir, url.Within; the law DirWithin. -/
import Derived.Test.YtghimbpihmehoaaDoorNamed
import Derived.Lib.LastIndexByte
namespace Go.Proofs.YtghimbpihmehoaaDoor
open Go.RowKit

/-- url.Dir -/
def dirB (p : ByteArray) : ByteArray := p.extract 0 (Lib.lastIndexByte p 47 + 1).toNat
theorem lastIndexByte_bounds (s : ByteArray) (c : Int) : -1 ≤ Lib.lastIndexByte s c ∧ Lib.lastIndexByte s c + 1 ≤ s.size := by
  rcases Lib.lastIndexByte_spec s c with ⟨e, _⟩ | ⟨i, hi, e, _⟩
  · rw [e]; omega
  · rw [e]; omega
theorem Dir_any (p : ByteArray) (w : World) (hs : p.size < 4611686018427387904) : Calls Tryd.prog 50 #[.string p] w fun e w' => e = .returned (.string (dirB p)) ∧ w = w' := by
  have hbd := lastIndexByte_bounds p 47
  have hd := Lib.hid (show dirB p = p.extract 0 (Lib.lastIndexByte p 47 + 1).toNat from rfl)
  go_enter Tryd.func50, Tryd.ntmps50
  go_wp2_with fail
  refine (Tryd.strings_LastIndexByte p 47 hs w).mono ?_
  rintro e w1 ⟨rfl, rfl⟩
  generalize Lib.lastIndexByte p 47 = k at *
  have h1 : (0 : Int) ≤ k + 1 := by omega
  have h2 : k + 1 ≤ (p.size : Int) := by omega
  go_wp2
  go_ret
  exact ⟨by rw [hd.out]; rfl, rfl⟩
/-- url.Within -/
def within (path p : ByteArray) : Bool := Lib.hasPrefix path.data.toList p.data.toList
theorem Within_any (path p : ByteArray) (w : World) :
    Calls Tryd.prog 51 #[.string path, .string p] w fun e w' => e = .returned (.bool (within path p)) ∧ w = w' := by
  go_enter Tryd.func51, Tryd.ntmps51
  go_wp2_with fail
  refine (Tryd.strings_HasPrefix path p w).mono ?_
  rintro e w' ⟨rfl, rfl⟩
  go_wp2
  go_ret
  exact ⟨rfl, rfl⟩
theorem within_iff (s p : ByteArray) : within s p = true ↔ p.data.toList <+: s.data.toList := by
  unfold within Lib.hasPrefix; exact List.isPrefixOf_iff_prefix
theorem within_dir (s : ByteArray) : within s (dirB s) = true := by
  rw [within_iff]
  unfold dirB
  rw [Lib.extract_data]
  simp only [List.drop_zero]
  exact List.take_prefix _ _
theorem within_trans {s p q : ByteArray} (h : within s p = true) (g : within p q = true) : within s q = true := by
  rw [within_iff] at *
  exact g.trans h
theorem within_both {s p : ByteArray} (h : within s p = true) (g : within p s = true) : s = p := by
  rw [within_iff] at *
  apply Go.WideShapes.bytes_inj
  exact g.eq_of_length_le (h.length_le)
theorem dir_dir (s : ByteArray) : dirB (dirB s) = dirB s := by
  rcases Lib.lastIndexByte_spec s 47 with ⟨e, _⟩ | ⟨i, hi, e, hc, hn⟩
  · have h0 : dirB s = s.extract 0 0 := by unfold dirB; rw [e]; rfl
    have hz : (dirB s).size = 0 := by rw [h0, ByteArray.size_extract]; omega
    rcases Lib.lastIndexByte_spec (dirB s) 47 with ⟨e2, _⟩ | ⟨j, hj, _⟩
    · apply Go.WideShapes.bytes_inj
      show ((dirB s).extract 0 (Lib.lastIndexByte (dirB s) 47 + 1).toNat).data.toList = (dirB s).data.toList
      rw [Lib.extract_data, e2]
      have : (dirB s).data.toList = [] := byteArray_nil.2 hz
      rw [this]; rfl
    · omega
  · have h0 : dirB s = s.extract 0 (i + 1) := by unfold dirB; rw [e]; rfl
    have hz : (dirB s).size = i + 1 := by rw [h0, ByteArray.size_extract]; omega
    have hsz : s.data.size = s.size := rfl
    have hat : ∀ j, j ≤ i → (dirB s).data[j]! = s.data[j]! := fun j hj => by
      rw [h0, ByteArray.data_extract, getElem!_pos (s.data.extract 0 (i + 1)) j (by simp; omega), getElem!_pos s.data j (by omega)]
      simp
    have he : Lib.lastIndexByte (dirB s) 47 = (i : Int) := by
      rcases Lib.lastIndexByte_spec (dirB s) 47 with ⟨_, h⟩ | ⟨j, hj, e2, _, h⟩
      · exact absurd (by rw [hat i (Nat.le_refl _)]; exact hc) (h i (by omega))
      · have : j = i := by
          rcases Nat.lt_or_ge j i with g | g
          · exact absurd (by rw [hat i (Nat.le_refl _)]; exact hc) (h i g (by omega))
          · omega
        rw [e2, this]
    apply Go.WideShapes.bytes_inj
    show ((dirB s).extract 0 (Lib.lastIndexByte (dirB s) 47 + 1).toNat).data.toList = (dirB s).data.toList
    rw [Lib.extract_data, he]
    have : (dirB s).data.toList.length = i + 1 := by simpa using hz
    rw [List.drop_zero, List.take_of_length_le (by omega)]
theorem dirB_size (s : ByteArray) : (dirB s).size ≤ s.size := by unfold dirB; rw [ByteArray.size_extract]; omega
set_option maxRecDepth 100000 in
set_option maxHeartbeats 4000000 in
theorem DirWithin_walk (s p q : ByteArray) (z0 : s.size ≤ 140737488351232) (z1 : p.size ≤ 140737488351232) (z2 : q.size ≤ 140737488351232) (w : World) (ht : PwTab w) :
    Calls Tryd.prog 14 #[.string s, .string p, .string q] w fun e w' => e = .returned (.bool true) ∧ Below w.heap.size w w' := by
  have HN := Lib.hid (named_any w ht)
  clear ht
  go_enter Tryd.func14, Tryd.ntmps14
  go_wp2_with fail
  refine HN.out.mono ?_
  rintro e u ⟨rfl, hf⟩
  have HF := Lib.hid hf.none_below
  clear hf HN
  by_cases hlen : 400 < s.size + p.size + q.size
  · have hlen' : (400 : Int) < (s.size : Int) + (p.size : Int) + (q.size : Int) := by omega
    go_wp2
    go_ret
    exact ⟨rfl, HF.out⟩
  · have hlen' : ¬ (400 : Int) < (s.size : Int) + (p.size : Int) + (q.size : Int) := by omega
    have hw1 := Lib.hid (within_dir s)
    have hw2 := Lib.hid (dir_dir s)
    have hw3 := Lib.hid (@within_trans s p q)
    have hw4 := Lib.hid (@within_both s p)
    have hdz := dirB_size s
    generalize hd : dirB s = d at *
    have HD := Lib.hid hd
    clear hd
    go_wp2_with fail
    refine (Dir_any s u (by omega)).mono ?_
    rw [HD.out]
    rintro e x ⟨rfl, rfl⟩
    go_wp2_with fail
    refine (Within_any s d u).mono ?_
    rw [hw1.out]
    rintro e x ⟨rfl, rfl⟩
    go_wp2_with fail
    refine (Dir_any d u (by omega)).mono ?_
    rw [hw2.out]
    rintro e x ⟨rfl, rfl⟩
    cases h1 : within s p
    · have H1 := Lib.hid h1
      clear h1
      go_wp2_with fail
      refine (Within_any s p u).mono ?_
      rw [H1.out]
      rintro e x ⟨rfl, rfl⟩
      go_wp2_with fail
      refine (Within_any s p u).mono ?_
      rw [H1.out]
      rintro e x ⟨rfl, rfl⟩
      go_wp2
      go_ret
      exact ⟨rfl, HF.out⟩
    · have H1 := Lib.hid h1
      clear h1
      have H4 := Lib.hid (fun g => hw4.out H1.out g)
      have H3 := Lib.hid (fun g => hw3.out H1.out g)
      go_wp2_with fail
      refine (Within_any s p u).mono ?_
      rw [H1.out]
      rintro e x ⟨rfl, rfl⟩
      cases h2 : within p q
      all_goals
        have H2 := Lib.hid h2
        clear h2
        go_wp2_with fail
        refine (Within_any p q u).mono ?_
        rw [H2.out]
        rintro e x ⟨rfl, rfl⟩
        go_wp2_with fail
      · refine (Within_any s p u).mono ?_
        rw [H1.out]
        rintro e x ⟨rfl, rfl⟩
        cases h5 : within p s
        · have H5 := Lib.hid h5
          clear h5
          go_wp2_with fail
          refine (Within_any p s u).mono ?_
          rw [H5.out]
          rintro e x ⟨rfl, rfl⟩
          go_wp2
          go_ret
          exact ⟨rfl, HF.out⟩
        · have H5 := Lib.hid h5
          have E5 := Lib.hid (H4.out h5)
          clear h5
          go_wp2_with fail
          refine (Within_any p s u).mono ?_
          rw [H5.out]
          rintro e x ⟨rfl, rfl⟩
          clear hw2 hw1 H5 H4 H3 H1 H2 HD hw3 hw4
          have e5 := E5.out
          clear E5
          subst e5
          go_wp2
          go_ret
          exact ⟨rfl, HF.out⟩
      · have h3 := H3.out H2.out
        have H3' := Lib.hid h3
        clear h3
        refine (Within_any s q u).mono ?_
        rw [H3'.out]
        rintro e x ⟨rfl, rfl⟩
        go_wp2_with fail
        refine (Within_any s p u).mono ?_
        rw [H1.out]
        rintro e x ⟨rfl, rfl⟩
        cases h5 : within p s
        · have H5 := Lib.hid h5
          clear h5
          go_wp2_with fail
          refine (Within_any p s u).mono ?_
          rw [H5.out]
          rintro e x ⟨rfl, rfl⟩
          go_wp2
          go_ret
          exact ⟨rfl, HF.out⟩
        · have H5 := Lib.hid h5
          have E5 := Lib.hid (H4.out h5)
          clear h5
          go_wp2_with fail
          refine (Within_any p s u).mono ?_
          rw [H5.out]
          rintro e x ⟨rfl, rfl⟩
          clear hw2 hw1 H5 H4 H3 H1 H2 HD hw3 hw4 H3'
          have e5 := E5.out
          clear E5
          subst e5
          go_wp2
          go_ret
          exact ⟨rfl, HF.out⟩
end Go.Proofs.YtghimbpihmehoaaDoor
