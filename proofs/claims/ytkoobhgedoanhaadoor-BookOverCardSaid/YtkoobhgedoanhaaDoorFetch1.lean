/- Package fetch: Simple, Method. -/
import Derived.Test.YtkoobhgedoanhaaDoorTypes
import Derived.Test.YtkoobhgedoanhaaDoorLower
namespace Go.Proofs.YtkoobhgedoanhaaDoor
open Go.RowKit

def methodsB : List ByteArray := [⟨#[68, 69, 76, 69, 84, 69]⟩, ⟨#[71, 69, 84]⟩, ⟨#[72, 69, 65, 68]⟩, ⟨#[79, 80, 84, 73, 79, 78, 83]⟩, ⟨#[80, 79, 83, 84]⟩, ⟨#[80, 85, 84]⟩]
def methodGo : List ByteArray → ByteArray → ByteArray
  | [], s => s
  | m :: l, s => if sameL s.data.toList m.data.toList then m else methodGo l s
/-- fetch.Method -/
def methodB (s : ByteArray) : ByteArray := methodGo methodsB s
/-- fetch.Simple -/
def simpleB (s : ByteArray) : Bool := s.toList == [71, 69, 84] || s.toList == [72, 69, 65, 68] || s.toList == [80, 79, 83, 84]
theorem methodGo_mem : ∀ (l : List ByteArray) (s : ByteArray), (methodGo l s ∈ l ∧ sameL s.data.toList (methodGo l s).data.toList = true) ∨ methodGo l s = s
  | [], s => .inr rfl
  | m :: l, s => by
    unfold methodGo
    by_cases h : sameL s.data.toList m.data.toList = true
    · rw [if_pos h]; exact .inl ⟨List.mem_cons_self .., h⟩
    · rw [if_neg h]
      rcases methodGo_mem l s with ⟨h1, h2⟩ | h1
      · exact .inl ⟨List.mem_cons_of_mem _ h1, h2⟩
      · exact .inr h1
theorem methods_fix : ∀ m ∈ methodsB, methodB m = m := by decide +kernel
theorem method_twice (s : ByteArray) : methodB (methodB s) = methodB s := by
  rcases methodGo_mem methodsB s with ⟨h, _⟩ | h
  · exact methods_fix _ h
  · show methodB (methodGo methodsB s) = _; rw [h]
theorem sameL_refl (a : List UInt8) : sameL a a = true := by unfold sameL; simp
theorem sameL_swap (a b : List UInt8) : sameL a b = sameL b a := by unfold sameL; rw [Bool.eq_iff_iff, beq_iff_eq, beq_iff_eq]; exact eq_comm
theorem method_same (s : ByteArray) : sameL (methodB s).data.toList s.data.toList = true := by
  rcases methodGo_mem methodsB s with ⟨_, h⟩ | h
  · rw [sameL_swap]; exact h
  · show sameL (methodGo methodsB s).data.toList _ = true; rw [h]; exact sameL_refl _
theorem methodGo_like : ∀ (l : List ByteArray) (s t : ByteArray), sameL s.data.toList t.data.toList = true → (methodGo l s = methodGo l t) ∨ (methodGo l s = s)
  | [], s, t, _ => .inr rfl
  | m :: l, s, t, h => by
    have hl : lowL s.data.toList = lowL t.data.toList := by unfold sameL at h; simpa using h
    have e : sameL t.data.toList m.data.toList = sameL s.data.toList m.data.toList := by unfold sameL; rw [hl]
    unfold methodGo
    rw [e]
    by_cases hm : sameL s.data.toList m.data.toList = true
    · rw [if_pos hm, if_pos hm]; exact .inl rfl
    · rw [if_neg hm, if_neg hm]; exact methodGo_like l s t h
theorem method_like {s t : ByteArray} (h : sameL s.data.toList t.data.toList = true) (hn : ¬ methodB s = s) : methodB t = methodB s := by
  rcases methodGo_like methodsB s t h with h1 | h1
  · exact h1.symm
  · exact absurd h1 hn
theorem simple_fix (s : ByteArray) (h : simpleB s = true) : methodB s = s := by
  unfold simpleB at h
  simp only [Bool.or_eq_true, beq_iff_eq] at h
  have hs : ∀ l : List UInt8, s.toList = l → s = ⟨l.toArray⟩ := fun l hl => by
    apply Go.WideShapes.bytes_inj
    rw [ByteArray.toList_eq] at hl
    rw [hl]
  rcases h with (h | h) | h
  · rw [hs _ h]; decide +kernel
  · rw [hs _ h]; decide +kernel
  · rw [hs _ h]; decide +kernel
theorem Simple_any (s : ByteArray) (w : World) :
    Calls Tryd.prog 36 #[.string s] w fun e w' => e = .returned (.bool (simpleB s)) ∧ w = w' := by
  by_cases h1 : s.toList = [71, 69, 84]
  · have hb := Lib.hid (show simpleB s = true by unfold simpleB; rw [h1]; rfl)
    go_enter Tryd.func36, Tryd.ntmps36
    go_wp2
    go_ret
    exact ⟨ret_bool hb.out.symm, rfl⟩
  · by_cases h2 : s.toList = [72, 69, 65, 68]
    · have hb := Lib.hid (show simpleB s = true by unfold simpleB; rw [h2]; rfl)
      go_enter Tryd.func36, Tryd.ntmps36
      go_wp2
      go_ret
      exact ⟨ret_bool hb.out.symm, rfl⟩
    · have hb := Lib.hid (show simpleB s = (s.toList == [71, 69, 84] || s.toList == [72, 69, 65, 68] || s.toList == [80, 79, 83, 84]) from rfl)
      go_enter Tryd.func36, Tryd.ntmps36
      go_wp2
      go_ret
      exact ⟨ret_bool hb.out.symm, rfl⟩
def MeRel (s : ByteArray) (w : World) (i : Value) (wr : World) : Prop := ∃ k : Nat, k ≤ 6 ∧ i = .int .i64 k ∧ methodB s = methodGo (methodsB.drop k) s ∧ Fr noB w wr
set_option maxRecDepth 100000 in
set_option maxHeartbeats 2000000 in
theorem Method_any (s : ByteArray) (w : World) (hs : s.size < 100000) :
    Calls Tryd.prog 35 #[.string s] w fun e w' => e = .returned (.string (methodB s)) ∧ Fr noB w w' := by
  have HC := Lib.hid (show ∀ U, Fr noB (w.alloc (.cells (methodsB.map Value.string).toArray 9)) U → ∀ (k : Nat) x, methodsB[k]? = some x → U.cell? ⟨w.heap.size, k, none⟩ = some (.string x) from fun U hU k x hx => by
    have h := hU.keep (new_block w (.cells (methodsB.map Value.string).toArray 9)) (fun h => h)
    have e : (methodsB.map Value.string)[k]? = some (.string x) := by rw [List.getElem?_map, hx]; rfl
    simp only [World.cell?, h]
    simpa using e)
  have hfb : Fr noB w (w.alloc (.cells (methodsB.map Value.string).toArray 9)) := (Fr.refl noB w).alloc _
  have HFB := Lib.hid hfb
  obtain ⟨wb, hwb⟩ : ∃ wb, wb = w.alloc (.cells (methodsB.map Value.string).toArray 9) := ⟨_, rfl⟩
  rw [← hwb] at HC HFB
  have HWB := Lib.hid (show wb = w.alloc (.cells #[.string ⟨#[68, 69, 76, 69, 84, 69]⟩, .string ⟨#[71, 69, 84]⟩, .string ⟨#[72, 69, 65, 68]⟩, .string ⟨#[79, 80, 84, 73, 79, 78, 83]⟩, .string ⟨#[80, 79, 83, 84]⟩, .string ⟨#[80, 85, 84]⟩] 9) from hwb)
  clear hwb hfb
  go_enter Tryd.func35, Tryd.ntmps35
  go_wp2
  rw [← HWB.out]
  go_loopw [7] (MeRel s wb) (fun i _ => 6 - (intOf i).toNat)
  case atStart => exact ⟨0, by omega, rfl, rfl, Fr.refl _ _⟩
  case round =>
    obtain ⟨k, hk, rfl, hm, hfr⟩ := hrel
    by_cases hk6 : k < 6
    · have hki : (k : Int) < 6 := by omega
      obtain ⟨m, hmk⟩ : ∃ m, methodsB[k]? = some m := ⟨_, List.getElem?_eq_getElem (by show k < 6; exact hk6)⟩
      have hcell := HC.out wr hfr k m hmk
      have hmz : m.size ≤ 10 := (show ∀ x ∈ methodsB, x.size ≤ 10 by decide) m (List.mem_of_getElem? hmk)
      have HD := Lib.hid (show methodB s = if sameL s.data.toList m.data.toList then m else methodGo (methodsB.drop (k + 1)) s by
        rw [hm, List.drop_eq_getElem_cons (show k < methodsB.length from hk6)]
        have e : methodsB[k]'(show k < methodsB.length from hk6) = m := by rw [List.getElem?_eq_getElem (show k < methodsB.length from hk6)] at hmk; exact Option.some.inj hmk
        rw [e]; rfl)
      clear hm hmk
      have HSA := Lib.hid (Same_any s m wr (by omega) (by omega))
      go_wp2_with fail
      refine HSA.out.mono ?_
      rintro e w5 ⟨rfl, hf5⟩
      clear HSA
      cases hsm : sameL s.data.toList m.data.toList
      · have HD2 := Lib.hid (show methodB s = methodGo (methodsB.drop (k + 1)) s by rw [HD.out, hsm]; rfl)
        clear hsm
        go_wp2
        go_roundw
        case rel => exact ⟨k + 1, by omega, by go_num, HD2.out, hfr.trans hf5⟩
        case measure => simp [intOf]; omega
      · have HD2 := Lib.hid (show methodB s = m by rw [HD.out, hsm]; rfl)
        clear hsm
        go_wp2
        go_ret
        exact ⟨by rw [HD2.out]; rfl, HFB.out.trans (hfr.trans hf5)⟩
    · have hki : ¬ (k : Int) < 6 := by omega
      have HD2 := Lib.hid (show methodB s = s by rw [hm, List.drop_eq_nil_of_le (by show 6 ≤ k; omega)]; rfl)
      clear hm
      go_wp2
      go_ret
      exact ⟨by rw [HD2.out]; rfl, HFB.out.trans hfr⟩
end Go.Proofs.YtkoobhgedoanhaaDoor
