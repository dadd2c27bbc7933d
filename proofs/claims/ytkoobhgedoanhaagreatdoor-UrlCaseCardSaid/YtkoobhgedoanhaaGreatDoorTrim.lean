/- strings.Trim by a set of ASCII bytes: what is left; nothing is left just where all bytes are of the set. -/
import Derived.Test.YtkoobhgedoanhaaGreatDoorShelf
import Derived.Test.YtkoobhgedoanhaaGreatDoorBytes
import Derived.Lib.SlTrimSet
import Derived.Shelf.Strings.SlTrimAscii
namespace Go.Proofs.YtkoobhgedoanhaaGreatDoor
open Go.RowKit

theorem dropWhile_nil {α : Type} {p : α → Bool} : ∀ {l : List α}, l.dropWhile p = [] ↔ l.all p = true
  | [] => by simp
  | a :: l => by
    rw [List.dropWhile_cons, List.all_cons]
    cases h : p a
    · simp
    · simp only [if_true, Bool.true_and]; exact dropWhile_nil
theorem trimS_nil (l cs : List UInt8) : Lib.trimS l cs = [] ↔ l.all (cs.contains ·) = true := by
  unfold Lib.trimS Lib.trimLeftS Lib.trimRightS
  rw [dropWhile_nil]
  constructor
  · intro h
    have h2 : l.reverse.dropWhile (cs.contains ·) = [] := by
      cases hq : l.reverse.dropWhile (cs.contains ·) with
      | nil => rfl
      | cons a r =>
        exfalso
        have hh := List.head?_dropWhile_not (p := (cs.contains ·)) l.reverse
        rw [hq] at h hh
        simp only [List.head?_cons, List.reverse_cons, List.all_append, List.all_cons, List.all_nil, Bool.and_true, Bool.and_eq_true] at h hh
        rw [h.2] at hh
        simp at hh
    rw [dropWhile_nil] at h2
    simpa using h2
  · intro h
    rw [List.all_eq_true] at h ⊢
    intro x hx
    refine h x ?_
    have h1 := (List.dropWhile_sublist (cs.contains ·) (l := l.reverse)).subset (List.mem_reverse.1 hx)
    exact List.mem_reverse.1 h1
theorem byteArray_nil {s : ByteArray} : s.data.toList = [] ↔ s.size = 0 := by
  constructor
  · intro h; have : s.data.toList.length = 0 := by rw [h]; rfl
    simpa using this
  · intro h; apply List.eq_nil_of_length_eq_zero; simpa using h
/-- strings.Trim by a set -/
theorem TrimSet_any (s cs : ByteArray) (w : World) (hs : s.size ≤ 9223372036854775807) (h2 : 2 ≤ cs.size) (hcs : cs.size < 4294967281) (hascii : ∀ b ∈ cs.data.toList, b.toNat < 128) :
    Calls Tryz.prog 103 #[.string s, .string cs] w fun e w' => e = .returned (.string ⟨(Lib.trimS s.data.toList cs.data.toList).toArray⟩) ∧ Fr noB w w' := by
  by_cases h0 : s.size = 0
  · refine (Any.strings_Trim_empty Tryz.lays160 s cs w (Or.inl h0)).mono fun e w' ⟨he, hw⟩ => ⟨?_, hw ▸ Fr.refl _ _⟩
    have e0 := byteArray_nil.2 h0
    rw [he, e0]
    congr 2
    rw [show Lib.trimS [] cs.data.toList = [] from rfl]
    cases s with
    | mk d => simp at e0; rw [e0]
  · refine (Any.strings_Trim_set Tryz.lays160 (fun w => by kernel_rfl) (by kernel_rfl) s cs w h2 (by omega) hs hcs (fun j b hj => hascii b (List.mem_of_getElem? hj))).mono fun e w' ⟨he, q, hw⟩ => ⟨he, ?_⟩
    rw [hw]
    exact (((Fr.refl noB w).alloc _).alloc _).drewN q
end Go.Proofs.YtkoobhgedoanhaaGreatDoor
