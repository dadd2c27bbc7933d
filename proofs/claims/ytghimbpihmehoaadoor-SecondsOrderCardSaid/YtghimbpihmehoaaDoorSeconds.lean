/- token.Seconds; the law SecondsOrder. -/
import Derived.Test.YtghimbpihmehoaaDoorWorded
import Derived.Test.YtghimbpihmehoaaDoorTrim
import Derived.Test.YtghimbpihmehoaaDoorPick
namespace Go.Proofs.YtghimbpihmehoaaDoor
open Go.RowKit

def digC (c : UInt8) : Bool := decide (48 ≤ c.toNat ∧ c.toNat ≤ 57)
theorem digC_iff {c : UInt8} : digC c = true ↔ 48 ≤ c.toNat ∧ c.toNat ≤ 57 := by unfold digC; simp
def digs : ByteArray := ⟨#[48, 49, 50, 51, 52, 53, 54, 55, 56, 57]⟩
theorem digs_ascii : ∀ b ∈ digs.data.toList, b.toNat < 128 := by decide +kernel
theorem digs_has : ∀ n : Fin 256, digs.data.toList.contains n.val.toUInt8 = digC n.val.toUInt8 := by decide +kernel
theorem digs_has' (c : UInt8) : digs.data.toList.contains c = digC c := by
  have h := digs_has ⟨c.toNat, c.toNat_lt⟩
  simpa using h
theorem digs_all (l : List UInt8) : l.all (digs.data.toList.contains ·) = l.all digC := by
  congr 1; funext c; exact digs_has' c
def secStep (n : Int) (c : UInt8) : Int := min (n * 10 + ((c.toNat : Int) - 48)) 2147483648
def secL (l : List UInt8) : Int := l.foldl secStep 0
def digitsB (l : List UInt8) : Bool := !l.isEmpty && l.all digC
theorem secL_snoc {l : List UInt8} {k : Nat} {x : UInt8} (h : l[k]? = some x) : secL (l.take (k + 1)) = secStep (secL (l.take k)) x := by
  rw [List.take_add_one, h]; simp [secL]
theorem secL_range : ∀ (l : List UInt8) (n : Int), l.all digC = true → 0 ≤ n → n ≤ 2147483648 → 0 ≤ l.foldl secStep n ∧ l.foldl secStep n ≤ 2147483648
  | [], n, _, h0, h1 => ⟨h0, h1⟩
  | c :: l, n, h, h0, h1 => by
    rw [List.all_cons, Bool.and_eq_true] at h
    have hc := digC_iff.1 h.1
    rw [List.foldl_cons]
    refine secL_range l _ h.2 ?_ ?_ <;> (unfold secStep; omega)
def SecPost (s : ByteArray) (w : World) (e : Ending) (w' : World) : Prop :=
  e = .returned (.tuple (if digitsB s.data.toList then #[.int .i64 (secL s.data.toList), .nilIface] else #[.int .i64 0, .iface 78 (.int .i64 3)])) ∧ Fr noB w w'
theorem SecPost.ok {s : ByteArray} {w w' : World} {e : Ending} (h : SecPost s w e w') (hd : digitsB s.data.toList = true) : e = .returned (.tuple #[.int .i64 (secL s.data.toList), .nilIface]) ∧ Fr noB w w' := by
  obtain ⟨he, hf⟩ := h; rw [hd] at he; exact ⟨he, hf⟩
theorem SecPost.no {s : ByteArray} {w w' : World} {e : Ending} (h : SecPost s w e w') (hd : digitsB s.data.toList = false) : e = .returned (.tuple #[.int .i64 0, .iface 78 (.int .i64 3)]) ∧ Fr noB w w' := by
  obtain ⟨he, hf⟩ := h; rw [hd] at he; exact ⟨he, hf⟩
def SecRel (s : ByteArray) (w : World) (n i : Value) (wr : World) : Prop := ∃ k : Nat, k ≤ s.size ∧ i = .int .i64 k ∧ n = .int .i64 (secL (s.data.toList.take k)) ∧ Fr noB w wr
set_option maxHeartbeats 1000000 in
theorem Seconds_any (s : ByteArray) (w : World) (hs : s.size < 17592186044416) :
    Calls Tryd.prog 16 #[.string s] w (SecPost s w) := by
  by_cases h0 : s.size = 0
  · have hnil := byteArray_nil.2 h0
    have hd := Lib.hid (show digitsB s.data.toList = false by rw [hnil]; rfl)
    have he : s.toList.isEmpty = true := by rw [ByteArray.toList_eq, hnil]; rfl
    have he' : s.toList = [] := by rw [ByteArray.toList_eq, hnil]
    clear hnil
    go_enter Tryd.func16, Tryd.ntmps16
    go_wp2
    go_ret2
    unfold SecPost
    rw [hd.out]
    exact ⟨rfl, Fr.refl _ _⟩
  · have hne : s.data.toList ≠ [] := fun h => h0 (byteArray_nil.1 h)
    have he : s.toList.isEmpty = false := by rw [ByteArray.toList_eq]; simpa using hne
    have he' : ¬ s.toList = [] := by rw [ByteArray.toList_eq]; exact hne
    have TR := Lib.hid (TrimSet_any s digs w (by omega) (by decide) (by decide) digs_ascii)
    cases hall : s.data.toList.all digC
    · have hd := Lib.hid (show digitsB s.data.toList = false by unfold digitsB; rw [hall]; simp)
      have htn := Lib.hid (show Lib.trimS s.data.toList digs.data.toList ≠ [] from fun h => by rw [trimS_nil, digs_all, hall] at h; cases h)
      clear hall hne
      go_enter Tryd.func16, Tryd.ntmps16
      go_wp2_with fail
      refine TR.out.mono ?_
      rintro e w1 ⟨rfl, hf1⟩
      have t1 : ¬ (⟨(Lib.trimS s.data.toList digs.data.toList).toArray⟩ : ByteArray).toList = [] := by rw [ByteArray.toList_eq]; simpa using htn.out
      have t2 : (⟨(Lib.trimS s.data.toList digs.data.toList).toArray⟩ : ByteArray).toList.isEmpty = false := by rw [ByteArray.toList_eq]; simpa using htn.out
      generalize (⟨(Lib.trimS s.data.toList digs.data.toList).toArray⟩ : ByteArray) = z at *
      go_wp2
      go_ret2
      unfold SecPost
      rw [hd.out]
      exact ⟨rfl, hf1⟩
    · have hd := Lib.hid (show digitsB s.data.toList = true by unfold digitsB; rw [hall]; simpa using hne)
      have htn := Lib.hid (show Lib.trimS s.data.toList digs.data.toList = [] by rw [trimS_nil, digs_all, hall])
      have HALL := Lib.hid hall
      clear hall hne
      go_enter Tryd.func16, Tryd.ntmps16
      go_wp2_with fail
      refine TR.out.mono ?_
      rintro e w1 ⟨rfl, hf1⟩
      rw [htn.out]
      clear TR
      go_wp2
      go_loopw [4, 16] (SecRel s w) (fun _ i _ => s.size - (intOf i).toNat)
      case atStart => exact ⟨0, Nat.zero_le _, rfl, rfl, hf1⟩
      case round =>
        obtain ⟨k, hk, rfl, rfl, hfr⟩ := hrel
        have hr := secL_range (s.data.toList.take k) 0 (by rw [List.all_eq_true]; exact fun x hx => List.all_eq_true.1 HALL.out x (List.mem_of_mem_take hx)) (by omega) (by omega)
        change 0 ≤ secL (s.data.toList.take k) ∧ secL (s.data.toList.take k) ≤ 2147483648 at hr
        obtain ⟨r0, r1⟩ := hr
        by_cases hks : k < s.size
        · have hat := byte_at s k hks
          have hdg := digC_iff.1 (List.all_eq_true.1 HALL.out _ (List.mem_of_getElem? hat))
          have hsn := Lib.hid (secL_snoc hat)
          generalize hx : s[k] = x at hat hdg hsn
          obtain ⟨d0, d1⟩ := hdg
          clear hat
          generalize secL (s.data.toList.take k) = n at *
          go_wp2
          go_roundw
          case rel => exact ⟨k + 1, by omega, by go_num, by rw [hsn.out]; rfl, hfr⟩
          case measure => simp [intOf]; omega
        · have hfin := Lib.hid (show secL (s.data.toList.take k) = secL s.data.toList by rw [List.take_of_length_le (by simp; omega)])
          go_wp2
          go_ret2
          unfold SecPost
          rw [hd.out, ← hfin.out]
          exact ⟨rfl, hfr⟩
end Go.Proofs.YtghimbpihmehoaaDoor
