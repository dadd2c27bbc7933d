/- The law SecondsOrder: its walk. -/
import Derived.Test.YtghimbpihmehoaaDoorSeconds
namespace Go.Proofs.YtghimbpihmehoaaDoor
open Go.RowKit

theorem secL_app (l : List UInt8) (c : UInt8) : secL (l ++ [c]) = secStep (secL l) c := by simp [secL]
theorem digitsB_app {l : List UInt8} {c : UInt8} (h : digitsB l = true) (hc : digC c = true) : digitsB (l ++ [c]) = true := by
  unfold digitsB at h ⊢
  rw [Bool.and_eq_true] at h
  rw [List.all_append, h.2]
  simp [hc]
theorem zeros_sec : ∀ (k : Nat), (Lib.repeatL [48] k).foldl secStep 0 = 0
  | 0 => rfl
  | k + 1 => by
    show (([48] : List UInt8) ++ Lib.repeatL [48] k).foldl secStep 0 = 0
    rw [List.foldl_append]
    exact zeros_sec k
theorem zeros_dig : ∀ (k : Nat), (Lib.repeatL [48] k).all digC = true
  | 0 => rfl
  | k + 1 => by
    show (([48] : List UInt8) ++ Lib.repeatL [48] k).all digC = true
    rw [List.all_append, zeros_dig k]; rfl
theorem zeros_len : ∀ (k : Nat), (Lib.repeatL [48] k).length = k
  | 0 => rfl
  | k + 1 => by
    show (([48] : List UInt8) ++ Lib.repeatL [48] k).length = k + 1
    rw [List.length_append, zeros_len k]; simp; omega
theorem zeros_app (l : List UInt8) (k : Nat) : secL (Lib.repeatL [48] k ++ l) = secL l := by
  unfold secL
  rw [List.foldl_append, zeros_sec]
theorem zeros_digits {l : List UInt8} (k : Nat) (h : digitsB l = true) : digitsB (Lib.repeatL [48] k ++ l) = true := by
  unfold digitsB at h ⊢
  rw [Bool.and_eq_true] at h
  rw [List.all_append, h.2, zeros_dig]
  have : l ≠ [] := by simpa using h.1
  simp [this]
theorem digs_cut : ∀ n : Fin 10, (digs.extract n.val (n.val + 1)).data.toList = [(48 + n.val).toUInt8] := by decide +kernel

set_option maxRecDepth 100000 in
set_option maxHeartbeats 2000000 in
theorem SecondsOrder_walk (a0 : ByteArray) (a1 a2 : Int) (z0 : a0.size ≤ 140737488351232) (w : World) :
    Calls Tryd.prog 3 #[.string a0, .int .i64 a1, .int .i64 a2] w fun e w' => e = .returned (.bool true) ∧ Below w.heap.size w w' := by
  go_enter Tryd.func3, Tryd.ntmps3
  go_wp2_with fail
  refine (worded_any w).mono ?_
  rintro e u1 ⟨rfl, hf1⟩
  by_cases hlen : 100 < a0.size
  · have hlen' : (100 : Int) < (a0.size : Int) := by omega
    go_wp2
    go_ret
    exact ⟨rfl, hf1.none_below⟩
  · have hlen' : ¬ (100 : Int) < (a0.size : Int) := by omega
    have SE := Lib.hid (Seconds_any a0 u1 (by omega))
    go_wp2_with fail
    refine SE.out.mono ?_
    intro e u2 hp
    clear SE
    cases hd : digitsB a0.data.toList
    · obtain ⟨rfl, hf2⟩ := hp.no hd
      go_wp2
      go_ret
      exact ⟨rfl, (hf1.trans hf2).none_below⟩
    · obtain ⟨rfl, hf2⟩ := hp.ok hd
      have hr := secL_range a0.data.toList 0 (by unfold digitsB at hd; rw [Bool.and_eq_true] at hd; exact hd.2) (by omega) (by omega)
      change 0 ≤ secL a0.data.toList ∧ secL a0.data.toList ≤ 2147483648 at hr
      obtain ⟨r0, r1⟩ := hr
      have HD := Lib.hid hd
      have HF2 := Lib.hid (hf1.trans hf2)
      clear hp hd hf1 hf2
      obtain ⟨p0, p1⟩ := pickI_range a1 10 (by omega)
      obtain ⟨q0, q1⟩ := pickI_range a2 9 (by omega)
      go_wp2_with fail
      refine (pick_any a1 10 u2 (by decide) (by decide)).mono ?_
      rintro e u3 ⟨rfl, rfl⟩
      obtain ⟨n, hn⟩ : ∃ n : Nat, pickI a1 10 = (n : Int) := ⟨(pickI a1 10).toNat, by omega⟩
      rw [hn] at p0 p1 ⊢
      clear hn
      have hn10 : n < 10 := by omega
      go_wp2_with fail
      have hcut : (digs.extract n (n + 1)).data.toList = [(48 + n).toUInt8] := digs_cut ⟨n, hn10⟩
      have hdl : ((48 + n).toUInt8).toNat = 48 + n := by simp [Nat.toUInt8, UInt8.toNat_ofNat]; omega
      have hdc : digC ((48 + n).toUInt8) = true := digC_iff.2 (by omega)
      have hA : (a0 ++ digs.extract n (n + 1)).data.toList = a0.data.toList ++ [(48 + n).toUInt8] := by rw [← hcut]; simp [ByteArray.data_append]
      have hAs : (a0 ++ digs.extract n (n + 1)).size = a0.size + 1 := by
        have h1 : (a0 ++ digs.extract n (n + 1)).data.toList.length = (a0 ++ digs.extract n (n + 1)).size := rfl
        rw [hA, List.length_append] at h1; rw [← h1]; rfl
      have hdA := Lib.hid (show digitsB (a0 ++ digs.extract n (n + 1)).data.toList = true by rw [hA]; exact digitsB_app HD.out hdc)
      have hsA := Lib.hid (show secL (a0 ++ digs.extract n (n + 1)).data.toList = min (secL a0.data.toList * 10 + n) 2147483648 by rw [hA, secL_app]; unfold secStep; rw [hdl]; congr 1; omega)
      have SE := Lib.hid (Seconds_any (a0 ++ digs.extract n (n + 1)) u2 (by rw [hAs]; omega))
      refine SE.out.mono ?_
      intro e u4 hp
      obtain ⟨rfl, hf4⟩ := hp.ok hdA.out
      rw [hsA.out]
      clear SE hp hdA hsA hAs hA hdc hdl hcut
      have HF4 := Lib.hid (HF2.out.trans hf4)
      clear hf4 HF2
      go_wp2_with fail
      refine (pick_any a2 9 u4 (by decide) (by decide)).mono ?_
      rintro e u5 ⟨rfl, rfl⟩
      obtain ⟨q, hq⟩ : ∃ q : Nat, pickI a2 9 = (q : Int) := ⟨(pickI a2 9).toNat, by omega⟩
      rw [hq] at q0 q1 ⊢
      clear hq
      have hq9 : q < 9 := by omega
      go_wp2_with fail
      refine (Tryd.strings_Repeat ⟨#[48]⟩ q u4 (by omega) (by show 1 * q ≤ _; omega)).mono ?_
      rintro e u6 ⟨rfl, hb6⟩
      have hrl : ((⟨(Lib.repeatL (ByteArray.mk #[48]).data.toList q).toArray⟩ : ByteArray)).data.toList = Lib.repeatL [48] q := by simp
      generalize (⟨(Lib.repeatL (ByteArray.mk #[48]).data.toList q).toArray⟩ : ByteArray) = z at *
      have hzs : z.size = q := by
        have h1 : z.data.toList.length = z.size := rfl
        rw [hrl, zeros_len] at h1; exact h1.symm
      have hB : (z ++ a0).data.toList = Lib.repeatL [48] q ++ a0.data.toList := by rw [← hrl]; simp [ByteArray.data_append]
      have hdB := Lib.hid (show digitsB (z ++ a0).data.toList = true by rw [hB]; exact zeros_digits q HD.out)
      have hsB := Lib.hid (show secL (z ++ a0).data.toList = secL a0.data.toList by rw [hB, zeros_app])
      have SE := Lib.hid (Seconds_any (z ++ a0) u6 (by rw [ByteArray.size_append, hzs]; omega))
      clear hB hrl
      go_wp2_with fail
      refine SE.out.mono ?_
      intro e u7 hp
      obtain ⟨rfl, hf7⟩ := hp.ok hdB.out
      rw [hsB.out]
      have HF7 := Lib.hid ((HF4.out.trans (Fr.of_below hb6)).trans hf7)
      clear SE hp hdB hsB hb6 hf7 HF4
      generalize secL a0.data.toList = v at *
      go_wp2
      go_ret
      exact ⟨rfl, HF7.out.none_below⟩
end Go.Proofs.YtghimbpihmehoaaDoor
