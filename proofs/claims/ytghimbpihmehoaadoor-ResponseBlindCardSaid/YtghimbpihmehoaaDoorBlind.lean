/- The law ResponseBlind: its walk. -/
import Derived.Test.YtghimbpihmehoaaDoorProved
import Derived.Test.YtghimbpihmehoaaDoorHash2
namespace Go.Proofs.YtghimbpihmehoaaDoor
open Go.RowKit

def sizes (ss : List ByteArray) : Nat := (ss.map ByteArray.size).sum
theorem sizes_take (ss : List ByteArray) (k : Nat) (h : k < ss.length) : sizes (ss.take (k + 1)) = sizes (ss.take k) + ss[k].size := by
  unfold sizes
  rw [List.take_add_one, List.getElem?_eq_getElem h, List.map_append, List.sum_append]
  simp only [Option.toList, List.map_cons, List.map_nil, List.sum_cons, List.sum_nil, Nat.add_zero]
theorem sizes_le (ss : List ByteArray) (b : Nat) (h : ∀ s ∈ ss, s.size ≤ b) : sizes ss ≤ ss.length * b := by
  induction ss with
  | nil => simp [sizes]
  | cons a l ih =>
    have := ih (fun s hs => h s (List.mem_cons_of_mem _ hs))
    have ha := h a (List.mem_cons_self ..)
    unfold sizes at this ⊢
    rw [List.map_cons, List.sum_cons, List.length_cons, Nat.succ_mul]
    omega
def askSize (realm nonce opaq qop user pass : ByteArray) : Nat := realm.size + nonce.size + opaq.size + qop.size + user.size + pass.size
def SmRel (n0 : Nat) (ss : List ByteArray) (w : World) (n i : Value) (wr : World) : Prop := ∃ k : Nat, k ≤ ss.length ∧ i = .int .i64 k ∧ n = .int .i64 ((n0 + sizes (ss.take k) : Nat) : Int) ∧ Fr noB w wr
set_option maxRecDepth 100000 in
set_option maxHeartbeats 2000000 in
theorem small_any (r : AskOf Value) (user pass : ByteArray) (bk o c : Nat) (ss : List ByteArray) (w : World) (hone : r.dom.oneCell' = true)
    (z1 : r.realm.size ≤ 140737488351232) (z2 : r.nonce.size ≤ 140737488351232) (z3 : r.opaq.size ≤ 140737488351232) (z4 : r.qop.size ≤ 140737488351232) (z5 : user.size ≤ 140737488351232) (z6 : pass.size ≤ 140737488351232)
    (hb : bk < w.heap.size) (hc : ∀ (j : Nat) x, ss[j]? = some x → w.cell? ⟨bk, o + j, none⟩ = some (.string x)) (hl : ss.length ≤ 1000) (hz : ∀ s ∈ ss, s.size ≤ 140737488351232) :
    Calls Tryd.prog 26 #[.agg #[.int .i64 r.scheme, .string r.realm, .string r.nonce, .string r.opaq, .bool r.sess, .string r.qop, .bool r.stale, r.dom], .agg #[.string user, .string pass], .slice (some ⟨bk, o, none⟩) ss.length c] w
      fun e w' => e = .returned (.bool (decide (askSize r.realm r.nonce r.opaq r.qop user pass + sizes ss ≤ 500))) ∧ Fr noB w w' := by
  obtain ⟨sch, realm, nonce, opaq, sess, qop, stale, dom⟩ := r
  simp only at hone z1 z2 z3 z4 ⊢
  have hbd := sizes_le ss 140737488351232 hz
  obtain ⟨wb, hwb⟩ : ∃ wb, wb = (w.alloc (.cells #[.int .i64 sch, .string realm, .string nonce, .string opaq, .bool sess, .string qop, .bool stale, dom] 38)).alloc (.cells #[.string user, .string pass] 40) := ⟨_, rfl⟩
  have hfb : Fr noB w wb := by rw [hwb]; exact ((Fr.refl noB w).alloc _).alloc _
  have HFB := Lib.hid hfb
  have HWB := Lib.hid hwb
  obtain ⟨n0, hn0⟩ : ∃ n0, n0 = askSize realm nonce opaq qop user pass := ⟨_, rfl⟩
  have HN0 := Lib.hid (show n0 = realm.size + nonce.size + opaq.size + qop.size + user.size + pass.size by rw [hn0]; rfl)
  rw [← hn0]
  have hn0b : n0 ≤ 844424930107392 := by rw [HN0.out]; omega
  have HC := Lib.hid hc
  have HZ := Lib.hid hz
  clear hn0 hwb hfb hc hz
  go_enter Tryd.func26, Tryd.ntmps26
  go_wp2
  rw [← HWB.out]
  go_loopw [7, 8] (SmRel n0 ss wb) (fun _ i _ => ss.length - (intOf i).toNat)
  case atStart => exact ⟨0, Nat.zero_le _, rfl, by rw [HN0.out]; simp [sizes]; try omega, Fr.refl _ _⟩
  case round =>
    obtain ⟨k, hk, rfl, rfl, hfr⟩ := hrel
    by_cases hk2 : k < ss.length
    · have hki : (k : Int) < (ss.length : Int) := by omega
      have hat := List.getElem?_eq_getElem hk2
      have hcell : wr.cell? ⟨bk, o + k, none⟩ = some (.string ss[k]) := ((HFB.out.trans hfr).cell (p := ⟨bk, o + k, none⟩) hb (fun h => h)).trans (HC.out k _ hat)
      have hst := Lib.hid (sizes_take ss k hk2)
      have hzk := HZ.out _ (List.getElem_mem hk2)
      have hsb := sizes_le (ss.take k) 140737488351232 (fun s hs => HZ.out s (List.mem_of_mem_take hs))
      rw [List.length_take] at hsb
      have hsb2 : sizes (ss.take k) ≤ 140737488351232000 := by omega
      clear hat hsb
      generalize ss[k] = x at *
      generalize sizes (ss.take k) = y at *
      go_wp2
      go_roundw
      case rel => exact ⟨k + 1, by omega, by go_num, by rw [hst.out]; congr 1; push_cast; omega, hfr⟩
      case measure => simp [intOf]; omega
    · have hki : ¬ (k : Int) < (ss.length : Int) := by omega
      have hfin := Lib.hid (show sizes (ss.take k) = sizes ss by rw [List.take_of_length_le (by omega)])
      rw [hfin.out]
      obtain ⟨y, hy⟩ : ∃ y, y = sizes ss := ⟨_, rfl⟩
      rw [← hy] at hbd ⊢
      have HY := Lib.hid hy
      clear hy
      have hdec : decide (n0 + y ≤ 500) = decide ((n0 : Int) + (y : Int) ≤ 500) := by
        by_cases h : n0 + y ≤ 500
        · rw [decide_eq_true h, decide_eq_true (by omega)]
        · rw [decide_eq_false h, decide_eq_false (by omega)]
      have HD := Lib.hid hdec
      clear hdec
      go_wp2
      go_ret
      exact ⟨by rw [← HY.out]; exact congrArg (fun b => Ending.returned (.bool b)) HD.out.symm, HFB.out.trans hfr⟩
theorem resp_body {x : RespIn} (b : ByteArray) (h : ¬ x.qop = authInt) : respB { x with body := b } = respB x := by
  unfold respB oneB twoB
  simp [h]
theorem resp_none {x : RespIn} (c : ByteArray) (n : Nat) (h : x.qop = .empty) (hs : x.sess = false) : respB { x with cnonce := c, n := n } = respB x := by
  unfold respB oneB twoB
  simp [h, hs]
end Go.Proofs.YtghimbpihmehoaaDoor
