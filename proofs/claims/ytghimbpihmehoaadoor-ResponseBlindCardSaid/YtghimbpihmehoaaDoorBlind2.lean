/- The law ResponseBlind: its walk, the whole. -/
import Derived.Test.YtghimbpihmehoaaDoorBlind
import Derived.Test.YtghimbpihmehoaaDoorOpenA
namespace Go.Proofs.YtghimbpihmehoaaDoor
open Go.RowKit

set_option maxRecDepth 100000 in
set_option maxHeartbeats 4000000 in
theorem ResponseBlind_walk (r : AskOf Value) (a : AskOf Texts) (user pass method target b1 b2 n1 n2 : ByteArray) (k m : Int) (z2 : method.size ≤ 140737488351232) (z3 : target.size ≤ 140737488351232) (z4 : b1.size ≤ 140737488351232) (z5 : b2.size ≤ 140737488351232) (z6 : n1.size ≤ 140737488351232) (z7 : n2.size ≤ 140737488351232)
    (w : World) (st0 : r.Reads (StrsArg w) a ∧ a.Sized ∧ (Lit.int .i64 a.scheme).wf = true) (st1 : user.size ≤ reachBytes ∧ pass.size ≤ reachBytes) (ht : MdTabs w) (hs : ShTabs w) (hdb : TabAt w 11 .u8 dbL) :
    Calls Tryd.prog 6 #[.agg r.cells.toArray, .agg #[.string user, .string pass], .string method, .string target, .string b1, .string b2, .string n1, .string n2, .int .i64 k, .int .i64 m] w fun e w' => e = .returned (.bool true) ∧ Below w.heap.size w w' := by
  obtain ⟨⟨e0, e1, e2, e3, e4, e5, e6, hdom⟩, ⟨y1, y2, y3, y5, y7⟩, y8⟩ := st0
  have hone : r.dom.oneCell' = true := by obtain ⟨a', c', h⟩ := StrsAt.form hdom; rw [h]; rfl
  have x1 : r.realm.size ≤ 140737488351232 := by rw [e1]; exact y1
  have x2 : r.nonce.size ≤ 140737488351232 := by rw [e2]; exact y2
  have x3 : r.opaq.size ≤ 140737488351232 := by rw [e3]; exact y3
  have x5 : r.qop.size ≤ 140737488351232 := by rw [e5]; exact y5
  have x6 : user.size ≤ 140737488351232 := st1.1
  have x7 : pass.size ≤ 140737488351232 := st1.2
  clear e0 e1 e2 e3 e4 e5 e6 hdom y1 y2 y3 y5 y7 y8 st1
  obtain ⟨sch, realm, nonce, opaq, sess, qop, stale, dom⟩ := r
  simp only at hone x1 x2 x3 x5
  show Calls Tryd.prog 6 #[.agg #[.int .i64 sch, .string realm, .string nonce, .string opaq, .bool sess, .string qop, .bool stale, dom], .agg #[.string user, .string pass], .string method, .string target, .string b1, .string b2, .string n1, .string n2, .int .i64 k, .int .i64 m] w _
  obtain ⟨wb, hwb⟩ : ∃ wb, wb = (w.alloc (.cells #[.int .i64 sch, .string realm, .string nonce, .string opaq, .bool sess, .string qop, .bool stale, dom] 38)).alloc (.cells #[.string user, .string pass] 40) := ⟨_, rfl⟩
  have hfb : Fr noB w wb := by rw [hwb]; exact ((Fr.refl noB w).alloc _).alloc _
  have hk1 : wb.heap[w.heap.size]? = some (.cells #[.int .i64 sch, .string realm, .string nonce, .string opaq, .bool sess, .string qop, .bool stale, dom] 38 (0, 0)) := by rw [hwb]; exact ((Fr.refl noB _).alloc _).keep (new_block _ _) (fun h => h)
  have hk2 : wb.heap[w.heap.size + 1]? = some (.cells #[.string user, .string pass] 40 (0, 0)) := by
    have h := new_block (w.alloc (.cells #[.int .i64 sch, .string realm, .string nonce, .string opaq, .bool sess, .string qop, .bool stale, dom] 38)) (.cells #[.string user, .string pass] 40)
    rw [World.size_alloc] at h
    rw [hwb]; exact h
  have HC := Lib.hid (show ∀ U, Fr noB wb U → (U.cell? ⟨w.heap.size, 0, none⟩ = some (.int .i64 sch) ∧ U.cell? ⟨w.heap.size, 1, none⟩ = some (.string realm) ∧ U.cell? ⟨w.heap.size, 2, none⟩ = some (.string nonce) ∧ U.cell? ⟨w.heap.size, 3, none⟩ = some (.string opaq) ∧ U.cell? ⟨w.heap.size, 4, none⟩ = some (.bool sess) ∧ U.cell? ⟨w.heap.size, 5, none⟩ = some (.string qop) ∧ U.cell? ⟨w.heap.size, 6, none⟩ = some (.bool stale) ∧ U.cell? ⟨w.heap.size, 7, none⟩ = some dom) ∧ U.cell? ⟨w.heap.size + 1, 0, none⟩ = some (.string user) ∧ U.cell? ⟨w.heap.size + 1, 1, none⟩ = some (.string pass) from fun U hU => by
    have j1 := hU.keep hk1 (fun h => h)
    have j2 := hU.keep hk2 (fun h => h)
    exact ⟨by simp [World.cell?, j1], by simp [World.cell?, j2]⟩)
  have HT := Lib.hid (And.intro (ht.fr hfb) (And.intro (hs.fr hfb) (hdb.fr hfb)))
  have HFB := Lib.hid hfb
  have HWB := Lib.hid hwb
  clear ht hs hdb hfb hwb hk1 hk2
  go_enter Tryd.func6, Tryd.ntmps6
  go_wp2_with fail
  rw [← HWB.out]
  refine (proved_any wb HT.out.1 HT.out.2.2).mono ?_
  rintro e u1 ⟨rfl, hf1⟩
  have HF1 := Lib.hid hf1
  obtain ⟨⟨c0, c1, c2, c3, c4, c5, c6, c7⟩, d0, d1⟩ := HC.out u1 hf1
  have HSM := Lib.hid (small_any ⟨sch, realm, nonce, opaq, sess, qop, stale, dom⟩ user pass u1.heap.size 0 6 [method, target, b1, b2, n1, n2] (u1.alloc (.cells #[.string method, .string target, .string b1, .string b2, .string n1, .string n2] 9)) hone x1 x2 x3 x5 x6 x7 (by simp)
    (fun j x hj => by
      have h := new_block u1 (.cells ([method, target, b1, b2, n1, n2].map Value.string).toArray 9)
      show (u1.alloc (.cells ([method, target, b1, b2, n1, n2].map Value.string).toArray 9)).cell? ⟨u1.heap.size, 0 + j, none⟩ = _
      rw [Nat.zero_add]
      have e : ([method, target, b1, b2, n1, n2].map Value.string)[j]? = some (.string x) := by rw [List.getElem?_map, hj]; rfl
      simp only [World.cell?, h]
      simpa using e) (Nat.le_of_ble_eq_true rfl) (fun s hs => by
      simp only [List.mem_cons, List.not_mem_nil, or_false] at hs
      rcases hs with rfl | rfl | rfl | rfl | rfl | rfl <;> assumption))
  have HSZ := Lib.hid (show askSize realm nonce opaq qop user pass + sizes [method, target, b1, b2, n1, n2] ≤ 500 → realm.size ≤ 500 ∧ nonce.size ≤ 500 ∧ qop.size ≤ 500 ∧ user.size ≤ 500 ∧ pass.size ≤ 500 ∧ method.size ≤ 500 ∧ target.size ≤ 500 ∧ b1.size ≤ 500 ∧ b2.size ≤ 500 ∧ n1.size ≤ 500 ∧ n2.size ≤ 500 from fun h => by
    simp [askSize, sizes] at h; omega)
  clear hf1
  go_wp2_with fail
  refine HSM.out.mono ?_
  rintro e u2 ⟨rfl, hf2⟩
  have HF2 := Lib.hid (HF1.out.trans (((Fr.refl noB u1).alloc _).trans hf2))
  clear HSM hf2 c0 c1 c2 c3 c4 c5 c6 c7 d0 d1
  by_cases hsm : askSize realm nonce opaq qop user pass + sizes [method, target, b1, b2, n1, n2] ≤ 500
  · obtain ⟨s1, s2, s3, s4, s5, s6, s7, s8, s9, s10, s11⟩ := HSZ.out hsm
    rw [decide_eq_true hsm]
    clear hsm HSZ x1 x2 x3 x5 x6 x7 z2 z3 z4 z5 z6 z7
    obtain ⟨p0, p1⟩ := pickI_range k 1000 (by omega)
    obtain ⟨q0, q1⟩ := pickI_range m 1000 (by omega)
    obtain ⟨kk, hkk⟩ : ∃ n : Nat, pickI k 1000 = (n : Int) := ⟨(pickI k 1000).toNat, by omega⟩
    obtain ⟨mm, hmm⟩ : ∃ n : Nat, pickI m 1000 = (n : Int) := ⟨(pickI m 1000).toNat, by omega⟩
    have HKK := Lib.hid hkk
    have HMM := Lib.hid hmm
    have hk3 : kk < 1000 := by omega
    have hm3 : mm < 1000 := by omega
    clear p0 p1 q0 q1 hkk hmm
    go_wp2_with fail
    refine (pick_any k 1000 u2 (by decide) (by decide)).mono ?_
    rintro e u3 ⟨rfl, rfl⟩
    rw [HKK.out]
    go_wp2_with fail
    refine (pick_any m 1000 u2 (by decide) (by decide)).mono ?_
    rintro e u3 ⟨rfl, rfl⟩
    rw [HMM.out]
    obtain ⟨X, hX⟩ : ∃ X : RespIn, X = ⟨decide (sch = 3), sess, realm, nonce, qop, user, pass, method, target, b1, n1, kk⟩ := ⟨_, rfl⟩
    have HRA := Lib.hid (show ∀ (b c : ByteArray) (n : Nat) (U : World), Fr noB wb U → b.size ≤ 500 → c.size ≤ 500 → n < 1000 →
        Calls Tryd.prog 27 #[.agg #[.int .i64 sch, .string realm, .string nonce, .string opaq, .bool sess, .string qop, .bool stale, dom], .agg #[.string user, .string pass], .string method, .string target, .string b, .string c, .int .i64 n] U
          fun e w' => e = .returned (.string (respB { X with body := b, cnonce := c, n := n })) ∧ Fr noB U w' from fun b c n U hU hb hc hn => by
      have h := Response_any ⟨sch, realm, nonce, opaq, sess, qop, stale, dom⟩ ⟨decide (sch = 3), sess, realm, nonce, qop, user, pass, method, target, b, c, n⟩ U ⟨by simp only; omega, by simp only; omega, by simp only; omega, by simp only; omega, by simp only; omega, by simp only; omega, by simp only; omega, by simp only; omega, by simp only; omega, by simp only; omega⟩ rfl rfl rfl rfl rfl hone (HT.out.2.2.fr hU) (hash_any sch U (HT.out.1.fr hU) (HT.out.2.1.fr hU))
      rw [hX]
      exact h)
    have HXI := Lib.hid (show { X with body := b1, cnonce := n1, n := kk } = X by rw [hX])
    have HXQ := Lib.hid (show X.qop = qop ∧ X.sess = sess ∧ X.cnonce = n1 ∧ X.n = kk by rw [hX]; exact ⟨rfl, rfl, rfl, rfl⟩)
    clear hX
    obtain ⟨⟨c0, c1, c2, c3, c4, c5, c6, c7⟩, d0, d1⟩ := HC.out u2 HF2.out
    go_wp2_with fail
    refine (HRA.out b1 n1 kk u2 HF2.out s8 s10 hk3).mono ?_
    rw [HXI.out]
    rintro e u4 ⟨rfl, hf4⟩
    have HF4 := Lib.hid (HF2.out.trans hf4)
    clear hf4 c0 c1 c2 c3 c4 c5 c6 c7 d0 d1
    obtain ⟨⟨c0, c1, c2, c3, c4, c5, c6, c7⟩, d0, d1⟩ := HC.out u4 HF4.out
    by_cases hqi : qop = authInt
    · subst hqi
      have hai : authInt.toList = [97, 117, 116, 104, 45, 105, 110, 116] := by decide +kernel
      have hai2 : ¬ authInt.toList = [] := by rw [hai]; simp
      go_wp2
      go_ret
      exact ⟨rfl, (HFB.out.trans HF4.out).none_below⟩
    · have hq1 : ¬ qop.toList = [97, 117, 116, 104, 45, 105, 110, 116] := fun h => hqi (by rw [ByteArray.toList_eq] at h; exact Go.WideShapes.bytes_inj h)
      have hq2 : (qop.toList == [97, 117, 116, 104, 45, 105, 110, 116]) = false := by simp [hq1]
      have HB2 := Lib.hid (show respB { X with body := b2, cnonce := n1, n := kk } = respB X from by
        have h := resp_body (x := X) b2 (by rw [HXQ.out.1]; exact hqi)
        rw [← h]; obtain ⟨_, _, h3, h4⟩ := HXQ.out; rw [← h3, ← h4])
      go_wp2_with fail
      refine (HRA.out b2 n1 kk u4 HF4.out s9 s10 hk3).mono ?_
      rw [HB2.out]
      rintro e u5 ⟨rfl, hf5⟩
      have HF5 := Lib.hid (HF4.out.trans hf5)
      clear hf5 c0 c1 c2 c3 c4 c5 c6 c7 d0 d1
      obtain ⟨⟨c0, c1, c2, c3, c4, c5, c6, c7⟩, d0, d1⟩ := HC.out u5 HF5.out
      by_cases hqe : qop = .empty
      · have HQE := Lib.hid hqe
        subst hqe
        have hqe2 : ByteArray.empty.toList = [] := by decide +kernel
        cases sess
        · have HB3 := Lib.hid (show respB { X with body := b1, cnonce := n2, n := mm } = respB X from by
            have h := resp_none (x := { X with body := b1 }) n2 mm (by show X.qop = _; rw [HXQ.out.1]) (by show X.sess = _; rw [HXQ.out.2.1])
            refine h.trans ?_
            have e := HXI.out
            obtain ⟨_, _, h3, h4⟩ := HXQ.out
            rw [show ({ X with body := b1 } : RespIn) = { X with body := b1, cnonce := n1, n := kk } from by rw [← h3, ← h4], e])
          go_wp2_with fail
          refine (HRA.out b1 n2 mm u5 HF5.out s8 s11 hm3).mono ?_
          rw [HB3.out]
          rintro e u6 ⟨rfl, hf6⟩
          go_wp2
          go_ret
          exact ⟨rfl, (HFB.out.trans (HF5.out.trans hf6)).none_below⟩
        · go_wp2
          go_ret
          exact ⟨rfl, (HFB.out.trans HF5.out).none_below⟩
      · have hq3 : ¬ qop.toList = [] := fun h => hqe (by rw [ByteArray.toList_eq] at h; exact Go.WideShapes.bytes_inj h)
        have hq4 : qop.toList.isEmpty = false := by cases hz : qop.toList with | nil => exact absurd hz hq3 | cons _ _ => rfl
        go_wp2
        go_ret
        exact ⟨rfl, (HFB.out.trans HF5.out).none_below⟩
  · rw [decide_eq_false hsm]
    go_wp2
    go_ret
    exact ⟨rfl, (HFB.out.trans HF2.out).none_below⟩
end Go.Proofs.YtghimbpihmehoaaDoor
