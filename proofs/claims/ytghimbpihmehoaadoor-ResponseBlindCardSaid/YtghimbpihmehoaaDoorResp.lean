/- Package proof: Response. -/
import Derived.Test.YtghimbpihmehoaaDoorHash
import Derived.Test.YtghimbpihmehoaaDoorCount
import Derived.Deep.RegionHeld3
namespace Go.Proofs.YtghimbpihmehoaaDoor
open Go.RowKit

/-- what a request is proved by -/
structure RespIn where
  sha : Bool
  sess : Bool
  realm : ByteArray
  nonce : ByteArray
  qop : ByteArray
  user : ByteArray
  pass : ByteArray
  method : ByteArray
  target : ByteArray
  body : ByteArray
  cnonce : ByteArray
  n : Nat
def authInt : ByteArray := ⟨#[97, 117, 116, 104, 45, 105, 110, 116]⟩
def oneB (x : RespIn) : ByteArray := if x.sess then hashB x.sha [hashB x.sha [x.user, x.realm, x.pass], x.nonce, x.cnonce] else hashB x.sha [x.user, x.realm, x.pass]
def twoB (x : RespIn) : ByteArray := if x.qop = authInt then hashB x.sha [x.method, x.target, hashB x.sha [x.body]] else hashB x.sha [x.method, x.target]
/-- proof.Response -/
def respB (x : RespIn) : ByteArray := if x.qop = .empty then hashB x.sha [oneB x, x.nonce, twoB x] else hashB x.sha [oneB x, x.nonce, ⟨(countL x.n).toArray⟩, x.cnonce, x.qop, twoB x]
theorem at_len (k : Nat) {P : Program} {f : FuncId} {x : Value} {a : Option Addr} {c : Nat} {W : World} {Post : Ending → World → Prop} (h : Calls P f #[x, .slice a k c] W Post) : Calls P f #[x, .slice a k c] W Post := h
theorem ai_ne : ¬ authInt = .empty := by decide +kernel
theorem strsAt_drew {w : World} {v : Value} {ss : List ByteArray} (h : StrsAt w v ss) : StrsAt w.drew v ss := h
theorem size_len (s : ByteArray) : s.data.toList.length = s.size := by simp
theorem join1 (a : ByteArray) : (textsL [a]).length = a.size := by simp [textsL, Lib.join, List.intercalate]
theorem join2 (a b : ByteArray) : (textsL [a, b]).length = a.size + b.size + 1 := by simp [textsL, Lib.join, List.intercalate]; omega
theorem join3 (a b c : ByteArray) : (textsL [a, b, c]).length = a.size + b.size + c.size + 2 := by simp [textsL, Lib.join, List.intercalate]; omega
theorem join6 (a b c d e f : ByteArray) : (textsL [a, b, c, d, e, f]).length = a.size + b.size + c.size + d.size + e.size + f.size + 5 := by simp [textsL, Lib.join, List.intercalate]; omega
theorem count_size (n : Nat) : (⟨(countL n).toArray⟩ : ByteArray).size = 8 := by show (countL n).toArray.size = 8; simp [countL, hexFix_len]
structure RespIn.Small (x : RespIn) : Prop where
  realm : x.realm.size ≤ 5000
  nonce : x.nonce.size ≤ 5000
  qop : x.qop.size ≤ 5000
  user : x.user.size ≤ 5000
  pass : x.pass.size ≤ 5000
  method : x.method.size ≤ 5000
  target : x.target.size ≤ 5000
  body : x.body.size ≤ 5000
  cnonce : x.cnonce.size ≤ 5000
  n : x.n < 4294967296
set_option maxRecDepth 100000 in
set_option maxHeartbeats 4000000 in
theorem Response_any (r : AskOf Value) (x : RespIn) (w : World) (hx : x.Small) (h1 : r.realm = x.realm) (h2 : r.nonce = x.nonce) (h3 : r.qop = x.qop) (h4 : r.sess = x.sess) (h5 : x.sha = decide (r.scheme = 3))
    (hone : r.dom.oneCell' = true) (hdb : TabAt w 11 .u8 dbL) (hh : HashOk r.scheme w) :
    Calls Tryd.prog 27 #[.agg #[.int .i64 r.scheme, .string r.realm, .string r.nonce, .string r.opaq, .bool r.sess, .string r.qop, .bool r.stale, r.dom], .agg #[.string x.user, .string x.pass], .string x.method, .string x.target, .string x.body, .string x.cnonce, .int .i64 x.n] w
      fun e w' => e = .returned (.string (respB x)) ∧ Fr noB w w' := by
  obtain ⟨sha, sess, realm, nonce, qop, user, pass, method, target, body, cnonce, n⟩ := x
  obtain ⟨sch, realm', nonce', opaq, sess', qop', stale, dom⟩ := r
  obtain ⟨z1, z2, z3, z4, z5, z6, z7, z8, z9, zn⟩ := hx
  simp only at h1 h2 h3 h4 h5 hone z1 z2 z3 z4 z5 z6 z7 z8 z9 zn hh ⊢
  subst h1 h2 h3 h4 h5
  have HDB := Lib.hid hdb
  have HH := Lib.hid hh
  have HD1 := Lib.hid hone
  clear hdb hh
  go_enter Tryd.func27, Tryd.ntmps27
  go_wp2_with fail
  obtain ⟨wb, hwb⟩ : ∃ wb, wb = (w.alloc (.cells #[.int .i64 sch, .string realm', .string nonce', .string opaq, .bool sess', .string qop', .bool stale, dom] 38)).alloc (.cells #[.string user, .string pass] 40) := ⟨_, rfl⟩
  have hsz : wb.heap.size = w.heap.size + 1 + 1 := by rw [hwb]; simp
  have hfb : Fr noB w wb := by rw [hwb]; exact ((Fr.refl noB w).alloc _).alloc _
  have hk : wb.heap[w.heap.size]? = some (.cells #[.int .i64 sch, .string realm', .string nonce', .string opaq, .bool sess', .string qop', .bool stale, dom] 38 (0, 0)) := by rw [hwb]; exact ((Fr.refl noB _).alloc _).keep (new_block _ _) (fun h => h)
  have HC := Lib.hid (show ∀ U, Fr noB wb U → U.cell? ⟨w.heap.size, 0, none⟩ = some (.int .i64 sch) ∧ U.cell? ⟨w.heap.size, 2, none⟩ = some (.string nonce') ∧ U.cell? ⟨w.heap.size, 4, none⟩ = some (.bool sess') ∧ U.cell? ⟨w.heap.size, 5, none⟩ = some (.string qop') from fun U hU => by
    have hk2 := hU.keep hk (fun h => h)
    simp [World.cell?, hk2])
  have hv := strsAt_new wb 9 [user, realm', pass] (Nat.le_of_ble_eq_true rfl)
  rw [hsz] at hv
  rw [← hwb]
  clear hwb hk
  refine (HH.out _ [user, realm', pass] _ (hfb.alloc _) hv (Nat.le_of_ble_eq_true rfl) (by rw [join3]; omega)).mono ?_
  rintro e u1 ⟨rfl, hf1⟩
  have HF1 := Lib.hid (show Fr noB wb u1 from ((Fr.refl noB wb).alloc _).trans hf1)
  have HW1 := Lib.hid (hfb.trans HF1.out)
  obtain ⟨c0, c2, c4, c5⟩ := HC.out u1 HF1.out
  obtain ⟨o0, ho0⟩ : ∃ o0, o0 = hashB (decide (sch = 3)) [user, realm', pass] := ⟨_, rfl⟩
  have hoz : o0.size ≤ 64 := by rw [ho0]; exact hashB_size _ _
  rw [← ho0]
  have HO0 := Lib.hid ho0
  clear ho0
  clear hv hf1 hsz
  cases sess'
  · obtain ⟨o1, ho1⟩ : ∃ o1, o1 = o0 := ⟨_, rfl⟩
    rw [← ho1] at hoz ⊢
    have HO := Lib.hid (show oneB ⟨decide (sch = 3), false, realm', nonce', qop', user, pass, method, target, body, cnonce, n⟩ = o1 by rw [ho1, HO0.out]; rfl)
    clear ho1
    go_wp2_with fail
    refine (HH.out _ [method, target] _ (by repeat (first | exact HW1.out | refine Fr.trans ?_ hf7 | apply Fr.alloc | apply Fr.drew)) (strsAt_new _ _ [method, target] (Nat.le_of_ble_eq_true rfl)) (Nat.le_of_ble_eq_true rfl) (by rw [join2]; omega)).mono ?_
    rintro e u5 ⟨rfl, hf5⟩
    have HF5 := Lib.hid (show Fr noB wb u5 from Fr.trans (by repeat (first | exact HF1.out | apply Fr.alloc | apply Fr.drew)) hf5)
    have HW5 := Lib.hid (hfb.trans HF5.out)
    obtain ⟨d0, d2, d4, d5⟩ := HC.out u5 HF5.out
    clear c0 c2 c4 c5 hf5
    obtain ⟨t0, ht0⟩ : ∃ t0, t0 = hashB (decide (sch = 3)) [method, target] := ⟨_, rfl⟩
    have htz : t0.size ≤ 64 := by rw [ht0]; exact hashB_size _ _
    rw [← ht0]
    have HT0 := Lib.hid ht0
    clear ht0
    by_cases hqi : qop' = authInt
    · subst hqi
      have hai : authInt.toList = [97, 117, 116, 104, 45, 105, 110, 116] := by decide +kernel
      have HRI := Lib.hid (show respB ⟨decide (sch = 3), false, realm', nonce', authInt, user, pass, method, target, body, cnonce, n⟩ = hashB (decide (sch = 3)) [oneB ⟨decide (sch = 3), false, realm', nonce', authInt, user, pass, method, target, body, cnonce, n⟩, nonce', ⟨(countL n).toArray⟩, cnonce, authInt, twoB ⟨decide (sch = 3), false, realm', nonce', authInt, user, pass, method, target, body, cnonce, n⟩] from by unfold respB; rw [if_neg ai_ne])
      have HTI := Lib.hid (show twoB ⟨decide (sch = 3), false, realm', nonce', authInt, user, pass, method, target, body, cnonce, n⟩ = hashB (decide (sch = 3)) [method, target, hashB (decide (sch = 3)) [body]] from by unfold twoB; rw [if_pos rfl])
      have hbz := hashB_size (decide (sch = 3)) [body]
      obtain ⟨bb, hbb⟩ : ∃ bb, bb = hashB (decide (sch = 3)) [body] := ⟨_, rfl⟩
      have HBB := Lib.hid hbb
      rw [← hbb] at hbz HTI
      clear hbb
      go_wp2_with fail
      go_region_held3 (fun U => U.cell? ⟨w.heap.size, 0, none⟩ = some (.int .i64 sch)) ((refine (HC.out _ ?_).1; repeat (first | exact HF5.out | refine Fr.trans ?_ hf8 | refine Fr.trans ?_ hf7 | apply Fr.alloc | apply Fr.drew))) (first | ((with_reducible refine at_len 1 ?_); go_at_call 74; refine (HH.out _ [body] _ (by repeat (first | exact HW5.out | apply Fr.alloc | apply Fr.drew)) (by first | exact strsAt_new _ _ [body] (Nat.le_of_ble_eq_true rfl) | exact strsAt_drew (strsAt_new _ _ [body] (Nat.le_of_ble_eq_true rfl))) (Nat.le_of_ble_eq_true rfl) (by rw [join1]; omega)).mono ?_; rw [← HBB.out]; rintro e w7 ⟨rfl, hf7⟩) | ((with_reducible refine at_len 3 ?_); go_at_call 74; refine (HH.out _ [method, target, bb] _ (by repeat (first | exact HW5.out | refine Fr.trans ?_ hf7 | apply Fr.alloc | apply Fr.drew)) (by first | exact strsAt_new _ _ [method, target, bb] (Nat.le_of_ble_eq_true rfl) | exact strsAt_drew (strsAt_new _ _ [method, target, bb] (Nat.le_of_ble_eq_true rfl))) (Nat.le_of_ble_eq_true rfl) (by rw [join3]; omega)).mono ?_; rintro e w8 ⟨rfl, hf8⟩))
      all_goals
        have HF6 := Lib.hid (show Fr noB wb w8 from by repeat (first | exact HF5.out | refine Fr.trans ?_ hf8 | refine Fr.trans ?_ hf7 | apply Fr.alloc | apply Fr.drew))
        have HW6 := Lib.hid (hfb.trans HF6.out)
        clear hf7 hf8 d0 d2 d4 d5
        obtain ⟨d0, d2, d4, d5⟩ := HC.out w8 HF6.out
        obtain ⟨t2, ht2⟩ : ∃ t2, t2 = hashB (decide (sch = 3)) [method, target, bb] := ⟨_, rfl⟩
        have htz2 : t2.size ≤ 64 := by rw [ht2]; exact hashB_size _ _
        rw [← ht2]
        have HT := Lib.hid (HTI.out.trans ht2.symm)
        have HR := Lib.hid HRI.out
        clear ht2
        have hai2 : ¬ authInt.toList = [] := by rw [hai]; simp
        have HC3 := Lib.hid (fun (U : World) (hU : Fr noB wb U) => And.intro (HC.out U hU).1 (And.intro (HC.out U hU).2.1 (HC.out U hU).2.2.2))
        clear htz
        go_wp2_with fail
        go_region_held3 (fun U => U.cell? ⟨w.heap.size, 0, none⟩ = some (.int .i64 sch) ∧ U.cell? ⟨w.heap.size, 2, none⟩ = some (.string nonce') ∧ U.cell? ⟨w.heap.size, 5, none⟩ = some (.string authInt)) ((refine HC3.out _ ?_; repeat (first | exact HF6.out | refine Fr.trans ?_ hf8 | refine Fr.trans ?_ hf7 | apply Fr.alloc | apply Fr.drew))) (first | (go_at_call 25; refine (Count_any n _ zn (HDB.out.fr (by repeat (first | exact HW6.out | refine Fr.trans ?_ hf7 | apply Fr.alloc | apply Fr.drew)))).mono ?_; rintro e w7 ⟨rfl, hf7⟩) | (go_at_call 74; refine (HH.out _ [o1, nonce', ⟨(countL n).toArray⟩, cnonce, authInt, t2] _ (by repeat (first | exact HW6.out | refine Fr.trans ?_ hf7 | apply Fr.alloc | apply Fr.drew)) (strsAt_new _ _ _ (Nat.le_of_ble_eq_true rfl)) (Nat.le_of_ble_eq_true rfl) (by rw [join6]; have := count_size n; omega)).mono ?_; rintro e w8 ⟨rfl, hf8⟩))
        all_goals
          have HFIN := Lib.hid (show Fr noB w w8 from Fr.trans (by repeat (first | exact HW6.out | refine Fr.trans ?_ hf7 | apply Fr.alloc | apply Fr.drew)) hf8)
          clear hf8
          go_wp2
          go_ret
          exact ⟨by rw [HR.out, HO.out, HT.out]; rfl, HFIN.out⟩
    · have hq1 : ¬ qop'.toList = [97, 117, 116, 104, 45, 105, 110, 116] := fun h => hqi (by rw [ByteArray.toList_eq] at h; exact Go.WideShapes.bytes_inj h)
      have hq2 : (qop'.toList == [97, 117, 116, 104, 45, 105, 110, 116]) = false := by simp [hq1]
      obtain ⟨t2, ht2⟩ : ∃ t2, t2 = t0 := ⟨_, rfl⟩
      rw [← ht2] at htz ⊢
      have HT := Lib.hid (show twoB ⟨decide (sch = 3), false, realm', nonce', qop', user, pass, method, target, body, cnonce, n⟩ = t2 by rw [ht2, HT0.out]; unfold twoB; rw [if_neg hqi])
      clear ht2
      by_cases hqe : qop' = .empty
      · subst hqe
        have hqe2 : ByteArray.empty.toList = [] := by decide +kernel
        have HR := Lib.hid (show respB ⟨decide (sch = 3), false, realm', nonce', .empty, user, pass, method, target, body, cnonce, n⟩ = hashB (decide (sch = 3)) [oneB ⟨decide (sch = 3), false, realm', nonce', .empty, user, pass, method, target, body, cnonce, n⟩, nonce', twoB ⟨decide (sch = 3), false, realm', nonce', .empty, user, pass, method, target, body, cnonce, n⟩] from by unfold respB; rw [if_pos rfl])
        go_wp2_with fail
        refine (HH.out _ [o1, nonce', t2] _ (by repeat (first | exact HW5.out | refine Fr.trans ?_ hf7 | apply Fr.alloc | apply Fr.drew)) (strsAt_new _ _ [o1, nonce', t2] (Nat.le_of_ble_eq_true rfl)) (Nat.le_of_ble_eq_true rfl) (by rw [join3]; omega)).mono ?_
        rintro e u9 ⟨rfl, hf9⟩
        go_wp2
        go_ret
        exact ⟨by rw [HR.out, HO.out, HT.out]; rfl, Fr.trans (by repeat (first | exact HW5.out | refine Fr.trans ?_ hf7 | apply Fr.alloc | apply Fr.drew)) hf9⟩
      · have hq3 : ¬ qop'.toList = [] := fun h => hqe (by rw [ByteArray.toList_eq] at h; exact Go.WideShapes.bytes_inj h)
        have hq4 : qop'.toList.isEmpty = false := by cases hz : qop'.toList with | nil => exact absurd hz hq3 | cons _ _ => rfl
        have HR := Lib.hid (show respB ⟨decide (sch = 3), false, realm', nonce', qop', user, pass, method, target, body, cnonce, n⟩ = hashB (decide (sch = 3)) [oneB ⟨decide (sch = 3), false, realm', nonce', qop', user, pass, method, target, body, cnonce, n⟩, nonce', ⟨(countL n).toArray⟩, cnonce, qop', twoB ⟨decide (sch = 3), false, realm', nonce', qop', user, pass, method, target, body, cnonce, n⟩] from by unfold respB; rw [if_neg hqe])
        have HC3 := Lib.hid (fun (U : World) (hU : Fr noB wb U) => And.intro (HC.out U hU).1 (And.intro (HC.out U hU).2.1 (HC.out U hU).2.2.2))
        go_wp2_with fail
        go_region_held3 (fun U => U.cell? ⟨w.heap.size, 0, none⟩ = some (.int .i64 sch) ∧ U.cell? ⟨w.heap.size, 2, none⟩ = some (.string nonce') ∧ U.cell? ⟨w.heap.size, 5, none⟩ = some (.string qop')) ((refine HC3.out _ ?_; repeat (first | exact HF5.out | refine Fr.trans ?_ hf8 | refine Fr.trans ?_ hf7 | apply Fr.alloc | apply Fr.drew))) (first | (go_at_call 25; refine (Count_any n _ zn (HDB.out.fr (by repeat (first | exact HW5.out | refine Fr.trans ?_ hf7 | apply Fr.alloc | apply Fr.drew)))).mono ?_; rintro e w7 ⟨rfl, hf7⟩) | (go_at_call 74; refine (HH.out _ [o1, nonce', ⟨(countL n).toArray⟩, cnonce, qop', t2] _ (by repeat (first | exact HW5.out | refine Fr.trans ?_ hf7 | apply Fr.alloc | apply Fr.drew)) (strsAt_new _ _ _ (Nat.le_of_ble_eq_true rfl)) (Nat.le_of_ble_eq_true rfl) (by rw [join6]; have := count_size n; omega)).mono ?_; rintro e w8 ⟨rfl, hf8⟩))
        all_goals
          have HFIN := Lib.hid (show Fr noB w w8 from Fr.trans (by repeat (first | exact HW5.out | refine Fr.trans ?_ hf7 | apply Fr.alloc | apply Fr.drew)) hf8)
          clear hf8
          go_wp2
          go_ret
          exact ⟨by rw [HR.out, HO.out, HT.out]; rfl, HFIN.out⟩
  · go_wp2_with fail
    refine (HH.out _ [o0, nonce', cnonce] _ (by repeat (first | exact HW1.out | apply Fr.alloc | apply Fr.drew)) (strsAt_new _ _ [o0, nonce', cnonce] (Nat.le_of_ble_eq_true rfl)) (Nat.le_of_ble_eq_true rfl) (by rw [join3]; omega)).mono ?_
    rintro e u2 ⟨rfl, hf2⟩
    have HF2 := Lib.hid (show Fr noB wb u2 from Fr.trans (by repeat (first | exact HF1.out | apply Fr.alloc | apply Fr.drew)) hf2)
    have HW2 := Lib.hid (hfb.trans HF2.out)
    clear c0 c2 c4 c5 hf2
    obtain ⟨c0, c2, c4, c5⟩ := HC.out u2 HF2.out
    obtain ⟨o1, ho1⟩ : ∃ o1, o1 = hashB (decide (sch = 3)) [o0, nonce', cnonce] := ⟨_, rfl⟩
    have hoz1 : o1.size ≤ 64 := by rw [ho1]; exact hashB_size _ _
    rw [← ho1]
    have HO := Lib.hid (show oneB ⟨decide (sch = 3), true, realm', nonce', qop', user, pass, method, target, body, cnonce, n⟩ = o1 by rw [ho1, HO0.out]; rfl)
    clear ho1
    go_wp2_with fail
    refine (HH.out _ [method, target] _ (by repeat (first | exact HW2.out | refine Fr.trans ?_ hf7 | apply Fr.alloc | apply Fr.drew)) (strsAt_new _ _ [method, target] (Nat.le_of_ble_eq_true rfl)) (Nat.le_of_ble_eq_true rfl) (by rw [join2]; omega)).mono ?_
    rintro e u5 ⟨rfl, hf5⟩
    have HF5 := Lib.hid (show Fr noB wb u5 from Fr.trans (by repeat (first | exact HF2.out | apply Fr.alloc | apply Fr.drew)) hf5)
    have HW5 := Lib.hid (hfb.trans HF5.out)
    obtain ⟨d0, d2, d4, d5⟩ := HC.out u5 HF5.out
    clear c0 c2 c4 c5 hf5
    obtain ⟨t0, ht0⟩ : ∃ t0, t0 = hashB (decide (sch = 3)) [method, target] := ⟨_, rfl⟩
    have htz : t0.size ≤ 64 := by rw [ht0]; exact hashB_size _ _
    rw [← ht0]
    have HT0 := Lib.hid ht0
    clear ht0
    by_cases hqi : qop' = authInt
    · subst hqi
      have hai : authInt.toList = [97, 117, 116, 104, 45, 105, 110, 116] := by decide +kernel
      have HRI := Lib.hid (show respB ⟨decide (sch = 3), true, realm', nonce', authInt, user, pass, method, target, body, cnonce, n⟩ = hashB (decide (sch = 3)) [oneB ⟨decide (sch = 3), true, realm', nonce', authInt, user, pass, method, target, body, cnonce, n⟩, nonce', ⟨(countL n).toArray⟩, cnonce, authInt, twoB ⟨decide (sch = 3), true, realm', nonce', authInt, user, pass, method, target, body, cnonce, n⟩] from by unfold respB; rw [if_neg ai_ne])
      have HTI := Lib.hid (show twoB ⟨decide (sch = 3), true, realm', nonce', authInt, user, pass, method, target, body, cnonce, n⟩ = hashB (decide (sch = 3)) [method, target, hashB (decide (sch = 3)) [body]] from by unfold twoB; rw [if_pos rfl])
      have hbz := hashB_size (decide (sch = 3)) [body]
      obtain ⟨bb, hbb⟩ : ∃ bb, bb = hashB (decide (sch = 3)) [body] := ⟨_, rfl⟩
      have HBB := Lib.hid hbb
      rw [← hbb] at hbz HTI
      clear hbb
      go_wp2_with fail
      go_region_held3 (fun U => U.cell? ⟨w.heap.size, 0, none⟩ = some (.int .i64 sch)) ((refine (HC.out _ ?_).1; repeat (first | exact HF5.out | refine Fr.trans ?_ hf8 | refine Fr.trans ?_ hf7 | apply Fr.alloc | apply Fr.drew))) (first | ((with_reducible refine at_len 1 ?_); go_at_call 74; refine (HH.out _ [body] _ (by repeat (first | exact HW5.out | apply Fr.alloc | apply Fr.drew)) (by first | exact strsAt_new _ _ [body] (Nat.le_of_ble_eq_true rfl) | exact strsAt_drew (strsAt_new _ _ [body] (Nat.le_of_ble_eq_true rfl))) (Nat.le_of_ble_eq_true rfl) (by rw [join1]; omega)).mono ?_; rw [← HBB.out]; rintro e w7 ⟨rfl, hf7⟩) | ((with_reducible refine at_len 3 ?_); go_at_call 74; refine (HH.out _ [method, target, bb] _ (by repeat (first | exact HW5.out | refine Fr.trans ?_ hf7 | apply Fr.alloc | apply Fr.drew)) (by first | exact strsAt_new _ _ [method, target, bb] (Nat.le_of_ble_eq_true rfl) | exact strsAt_drew (strsAt_new _ _ [method, target, bb] (Nat.le_of_ble_eq_true rfl))) (Nat.le_of_ble_eq_true rfl) (by rw [join3]; omega)).mono ?_; rintro e w8 ⟨rfl, hf8⟩))
      all_goals
        have HF6 := Lib.hid (show Fr noB wb w8 from by repeat (first | exact HF5.out | refine Fr.trans ?_ hf8 | refine Fr.trans ?_ hf7 | apply Fr.alloc | apply Fr.drew))
        have HW6 := Lib.hid (hfb.trans HF6.out)
        clear hf7 hf8 d0 d2 d4 d5
        obtain ⟨d0, d2, d4, d5⟩ := HC.out w8 HF6.out
        obtain ⟨t2, ht2⟩ : ∃ t2, t2 = hashB (decide (sch = 3)) [method, target, bb] := ⟨_, rfl⟩
        have htz2 : t2.size ≤ 64 := by rw [ht2]; exact hashB_size _ _
        rw [← ht2]
        have HT := Lib.hid (HTI.out.trans ht2.symm)
        have HR := Lib.hid HRI.out
        clear ht2
        have hai2 : ¬ authInt.toList = [] := by rw [hai]; simp
        have HC3 := Lib.hid (fun (U : World) (hU : Fr noB wb U) => And.intro (HC.out U hU).1 (And.intro (HC.out U hU).2.1 (HC.out U hU).2.2.2))
        clear htz
        go_wp2_with fail
        go_region_held3 (fun U => U.cell? ⟨w.heap.size, 0, none⟩ = some (.int .i64 sch) ∧ U.cell? ⟨w.heap.size, 2, none⟩ = some (.string nonce') ∧ U.cell? ⟨w.heap.size, 5, none⟩ = some (.string authInt)) ((refine HC3.out _ ?_; repeat (first | exact HF6.out | refine Fr.trans ?_ hf8 | refine Fr.trans ?_ hf7 | apply Fr.alloc | apply Fr.drew))) (first | (go_at_call 25; refine (Count_any n _ zn (HDB.out.fr (by repeat (first | exact HW6.out | refine Fr.trans ?_ hf7 | apply Fr.alloc | apply Fr.drew)))).mono ?_; rintro e w7 ⟨rfl, hf7⟩) | (go_at_call 74; refine (HH.out _ [o1, nonce', ⟨(countL n).toArray⟩, cnonce, authInt, t2] _ (by repeat (first | exact HW6.out | refine Fr.trans ?_ hf7 | apply Fr.alloc | apply Fr.drew)) (strsAt_new _ _ _ (Nat.le_of_ble_eq_true rfl)) (Nat.le_of_ble_eq_true rfl) (by rw [join6]; have := count_size n; omega)).mono ?_; rintro e w8 ⟨rfl, hf8⟩))
        all_goals
          have HFIN := Lib.hid (show Fr noB w w8 from Fr.trans (by repeat (first | exact HW6.out | refine Fr.trans ?_ hf7 | apply Fr.alloc | apply Fr.drew)) hf8)
          clear hf8
          go_wp2
          go_ret
          exact ⟨by rw [HR.out, HO.out, HT.out]; rfl, HFIN.out⟩
    · have hq1 : ¬ qop'.toList = [97, 117, 116, 104, 45, 105, 110, 116] := fun h => hqi (by rw [ByteArray.toList_eq] at h; exact Go.WideShapes.bytes_inj h)
      have hq2 : (qop'.toList == [97, 117, 116, 104, 45, 105, 110, 116]) = false := by simp [hq1]
      obtain ⟨t2, ht2⟩ : ∃ t2, t2 = t0 := ⟨_, rfl⟩
      rw [← ht2] at htz ⊢
      have HT := Lib.hid (show twoB ⟨decide (sch = 3), true, realm', nonce', qop', user, pass, method, target, body, cnonce, n⟩ = t2 by rw [ht2, HT0.out]; unfold twoB; rw [if_neg hqi])
      clear ht2
      by_cases hqe : qop' = .empty
      · subst hqe
        have hqe2 : ByteArray.empty.toList = [] := by decide +kernel
        have HR := Lib.hid (show respB ⟨decide (sch = 3), true, realm', nonce', .empty, user, pass, method, target, body, cnonce, n⟩ = hashB (decide (sch = 3)) [oneB ⟨decide (sch = 3), true, realm', nonce', .empty, user, pass, method, target, body, cnonce, n⟩, nonce', twoB ⟨decide (sch = 3), true, realm', nonce', .empty, user, pass, method, target, body, cnonce, n⟩] from by unfold respB; rw [if_pos rfl])
        go_wp2_with fail
        refine (HH.out _ [o1, nonce', t2] _ (by repeat (first | exact HW5.out | refine Fr.trans ?_ hf7 | apply Fr.alloc | apply Fr.drew)) (strsAt_new _ _ [o1, nonce', t2] (Nat.le_of_ble_eq_true rfl)) (Nat.le_of_ble_eq_true rfl) (by rw [join3]; omega)).mono ?_
        rintro e u9 ⟨rfl, hf9⟩
        go_wp2
        go_ret
        exact ⟨by rw [HR.out, HO.out, HT.out]; rfl, Fr.trans (by repeat (first | exact HW5.out | refine Fr.trans ?_ hf7 | apply Fr.alloc | apply Fr.drew)) hf9⟩
      · have hq3 : ¬ qop'.toList = [] := fun h => hqe (by rw [ByteArray.toList_eq] at h; exact Go.WideShapes.bytes_inj h)
        have hq4 : qop'.toList.isEmpty = false := by cases hz : qop'.toList with | nil => exact absurd hz hq3 | cons _ _ => rfl
        have HR := Lib.hid (show respB ⟨decide (sch = 3), true, realm', nonce', qop', user, pass, method, target, body, cnonce, n⟩ = hashB (decide (sch = 3)) [oneB ⟨decide (sch = 3), true, realm', nonce', qop', user, pass, method, target, body, cnonce, n⟩, nonce', ⟨(countL n).toArray⟩, cnonce, qop', twoB ⟨decide (sch = 3), true, realm', nonce', qop', user, pass, method, target, body, cnonce, n⟩] from by unfold respB; rw [if_neg hqe])
        have HC3 := Lib.hid (fun (U : World) (hU : Fr noB wb U) => And.intro (HC.out U hU).1 (And.intro (HC.out U hU).2.1 (HC.out U hU).2.2.2))
        go_wp2_with fail
        go_region_held3 (fun U => U.cell? ⟨w.heap.size, 0, none⟩ = some (.int .i64 sch) ∧ U.cell? ⟨w.heap.size, 2, none⟩ = some (.string nonce') ∧ U.cell? ⟨w.heap.size, 5, none⟩ = some (.string qop')) ((refine HC3.out _ ?_; repeat (first | exact HF5.out | refine Fr.trans ?_ hf8 | refine Fr.trans ?_ hf7 | apply Fr.alloc | apply Fr.drew))) (first | (go_at_call 25; refine (Count_any n _ zn (HDB.out.fr (by repeat (first | exact HW5.out | refine Fr.trans ?_ hf7 | apply Fr.alloc | apply Fr.drew)))).mono ?_; rintro e w7 ⟨rfl, hf7⟩) | (go_at_call 74; refine (HH.out _ [o1, nonce', ⟨(countL n).toArray⟩, cnonce, qop', t2] _ (by repeat (first | exact HW5.out | refine Fr.trans ?_ hf7 | apply Fr.alloc | apply Fr.drew)) (strsAt_new _ _ _ (Nat.le_of_ble_eq_true rfl)) (Nat.le_of_ble_eq_true rfl) (by rw [join6]; have := count_size n; omega)).mono ?_; rintro e w8 ⟨rfl, hf8⟩))
        all_goals
          have HFIN := Lib.hid (show Fr noB w w8 from Fr.trans (by repeat (first | exact HW5.out | refine Fr.trans ?_ hf7 | apply Fr.alloc | apply Fr.drew)) hf8)
          clear hf8
          go_wp2
          go_ret
          exact ⟨by rw [HR.out, HO.out, HT.out]; rfl, HFIN.out⟩
end Go.Proofs.YtghimbpihmehoaaDoor
