/- proof.Digest at whatever arguments. Walks: coding.Base64. Letters of 64, read: plain forms. Base64: what is written is read, and just so. Package proof: Basic. The laws' pick. The laws' proved: a fact on proofs. -/
import Derived.Test.YtkoobhgedoanhaaGreatDoorDigestKnownB9
import Derived.Test.YtkoobhgedoanhaaGreatDoorDigestKnownB10
import Derived.Test.YtkoobhgedoanhaaGreatDoorDigestKnownB6
import Derived.Test.YtkoobhgedoanhaaGreatDoorDigestKnownB2
import Derived.Test.YtkoobhgedoanhaaGreatDoorDigestKnownB3
import Derived.Test.YtkoobhgedoanhaaGreatDoorDigestKnownB1
import Derived.IntWalk
import Derived.Test.YtkoobhgedoanhaaGreatDoorDigestKnownB8
import Derived.KernelRfl
namespace Go.Proofs.YtkoobhgedoanhaaGreatDoor
open Go.RowKit

theorem len_names : nUser.length = 8 ∧ nRealm.length = 5 ∧ nNonce.length = 5 ∧ nUri.length = 3 ∧ nResp.length = 8 ∧ nAlg.length = 9 ∧ nQop.length = 3 ∧ nNc.length = 2 ∧ nCnonce.length = 6 ∧ nOpaque.length = 6 ∧ nDig.length = 6 := by decide
def itemsW (l : List Item) : Nat := (l.map fun i => i.1.length + 2 * i.2.1.length + 5).sum
theorem rawT_len (l : List Item) : (rawT l).length ≤ 7 + itemsW l := by
  suffices h : ∀ (k : Nat) (l : List Item), l.length = k → (rawT l).length ≤ 7 + itemsW l from h _ l rfl
  intro k
  induction k with
  | zero => intro l h; rw [List.length_eq_zero_iff.1 h]; decide
  | succ k ih =>
    intro l h
    obtain ⟨m, ⟨nm, v, q⟩, rfl⟩ : ∃ m a, l = m ++ [a] := ⟨l.dropLast, l.getLast (by intro e; rw [e] at h; cases h), (List.dropLast_concat_getLast _).symm⟩
    have hm := ih m (by simp at h; exact h)
    rw [← addT_raw]
    have h1 := addT_len (rawT m) nm (valQ q v)
    have h2 := valQ_len q v
    have h3 : itemsW (m ++ [(nm, v, q)]) = itemsW m + (nm.length + 2 * v.length + 5) := by unfold itemsW; simp
    omega
theorem dig_len {d : DigIn} (h : d.fair = true) (hr : d.resp.length ≤ 64) (hc : d.count.length ≤ 8) (hs : d.user.length + d.realm.length + d.nonce.length + d.uri.length + d.qop.length + d.cnonce.length + d.opaq.length ≤ 500) : d.text.length ≤ 3000 := by
  rw [← DigIn.text_of h]
  have h1 := rawT_len d.items
  obtain ⟨l1, l2, l3, l4, l5, l6, l7, l8, l9, l10, _⟩ := len_names
  have hn : (nameL d.scheme d.sess).length ≤ 12 := by unfold nameL; split <;> cases d.sess <;> decide
  have h2 : itemsW d.items ≤ itemsW (headI d.user d.realm d.nonce d.uri d.resp (nameL d.scheme d.sess)) + (itemsW [(nQop, d.qop, false), (nNc, d.count, false)] + (itemsW [(nCnonce, d.cnonce, true)] + itemsW [(nOpaque, d.opaq, true)])) := by
    have ha : ∀ a b : List Item, itemsW (a ++ b) = itemsW a + itemsW b := fun a b => by unfold itemsW; simp
    unfold DigIn.items
    rw [ha, ha, ha]
    have e1 : itemsW (twoI d.qop d.count) ≤ itemsW [(nQop, d.qop, false), (nNc, d.count, false)] := by
      unfold twoI; split
      · exact Nat.zero_le _
      · exact Nat.le_refl _
    have e2 : itemsW (cnI d.qop d.sess d.cnonce) ≤ itemsW [(nCnonce, d.cnonce, true)] := by
      unfold cnI; split
      · exact Nat.le_refl _
      · exact Nat.zero_le _
    have e3 : itemsW (opI d.opaq) ≤ itemsW [(nOpaque, d.opaq, true)] := by
      unfold opI; split
      · exact Nat.zero_le _
      · exact Nat.le_refl _
    omega
  unfold headI itemsW at h2
  simp only [List.map_cons, List.map_nil, List.sum_cons, List.sum_nil] at h2
  unfold itemsW at h1
  omega
/-- what a call of proof.Digest gives -/
def DigGives (sch : Int) (opaq : ByteArray) (x : RespIn) (w : World) (e : Ending) (w' : World) : Prop :=
  Fr noB w w' ∧ ((∃ t v, e = .returned (.tuple #[.string ⟨#[]⟩, .iface t v])) ∨ ((digOf sch opaq x).Ok ∧ 1 ≤ x.n ∧ x.n ≤ 4294967295 ∧ e = .returned (.tuple #[.string (bA (digOf sch opaq x).text), .nilIface])))
set_option maxRecDepth 100000 in
set_option maxHeartbeats 4000000 in
theorem Digest_any (sch : Int) (realm nonce opaq qop user pass method target body cnonce : ByteArray) (sess stale : Bool) (dom : Value) (n : Int) (w : World) (hone : dom.oneCell' = true)
    (x1 : realm.size ≤ 500) (x2 : nonce.size ≤ 500) (x3 : opaq.size ≤ 500) (x4 : user.size ≤ 500) (x5 : pass.size ≤ 500) (x6 : method.size ≤ 500) (x7 : target.size ≤ 500) (x8 : body.size ≤ 500) (x9 : cnonce.size ≤ 500)
    (hdb : TabAt w 12 .u8 dbL) (hh : HashOk sch w) :
    Calls Tryz.prog 16 #[.agg #[.int .i64 sch, .string realm, .string nonce, .string opaq, .bool sess, .string qop, .bool stale, dom], .agg #[.string user, .string pass], .string method, .string target, .string body, .string cnonce, .int .i64 n] w (DigGives sch opaq ⟨decide (sch = 3), sess, realm, nonce, qop, user, pass, method, target, body, cnonce, n.toNat⟩ w) := by
  have qcases : ∀ l : Bs, qop.toList = l → qop = ⟨l.toArray⟩ := fun l h => Go.WideShapes.bytes_inj (by rw [← ByteArray.toList_eq, h])
  by_cases hsq : (sch = 2 ∨ sch = 3) ∧ (qop.toList = [] ∨ qop.toList = [97, 117, 116, 104] ∨ qop.toList = [97, 117, 116, 104, 45, 105, 110, 116])
  · obtain ⟨hs, hq⟩ := hsq
    by_cases hn : 1 ≤ n ∧ n ≤ 4294967295
    · obtain ⟨hn1, hn2⟩ := hn
      obtain ⟨k, rfl⟩ : ∃ k : Nat, n = (k : Int) := ⟨n.toNat, by omega⟩
      have key : Calls Tryz.prog 16 #[.agg #[.int .i64 sch, .string realm, .string nonce, .string opaq, .bool sess, .string qop, .bool stale, dom], .agg #[.string user, .string pass], .string method, .string target, .string body, .string cnonce, .int .i64 (k : Int)] w (DigPost sch opaq ⟨decide (sch = 3), sess, realm, nonce, qop, user, pass, method, target, body, cnonce, k⟩ k w) := by
        rcases hq with hq | hq | hq
        · exact Digest_E sch realm nonce opaq qop user pass method target body cnonce sess stale dom k w hone (qcases _ hq) hs (by omega) (by omega) x1 x2 x3 x4 x5 x6 x7 x8 x9 hdb hh
        · exact Digest_A sch realm nonce opaq qop user pass method target body cnonce sess stale dom k w hone (qcases _ hq) hs (by omega) (by omega) x1 x2 x3 x4 x5 x6 x7 x8 x9 hdb hh
        · exact Digest_I sch realm nonce opaq qop user pass method target body cnonce sess stale dom k w hone (qcases _ hq) hs (by omega) (by omega) x1 x2 x3 x4 x5 x6 x7 x8 x9 hdb hh
      refine key.mono ?_
      rintro e w' ⟨hf, hm⟩
      refine ⟨hf, ?_⟩
      rcases hm with hm | ⟨h1, h2, h3, h4, h5, h6⟩
      · exact Or.inl hm
      · refine Or.inr ⟨⟨h1, ?_, count_word _, h5⟩, h3, h4, h6⟩
        show qop.data.toList = [] ∨ qop.data.toList = nAuth ∨ qop.data.toList = nInt
        rw [← ByteArray.toList_eq]
        exact hq
    · have hnn : n < 1 ∨ 4294967295 < n := by omega
      clear hn
      have HG : ∀ t v (w' : World), Fr noB w w' → DigGives sch opaq ⟨decide (sch = 3), sess, realm, nonce, qop, user, pass, method, target, body, cnonce, n.toNat⟩ w (.returned (.tuple #[.string ⟨#[]⟩, .iface t v])) w' := fun t v w' hf => ⟨hf, Or.inl ⟨t, v, rfl⟩⟩
      have HGG := Lib.hid HG
      clear HG
      generalize DigGives sch opaq ⟨decide (sch = 3), sess, realm, nonce, qop, user, pass, method, target, body, cnonce, n.toNat⟩ w = Q at *
      have hf2 : Fr noB w ((w.alloc (.cells #[.int .i64 sch, .string realm, .string nonce, .string opaq, .bool sess, .string qop, .bool stale, dom] 24)).alloc (.cells #[.string user, .string pass] 26)) := ((Fr.refl noB w).alloc _).alloc _
      have HF2 := Lib.hid hf2
      clear hf2
      rcases hnn with hn | hn
      · rcases hs with rfl | rfl <;> rcases hq with hq | hq | hq <;> obtain rfl := qcases _ hq <;> clear hq <;>
          (go_enter Tryz.func16, Tryz.ntmps16
           go_wp2
           (first | go_ret2 | skip)
           exact HGG.out _ _ _ HF2.out)
      · have hn0 : ¬ n < 1 := by omega
        rcases hs with rfl | rfl <;> rcases hq with hq | hq | hq <;> obtain rfl := qcases _ hq <;> clear hq <;>
          (go_enter Tryz.func16, Tryz.ntmps16
           go_wp2
           (first | go_ret2 | skip)
           exact HGG.out _ _ _ HF2.out)
  · have HG : ∀ t v (w' : World), Fr noB w w' → DigGives sch opaq ⟨decide (sch = 3), sess, realm, nonce, qop, user, pass, method, target, body, cnonce, n.toNat⟩ w (.returned (.tuple #[.string ⟨#[]⟩, .iface t v])) w' := fun t v w' hf => ⟨hf, Or.inl ⟨t, v, rfl⟩⟩
    have HGG := Lib.hid HG
    clear HG
    generalize DigGives sch opaq ⟨decide (sch = 3), sess, realm, nonce, qop, user, pass, method, target, body, cnonce, n.toNat⟩ w = Q at *
    have hf2 : Fr noB w ((w.alloc (.cells #[.int .i64 sch, .string realm, .string nonce, .string opaq, .bool sess, .string qop, .bool stale, dom] 24)).alloc (.cells #[.string user, .string pass] 26)) := ((Fr.refl noB w).alloc _).alloc _
    have HF2 := Lib.hid hf2
    clear hf2
    by_cases hs : sch = 2 ∨ sch = 3
    · have hq : ¬ (qop.toList = [] ∨ qop.toList = [97, 117, 116, 104] ∨ qop.toList = [97, 117, 116, 104, 45, 105, 110, 116]) := fun h => hsq ⟨hs, h⟩
      have q1 : ¬ qop.toList = [] := fun h => hq (Or.inl h)
      have q2 : ¬ qop.toList = [97, 117, 116, 104] := fun h => hq (Or.inr (Or.inl h))
      have q3 : ¬ qop.toList = [97, 117, 116, 104, 45, 105, 110, 116] := fun h => hq (Or.inr (Or.inr h))
      have q4 : (qop.toList == []) = false := beq_eq_false_iff_ne.2 q1
      have q5 : (qop.toList == [97, 117, 116, 104]) = false := beq_eq_false_iff_ne.2 q2
      have q6 : (qop.toList == [97, 117, 116, 104, 45, 105, 110, 116]) = false := beq_eq_false_iff_ne.2 q3
      have q7 : qop.toList.isEmpty = false := by cases hz : qop.toList with | nil => exact absurd hz q1 | cons _ _ => rfl
      clear hsq hq qcases
      rcases hs with rfl | rfl
      · go_enter Tryz.func16, Tryz.ntmps16
        go_wp2
        (first | go_ret2 | skip)
        exact HGG.out _ _ _ HF2.out
      · go_enter Tryz.func16, Tryz.ntmps16
        go_wp2
        (first | go_ret2 | skip)
        exact HGG.out _ _ _ HF2.out
    · have s2 : ¬ sch = 2 := fun h => hs (Or.inl h)
      have s3 : ¬ sch = 3 := fun h => hs (Or.inr h)
      clear hs hsq qcases
      go_enter Tryz.func16, Tryz.ntmps16
      go_wp2
      (first | go_ret2 | skip)
      exact HGG.out _ _ _ HF2.out
end Go.Proofs.YtkoobhgedoanhaaGreatDoor

namespace Go.Proofs.YtkoobhgedoanhaaGreatDoor
open Go.RowKit

/-- a letter of base 64 -/
def letB (n : Nat) : UInt8 := if n < 26 then (n + 65).toUInt8 else if n < 52 then (n + 71).toUInt8 else if n < 62 then (n - 4).toUInt8 else if n = 62 then 43 else 47
def val3 (a b c : UInt8) : Nat := a.toNat * 65536 + b.toNat * 256 + c.toNat
def sixB (v i : Nat) : UInt8 := letB (v / 2 ^ (18 - 6 * i) % 64)
def b64L : List UInt8 → List UInt8
  | [] => []
  | [a] => [sixB (val3 a 0 0) 0, sixB (val3 a 0 0) 1, 61, 61]
  | [a, b] => [sixB (val3 a b 0) 0, sixB (val3 a b 0) 1, sixB (val3 a b 0) 2, 61]
  | a :: b :: c :: r => sixB (val3 a b c) 0 :: sixB (val3 a b c) 1 :: sixB (val3 a b c) 2 :: sixB (val3 a b c) 3 :: b64L r

/-- the first k bytes (noughts behind the last) as one number -/
def vpart (l : List UInt8) : Nat → Nat
  | 0 => 0
  | k + 1 => vpart l k * 256 + (l.getD k 0).toNat
theorem vpart_lt (l : List UInt8) : ∀ k, vpart l k < 256 ^ k
  | 0 => by simp [vpart]
  | k + 1 => by
    have h := vpart_lt l k
    have h2 := (l.getD k 0).toNat_lt
    rw [vpart, Nat.pow_succ]
    omega
theorem or_low (v x : Nat) (hv : v < 4294967296) (hx : x < 256) : bits .or .i64 ((v : Int) * 256) (x : Int) = ((v * 256 + x : Nat) : Int) := by
  have hm : ((v : Int) * 256) = ((v * 256 : Nat) : Int) := by omega
  rw [hm]
  have h1 : (BitVec.ofInt 64 ((v * 256 : Nat) : Int)).toNat = v * 256 := by
    rw [BitVec.ofInt_natCast, BitVec.toNat_ofNat]; exact Nat.mod_eq_of_lt (by omega)
  have h2 : (BitVec.ofInt 64 (x : Int)).toNat = x := by
    rw [BitVec.ofInt_natCast, BitVec.toNat_ofNat]; exact Nat.mod_eq_of_lt (by omega)
  show IntKind.i64.wrap ((BitVec.ofInt 64 ((v * 256 : Nat) : Int) ||| BitVec.ofInt 64 (x : Int)).toNat : Int) = _
  have h3 : v * 256 ||| x = v * 256 + x := by
    have h := Nat.shiftLeft_add_eq_or_of_lt (show x < 2 ^ 8 from hx) v
    rw [Nat.shiftLeft_eq] at h
    exact h.symm
  rw [BitVec.toNat_or, h1, h2, h3, IntWalk.i64_left]
  exact IntWalk.wrap64_in _ (by omega)
theorem vpart_at (r : ByteArray) (k : Nat) (h : k < r.size) : vpart r.data.toList (k + 1) = vpart r.data.toList k * 256 + r[k].toNat := by
  rw [vpart, List.getD_eq_getElem?_getD, byte_at r k h]; rfl
theorem vpart_off (r : ByteArray) (k : Nat) (h : ¬ k < r.size) : vpart r.data.toList (k + 1) = vpart r.data.toList k * 256 := by
  rw [vpart, List.getD_eq_getElem?_getD, byte_off r k h]; simp only [Option.getD_none]; exact Nat.add_zero _
theorem vpart_val (r : ByteArray) : vpart r.data.toList 3 = val3 (r.data.toList.getD 0 0) (r.data.toList.getD 1 0) (r.data.toList.getD 2 0) := by
  show ((0 * 256 + _) * 256 + _) * 256 + _ = _ * 65536 + _ * 256 + _
  rw [Nat.zero_mul, Nat.zero_add, Nat.add_mul, Nat.mul_assoc]
def outL (v n : Nat) : List UInt8 := [sixB v 0, sixB v 1, if 2 ≤ n then sixB v 2 else 61, if 3 ≤ n then sixB v 3 else 61]
def O4Rel (w : World) (acc : List UInt8) (v n : Nat) (i : Value) (wr : World) : Prop :=
  ∃ k : Nat, k ≤ 4 ∧ i = .int .i64 k ∧ Bld w.heap.size w.heap.size (acc ++ (outL v n).take k) wr ∧ Fr noB w wr ∧ w.heap.size ≤ wr.heap.size
set_option maxRecDepth 100000 in
theorem letterAt : ∀ n (h : n < 64), (⟨#[65, 66, 67, 68, 69, 70, 71, 72, 73, 74, 75, 76, 77, 78, 79, 80, 81, 82, 83, 84, 85, 86, 87, 88, 89, 90, 97, 98, 99, 100, 101, 102, 103, 104, 105, 106, 107, 108, 109, 110, 111, 112, 113, 114, 115, 116, 117, 118, 119, 120, 121, 122, 48, 49, 50, 51, 52, 53, 54, 55, 56, 57, 43, 47]⟩ : ByteArray)[n]'h = letB n := by decide +kernel
theorem and63 (v i : Nat) (hv : v < 16777216) : ∃ m : Nat, m < 64 ∧ letB m = sixB v i ∧ bits .and .i64 ((v / 2 ^ (18 - 6 * i) : Nat) : Int) 63 = (m : Int) := by
  refine ⟨v / 2 ^ (18 - 6 * i) % 64, Nat.mod_lt _ (by decide), rfl, ?_⟩
  have hx : v / 2 ^ (18 - 6 * i) < 16777216 := Nat.lt_of_le_of_lt (Nat.div_le_self _ _) hv
  generalize v / 2 ^ (18 - 6 * i) = x at hx
  have h1 : (BitVec.ofInt 64 (x : Int)).toNat = x := by
    rw [BitVec.ofInt_natCast, BitVec.toNat_ofNat]; exact Nat.mod_eq_of_lt (by omega)
  have h2 : (BitVec.ofInt 64 63).toNat = 63 := by decide
  show IntKind.i64.wrap ((BitVec.ofInt 64 (x : Int) &&& BitVec.ofInt 64 63).toNat : Int) = _
  rw [BitVec.toNat_and, h1, h2, Nat.and_two_pow_sub_one_eq_mod x 6, IntWalk.i64_left]
  exact IntWalk.wrap64_in _ (by omega)
theorem ext_list (r : ByteArray) (n : Nat) : (r.extract n r.size).data.toList = r.data.toList.drop n := by
  rw [ByteArray.data_extract, Array.toList_extract]
  show (r.data.toList.drop n).take (r.data.toList.length - n) = _
  rw [List.take_of_length_le (by simp)]
theorem b64L_list : ∀ (l : List UInt8) (n : Nat), 0 < n → n ≤ 3 → n ≤ l.length → (n < 3 → n = l.length) →
    b64L l = outL (val3 (l.getD 0 0) (l.getD 1 0) (l.getD 2 0)) n ++ b64L (l.drop n)
  | [], n, h0, _, hl, _ => by simp at hl; omega
  | [a], n, h0, _, hl, _ => by
    obtain rfl : n = 1 := by simp at hl; omega
    rfl
  | [a, b], n, h0, _, hl, h => by
    obtain rfl : n = 2 := by simp at hl h; omega
    rfl
  | a :: b :: c :: t, n, h0, h3, hl, h => by
    obtain rfl : n = 3 := by simp at hl h; omega
    rfl
theorem b64L_step (r : ByteArray) (v n : Nat) (hn0 : 0 < n) (hn3 : n ≤ 3) (hnr : n ≤ r.size) (hnk : n < 3 → n = r.size) (hv : v = val3 (r.data.toList.getD 0 0) (r.data.toList.getD 1 0) (r.data.toList.getD 2 0)) :
    b64L r.data.toList = outL v n ++ b64L (r.extract n r.size).data.toList := by
  rw [ext_list, hv]
  exact b64L_list _ n hn0 hn3 hnr hnk
theorem ext_size (r : ByteArray) (n : Nat) : (r.extract n r.size).size = r.size - n := by
  have h : (r.extract n r.size).data.toList.length = (r.data.toList.drop n).length := by rw [ext_list]
  rw [List.length_drop] at h
  exact h
def V3Rel (r : ByteArray) (w0 : World) (v i : Value) (wr : World) : Prop :=
  ∃ k : Nat, k ≤ 3 ∧ i = .int .i64 k ∧ v = .int .i64 (vpart r.data.toList k) ∧ wr = w0
def B64Rel (w : World) (s : ByteArray) (v : Value) (wr : World) : Prop :=
  ∃ (r : ByteArray) (acc : List UInt8), r.size ≤ s.size ∧ v = .string r ∧ acc.length ≤ 4 * (s.size - r.size) ∧ b64L s.data.toList = acc ++ b64L r.data.toList ∧ Bld w.heap.size w.heap.size acc wr ∧ Fr noB w wr ∧ w.heap.size ≤ wr.heap.size
def lenOf : Value → Nat
  | .string r => r.size
  | _ => 0
set_option maxRecDepth 100000 in
set_option maxHeartbeats 4000000 in
theorem Base64_any (s : ByteArray) (w : World) (hs : s.size < 4398046511104) :
    Calls Tryz.prog 105 #[.string s] w fun e w' => e = .returned (.string ⟨(b64L s.data.toList).toArray⟩) ∧ Fr noB w w' := by
  go_enter Tryz.func105, Tryz.ntmps105
  go_wp2
  go_loopw [0] (B64Rel w s) (fun v _ => lenOf v)
  case atStart => exact ⟨s, [], Nat.le_refl _, rfl, by simp, by simp, Bld.new w, (Fr.refl _ _).alloc _, by simp⟩
  case round =>
    obtain ⟨r, acc, hr, rfl, hal, hun, hb, hf, hz⟩ := hrel
    have HUN := Lib.hid hun
    clear hun
    by_cases hr0 : 0 < r.size
    · have hri : (0 : Int) < (r.size : Int) := by omega
      obtain ⟨n, hn0, hn3, hnr, hni, hnk⟩ : ∃ n : Nat, 0 < n ∧ n ≤ 3 ∧ n ≤ r.size ∧ min (3 : Int) (r.size : Int) = (n : Int) ∧ (n < 3 → n = r.size) := ⟨min 3 r.size, by omega, by omega, by omega, by omega, by omega⟩
      go_wp2_with fail
      go_loopw [5, 14] (V3Rel r wr) (fun _ i _ => 3 - (intOf i).toNat)
      case atStart => exact ⟨0, by omega, rfl, rfl, rfl⟩
      case round =>
        obtain ⟨k, hk, rfl, rfl, rfl⟩ := hrel
        by_cases hk3 : k < 3
        · have hki : (k : Int) < 3 := by omega
          have hvb := vpart_lt r.data.toList k
          have hvb2 : vpart r.data.toList k < 65536 := Nat.lt_of_lt_of_le hvb (Nat.le_trans (Nat.pow_le_pow_right (by omega) (show k ≤ 2 by omega)) (by decide))
          have hshl : ¬ (9223372036854775807 : Int) < (vpart r.data.toList k : Int) * 256 := by omega
          by_cases hkn : k < n
          · have hkn' : (k : Int) < (n : Int) := by omega
            have hkr' : k < r.size := by omega
            have hkr : (k : Int) < (r.size : Int) := by omega
            have hst := Lib.hid (vpart_at r k hkr')
            have hxl := r[k].toNat_lt
            go_wp2_with fail
            refine ⟨⟨k + 1, by omega, by go_num, ?_, rfl⟩, by simp [intOf]; omega⟩
            rw [or_low _ _ (Nat.lt_trans hvb2 (by decide)) hxl, hst.out]
          · have hkn' : ¬ (k : Int) < (n : Int) := by omega
            have hst := Lib.hid (vpart_off r k (by omega))
            go_wp2_with fail
            refine ⟨⟨k + 1, by omega, by go_num, ?_, rfl⟩, by simp [intOf]; omega⟩
            rw [hst.out]; rfl
        · have hki : ¬ (k : Int) < 3 := by omega
          have hk' : k = 3 := by omega
          subst hk'
          have hvb := vpart_lt r.data.toList 3
          have hvv := Lib.hid (vpart_val r)
          generalize vpart r.data.toList 3 = v at hvb hvv
          go_wp2_with fail
          go_loopw [29] (O4Rel w acc v n) (fun i _ => 4 - (intOf i).toNat)
          case atStart => exact ⟨0, by omega, rfl, by simpa using hb, hf, hz⟩
          case round =>
            obtain ⟨k, hk, rfl, hb1, hf1, hz1⟩ := hrel
            have hlo : ∀ j, (acc ++ (outL v n).take j).length ≤ 4 * s.size + 4 := by intro j; rw [List.length_append, List.length_take]; show _ + min j 4 ≤ _; omega
            match k, hk, hb1 with
            | 0, _, hb1 =>
              obtain ⟨m, hm, hl, hband⟩ := and63 v 0 hvb
              rw [show (((v / 2 ^ (18 - 6 * 0) : Nat) : Int)) = (v : Int) / 262144 from by omega] at hband
              have hkn : (0 : Int) ≤ (n : Int) := by omega
              have hq : (0 : Int) ≤ (m : Int) ∧ (m : Int) < 64 := by omega
              go_wp2_with fail
              rw [letterAt m hm, hl]
              refine (WriteByte_any _ _ _ (sixB v 0) wr hb1 (by have := hlo 0; omega) hz1).mono ?_
              rintro e w2 ⟨rfl, hb2, hf2⟩
              have hz2 : w.heap.size ≤ w2.heap.size := Nat.le_trans hz1 hf2.size
              have HB2 : Bld w.heap.size w.heap.size (acc ++ (outL v n).take (0 + 1)) w2 := by
                have e : (outL v n).take (0 + 1) = (outL v n).take 0 ++ [(sixB v 0)] := by simp [outL, *]
                rw [e, ← List.append_assoc]; exact hb2
              clear hb1 hb2
              go_wp2
              go_roundw
              case rel => exact ⟨0 + 1, by omega, by go_num, HB2, hf1.thenBelow hf2, hz2⟩
              case measure => simp [intOf]
            | 1, _, hb1 =>
              obtain ⟨m, hm, hl, hband⟩ := and63 v 1 hvb
              rw [show (((v / 2 ^ (18 - 6 * 1) : Nat) : Int)) = (v : Int) / 4096 from by omega] at hband
              have hkn : (1 : Int) ≤ (n : Int) := by omega
              have hq : (0 : Int) ≤ (m : Int) ∧ (m : Int) < 64 := by omega
              go_wp2_with fail
              rw [letterAt m hm, hl]
              refine (WriteByte_any _ _ _ (sixB v 1) wr hb1 (by have := hlo 1; omega) hz1).mono ?_
              rintro e w2 ⟨rfl, hb2, hf2⟩
              have hz2 : w.heap.size ≤ w2.heap.size := Nat.le_trans hz1 hf2.size
              have HB2 : Bld w.heap.size w.heap.size (acc ++ (outL v n).take (1 + 1)) w2 := by
                have e : (outL v n).take (1 + 1) = (outL v n).take 1 ++ [(sixB v 1)] := by simp [outL, *]
                rw [e, ← List.append_assoc]; exact hb2
              clear hb1 hb2
              go_wp2
              go_roundw
              case rel => exact ⟨1 + 1, by omega, by go_num, HB2, hf1.thenBelow hf2, hz2⟩
              case measure => simp [intOf]
            | 2, _, hb1 =>
              obtain ⟨m, hm, hl, hband⟩ := and63 v 2 hvb
              rw [show (((v / 2 ^ (18 - 6 * 2) : Nat) : Int)) = (v : Int) / 64 from by omega] at hband
              by_cases hnk2 : 2 ≤ n
              · have hkn : (2 : Int) ≤ (n : Int) := by omega
                have hq : (0 : Int) ≤ (m : Int) ∧ (m : Int) < 64 := by omega
                go_wp2_with fail
                rw [letterAt m hm, hl]
                refine (WriteByte_any _ _ _ (sixB v 2) wr hb1 (by have := hlo 2; omega) hz1).mono ?_
                rintro e w2 ⟨rfl, hb2, hf2⟩
                have hz2 : w.heap.size ≤ w2.heap.size := Nat.le_trans hz1 hf2.size
                have HB2 : Bld w.heap.size w.heap.size (acc ++ (outL v n).take (2 + 1)) w2 := by
                  have e : (outL v n).take (2 + 1) = (outL v n).take 2 ++ [(sixB v 2)] := by simp [outL, *]
                  rw [e, ← List.append_assoc]; exact hb2
                clear hb1 hb2
                go_wp2
                go_roundw
                case rel => exact ⟨2 + 1, by omega, by go_num, HB2, hf1.thenBelow hf2, hz2⟩
                case measure => simp [intOf]
              · have hkn : ¬ (2 : Int) ≤ (n : Int) := by omega
                go_wp2_with fail
                refine (WriteByte_any _ _ _ 61 wr hb1 (by have := hlo 2; omega) hz1).mono ?_
                rintro e w2 ⟨rfl, hb2, hf2⟩
                have hz2 : w.heap.size ≤ w2.heap.size := Nat.le_trans hz1 hf2.size
                have HB2 : Bld w.heap.size w.heap.size (acc ++ (outL v n).take (2 + 1)) w2 := by
                  have e : (outL v n).take (2 + 1) = (outL v n).take 2 ++ [61] := by simp [outL, *]
                  rw [e, ← List.append_assoc]; exact hb2
                clear hb1 hb2
                go_wp2
                go_roundw
                case rel => exact ⟨2 + 1, by omega, by go_num, HB2, hf1.thenBelow hf2, hz2⟩
                case measure => simp [intOf]
            | 3, _, hb1 =>
              obtain ⟨m, hm, hl, hband⟩ := and63 v 3 hvb
              rw [show (((v / 2 ^ (18 - 6 * 3) : Nat) : Int)) = (v : Int) from by omega] at hband
              by_cases hnk2 : 3 ≤ n
              · have hkn : (3 : Int) ≤ (n : Int) := by omega
                have hq : (0 : Int) ≤ (m : Int) ∧ (m : Int) < 64 := by omega
                go_wp2_with fail
                rw [letterAt m hm, hl]
                refine (WriteByte_any _ _ _ (sixB v 3) wr hb1 (by have := hlo 3; omega) hz1).mono ?_
                rintro e w2 ⟨rfl, hb2, hf2⟩
                have hz2 : w.heap.size ≤ w2.heap.size := Nat.le_trans hz1 hf2.size
                have HB2 : Bld w.heap.size w.heap.size (acc ++ (outL v n).take (3 + 1)) w2 := by
                  have e : (outL v n).take (3 + 1) = (outL v n).take 3 ++ [(sixB v 3)] := by simp [outL, *]
                  rw [e, ← List.append_assoc]; exact hb2
                clear hb1 hb2
                go_wp2
                go_roundw
                case rel => exact ⟨3 + 1, by omega, by go_num, HB2, hf1.thenBelow hf2, hz2⟩
                case measure => simp [intOf]
              · have hkn : ¬ (3 : Int) ≤ (n : Int) := by omega
                go_wp2_with fail
                refine (WriteByte_any _ _ _ 61 wr hb1 (by have := hlo 3; omega) hz1).mono ?_
                rintro e w2 ⟨rfl, hb2, hf2⟩
                have hz2 : w.heap.size ≤ w2.heap.size := Nat.le_trans hz1 hf2.size
                have HB2 : Bld w.heap.size w.heap.size (acc ++ (outL v n).take (3 + 1)) w2 := by
                  have e : (outL v n).take (3 + 1) = (outL v n).take 3 ++ [61] := by simp [outL, *]
                  rw [e, ← List.append_assoc]; exact hb2
                clear hb1 hb2
                go_wp2
                go_roundw
                case rel => exact ⟨3 + 1, by omega, by go_num, HB2, hf1.thenBelow hf2, hz2⟩
                case measure => simp [intOf]
            | 4, _, hb1 =>
              have hout : (outL v n).take 4 = outL v n := rfl
              have hstep := b64L_step r v n hn0 hn3 hnr hnk hvv.out
              go_wp2_with fail
              refine ⟨⟨r.extract n r.size, acc ++ outL v n, ?_, rfl, ?_, ?_, hb1, hf1, hz1⟩, ?_⟩
              · rw [ext_size]; omega
              · rw [ext_size, List.length_append]
                have hn4 : (outL v n).length = 4 := rfl
                omega
              · rw [HUN.out, hstep, List.append_assoc]
              · show (r.extract n r.size).size < r.size
                rw [ext_size]; omega
    · have hri : ¬ (0 : Int) < (r.size : Int) := by omega
      have hfin : b64L s.data.toList = acc := by rw [HUN.out, show r.data.toList = [] from List.eq_nil_of_length_eq_zero (show r.size = 0 by omega)]; simp [b64L]
      go_wp2_with fail
      refine (BString_any _ _ _ wr hb hz).mono ?_
      rintro e w1 ⟨rfl, hf1⟩
      go_wp2
      go_ret
      rw [hfin]
      exact ⟨rfl, hf.thenBelow hf1⟩
end Go.Proofs.YtkoobhgedoanhaaGreatDoor

namespace Go.Proofs.YtkoobhgedoanhaaGreatDoor
open Go.RowKit

/-- the number that a letter of base 64 is -/
def letN (c : UInt8) : Option Nat := if 65 ≤ c ∧ c ≤ 90 then some (c.toNat - 65) else if 97 ≤ c ∧ c ≤ 122 then some (c.toNat - 71) else if 48 ≤ c ∧ c ≤ 57 then some (c.toNat + 4) else if c = 43 then some 62 else if c = 47 then some 63 else none
def lettersL : List UInt8 := [65, 66, 67, 68, 69, 70, 71, 72, 73, 74, 75, 76, 77, 78, 79, 80, 81, 82, 83, 84, 85, 86, 87, 88, 89, 90, 97, 98, 99, 100, 101, 102, 103, 104, 105, 106, 107, 108, 109, 110, 111, 112, 113, 114, 115, 116, 117, 118, 119, 120, 121, 122, 48, 49, 50, 51, 52, 53, 54, 55, 56, 57, 43, 47]
def letZ (c : UInt8) : Int := match letN c with | some n => (n : Int) | none => -1
set_option maxRecDepth 100000 in
theorem let_all : ∀ n : Fin 256, Lib.indexByte lettersL n.val.toUInt8 = letZ n.val.toUInt8 := by decide +kernel
theorem let_at (c : UInt8) : Lib.indexByte lettersL c = letZ c := by
  have h := let_all ⟨c.toNat, c.toNat_lt⟩
  simpa using h
theorem let_lt_all : ∀ n : Fin 256, ∀ m, letN n.val.toUInt8 = some m → m < 64 := by
  intro n m h
  have hk : ∀ n : Fin 256, (letN n.val.toUInt8).all (· < 64) = true := by decide +kernel
  have := hk n
  rw [h] at this
  simpa using this
theorem let_lt {c : UInt8} {m : Nat} (h : letN c = some m) : m < 64 := let_lt_all ⟨c.toNat, c.toNat_lt⟩ m (by simpa using h)
theorem letZ_none {c : UInt8} (h : letN c = none) : letZ c = -1 := by unfold letZ; rw [h]
theorem letZ_some {c : UInt8} {m : Nat} (h : letN c = some m) : letZ c = (m : Int) := by unfold letZ; rw [h]
theorem LetIdx_any (c : UInt8) (w : World) :
    Calls Tryz.prog 135 #[.string ⟨#[65, 66, 67, 68, 69, 70, 71, 72, 73, 74, 75, 76, 77, 78, 79, 80, 81, 82, 83, 84, 85, 86, 87, 88, 89, 90, 97, 98, 99, 100, 101, 102, 103, 104, 105, 106, 107, 108, 109, 110, 111, 112, 113, 114, 115, 116, 117, 118, 119, 120, 121, 122, 48, 49, 50, 51, 52, 53, 54, 55, 56, 57, 43, 47]⟩, .int .u8 c.toNat] w fun e w' => e = .returned (.int .i64 (letZ c)) ∧ w = w' :=
  (Tryz.strings_IndexByte _ c.toNat w).mono fun e w' ⟨he, hw⟩ => ⟨by
    have hc : ((c.toNat : Int).toNat.toUInt8) = c := by simp
    rw [hc] at he
    rw [he, ← let_at]; rfl, hw.symm⟩

/-- of up to four letters: the number, noughts behind -/
def qv (l : List UInt8) : Nat → Nat
  | 0 => 0
  | j + 1 => qv l j * 64 + (match l[j]? with | some c => (letN c).getD 0 | none => 0)
theorem qv_lt (l : List UInt8) : ∀ j, qv l j < 64 ^ j
  | 0 => by simp [qv]
  | j + 1 => by
    have h := qv_lt l j
    rw [qv, Nat.pow_succ]
    have h2 : (match l[j]? with | some c => (letN c).getD 0 | none => 0) < 64 := by
      cases e : l[j]? with
      | none => simp
      | some c =>
        cases e2 : letN c with
        | none => simp [e2]
        | some m => simpa [e2] using let_lt e2
    omega
def outQ (v m : Nat) : List UInt8 := (List.range m).map fun k => (v / 2 ^ (16 - 8 * k)).toUInt8
/-- the first j of l are letters -/
def allLet (l : List UInt8) (j : Nat) : Bool := (l.take j).all fun c => (letN c).isSome
def quad (l : List UInt8) : Option (List UInt8) := if allLet l 4 then some (outQ (qv l 4) (min 4 l.length - 1)) else none
def unbGo : Nat → List UInt8 → Option (List UInt8)
  | 0, _ => some []
  | q + 1, t => match quad t with
    | none => none
    | some out => (unbGo q (t.drop 4)).map (out ++ ·)
def unb64 (l : List UInt8) : Option (List UInt8) :=
  if l.length % 4 ≠ 0 then none else match unbGo (l.length / 4) (Lib.trimRightB l 61) with
    | none => none
    | some out => if b64L out = l then some out else none
theorem udrop_at (t : ByteArray) (i j : Nat) (h : i + j < t.size) : (t.data.toList.drop i)[j]? = some t[i + j] := by
  rw [List.getElem?_drop]; exact byte_at t (i + j) h
theorem udrop_off (t : ByteArray) (i j : Nat) (h : ¬ i + j < t.size) : (t.data.toList.drop i)[j]? = none := by
  rw [List.getElem?_drop]; exact byte_off t (i + j) h
theorem quad_none {l : List UInt8} {j : Nat} {c : UInt8} (h : l[j]? = some c) (hj : j < 4) (hc : letN c = none) : quad l = none := by
  unfold quad
  rw [if_neg]
  intro ha
  have hm : c ∈ l.take 4 := by
    apply List.mem_of_getElem? (i := j)
    rw [List.getElem?_take_of_lt hj]; exact h
  have := List.all_eq_true.1 ha c hm
  rw [hc] at this
  cases this
theorem quad_some {l : List UInt8} (h : allLet l 4 = true) : quad l = some (outQ (qv l 4) (min 4 l.length - 1)) := by unfold quad; rw [if_pos h]
theorem unbGo_step {p : Nat} {l : List UInt8} (hp : 0 < p) : unbGo p l = match quad l with
    | none => none
    | some out => (unbGo (p - 1) (l.drop 4)).map (out ++ ·) := by
  cases p with
  | zero => exact absurd hp (by omega)
  | succ p => rfl
theorem qv_at {l : List UInt8} {j m : Nat} {c : UInt8} (h : l[j]? = some c) (hc : letN c = some m) : qv l (j + 1) = qv l j * 64 + m := by rw [qv, h]; simp [hc]
theorem qv_off {l : List UInt8} {j : Nat} (h : l[j]? = none) : qv l (j + 1) = qv l j * 64 := by rw [qv, h]; exact Nat.add_zero _
theorem allLet_at {l : List UInt8} {j m : Nat} {c : UInt8} (h : l[j]? = some c) (hc : letN c = some m) (ha : allLet l j = true) : allLet l (j + 1) = true := by
  unfold allLet at ha ⊢
  rw [List.take_add_one, h, List.all_append, ha]
  simp [hc]
theorem allLet_off {l : List UInt8} {j : Nat} (h : l[j]? = none) (ha : allLet l j = true) : allLet l (j + 1) = true := by
  unfold allLet at ha ⊢
  rw [List.take_add_one, h, List.all_append, ha]
  rfl
theorem or_low6 (v x : Nat) (hv : v < 4294967296) (hx : x < 64) : bits .or .i64 ((v : Int) * 64) (x : Int) = ((v * 64 + x : Nat) : Int) := by
  have hm : ((v : Int) * 64) = ((v * 64 : Nat) : Int) := by omega
  rw [hm]
  have h1 : (BitVec.ofInt 64 ((v * 64 : Nat) : Int)).toNat = v * 64 := by
    rw [BitVec.ofInt_natCast, BitVec.toNat_ofNat]; exact Nat.mod_eq_of_lt (by omega)
  have h2 : (BitVec.ofInt 64 (x : Int)).toNat = x := by
    rw [BitVec.ofInt_natCast, BitVec.toNat_ofNat]; exact Nat.mod_eq_of_lt (by omega)
  show IntKind.i64.wrap ((BitVec.ofInt 64 ((v * 64 : Nat) : Int) ||| BitVec.ofInt 64 (x : Int)).toNat : Int) = _
  have h3 : v * 64 ||| x = v * 64 + x := by
    have h := Nat.shiftLeft_add_eq_or_of_lt (show x < 2 ^ 6 from hx) v
    rw [Nat.shiftLeft_eq] at h
    exact h.symm
  rw [BitVec.toNat_or, h1, h2, h3, IntWalk.i64_left]
  exact IntWalk.wrap64_in _ (by omega)
theorem outQ_at (v : Nat) {k m : Nat} (h : k < m) : (outQ v m)[k]? = some (v / 2 ^ (16 - 8 * k)).toUInt8 := by
  unfold outQ
  rw [List.getElem?_map, List.getElem?_range h]; rfl
theorem unb64_none {l : List UInt8} (h : unbGo (l.length / 4) (Lib.trimRightB l 61) = none) : unb64 l = none := by
  unfold unb64; split
  · rfl
  · rw [h]
theorem unb64_some {l out : List UInt8} (h4 : l.length % 4 = 0) (h : unbGo (l.length / 4) (Lib.trimRightB l 61) = some out) : unb64 l = if b64L out = l then some out else none := by
  unfold unb64; rw [if_neg (by omega), h]
end Go.Proofs.YtkoobhgedoanhaaGreatDoor

namespace Go.Proofs.YtkoobhgedoanhaaGreatDoor
open Go.RowKit

theorem let_back_all : ∀ n : Fin 64, letN (letB n.val) = some n.val ∧ letB n.val ≠ 61 := by decide +kernel
theorem let_six (v i : Nat) : letN (sixB v i) = some (v / 2 ^ (18 - 6 * i) % 64) := (let_back_all ⟨_, Nat.mod_lt _ (by decide)⟩).1
theorem six_ne (v i : Nat) : sixB v i ≠ 61 := (let_back_all ⟨_, Nat.mod_lt _ (by decide)⟩).2
theorem val3_lt (a b c : UInt8) : val3 a b c < 16777216 := by
  have := a.toNat_lt; have := b.toNat_lt; have := c.toNat_lt
  unfold val3; omega
theorem outQ3 (a b c : UInt8) : outQ (val3 a b c) 3 = [a, b, c] := by
  have ha := a.toNat_lt; have hb := b.toNat_lt; have hc := c.toNat_lt
  show [(val3 a b c / 65536).toUInt8, (val3 a b c / 256).toUInt8, (val3 a b c / 1).toUInt8] = _
  have h1 : (val3 a b c / 65536).toUInt8 = a := by apply UInt8.toNat_inj.1; unfold val3; simp; omega
  have h2 : (val3 a b c / 256).toUInt8 = b := by apply UInt8.toNat_inj.1; unfold val3; simp; omega
  have h3 : (val3 a b c / 1).toUInt8 = c := by apply UInt8.toNat_inj.1; unfold val3; simp <;> omega
  rw [h1, h2, h3]
theorem outQ2 (a b : UInt8) : outQ (val3 a b 0) 2 = [a, b] := by
  have h := outQ3 a b 0
  have : outQ (val3 a b 0) 2 = (outQ (val3 a b 0) 3).take 2 := rfl
  rw [this, h]; rfl
theorem outQ1 (a : UInt8) : outQ (val3 a 0 0) 1 = [a] := by
  have h := outQ3 a 0 0
  have : outQ (val3 a 0 0) 1 = (outQ (val3 a 0 0) 3).take 1 := rfl
  rw [this, h]; rfl
/-- the letters without what fills up -/
def noPad : List UInt8 → List UInt8
  | [] => []
  | [a] => [sixB (val3 a 0 0) 0, sixB (val3 a 0 0) 1]
  | [a, b] => [sixB (val3 a b 0) 0, sixB (val3 a b 0) 1, sixB (val3 a b 0) 2]
  | a :: b :: c :: r => sixB (val3 a b c) 0 :: sixB (val3 a b c) 1 :: sixB (val3 a b c) 2 :: sixB (val3 a b c) 3 :: noPad r
theorem digits4 (v : Nat) (hv : v < 16777216) : (((0 * 64 + v / 2 ^ (18 - 6 * 0) % 64) * 64 + v / 2 ^ (18 - 6 * 1) % 64) * 64 + v / 2 ^ (18 - 6 * 2) % 64) * 64 + v / 2 ^ (18 - 6 * 3) % 64 = v := by
  show (((0 * 64 + v / 262144 % 64) * 64 + v / 4096 % 64) * 64 + v / 64 % 64) * 64 + v / 1 % 64 = v
  omega
theorem digits3 (a b : Nat) (ha : a < 256) (hb : b < 256) : (((0 * 64 + (a * 65536 + b * 256 + 0) / 2 ^ (18 - 6 * 0) % 64) * 64 + (a * 65536 + b * 256 + 0) / 2 ^ (18 - 6 * 1) % 64) * 64 + (a * 65536 + b * 256 + 0) / 2 ^ (18 - 6 * 2) % 64) * 64 + 0 = a * 65536 + b * 256 + 0 := by
  show (((0 * 64 + (a * 65536 + b * 256 + 0) / 262144 % 64) * 64 + (a * 65536 + b * 256 + 0) / 4096 % 64) * 64 + (a * 65536 + b * 256 + 0) / 64 % 64) * 64 + 0 = _
  omega
theorem digits2 (a : Nat) (ha : a < 256) : (((0 * 64 + (a * 65536 + 0 * 256 + 0) / 2 ^ (18 - 6 * 0) % 64) * 64 + (a * 65536 + 0 * 256 + 0) / 2 ^ (18 - 6 * 1) % 64) * 64 + 0) * 64 + 0 = a * 65536 + 0 * 256 + 0 := by
  show (((0 * 64 + (a * 65536 + 0 * 256 + 0) / 262144 % 64) * 64 + (a * 65536 + 0 * 256 + 0) / 4096 % 64) * 64 + 0) * 64 + 0 = _
  omega
theorem quad4 (a b c : UInt8) (r : List UInt8) : quad (sixB (val3 a b c) 0 :: sixB (val3 a b c) 1 :: sixB (val3 a b c) 2 :: sixB (val3 a b c) 3 :: r) = some [a, b, c] := by
  have hv := val3_lt a b c
  have ha : allLet (sixB (val3 a b c) 0 :: sixB (val3 a b c) 1 :: sixB (val3 a b c) 2 :: sixB (val3 a b c) 3 :: r) 4 = true := by simp [allLet, let_six]
  rw [quad_some ha]
  have hm : min 4 (sixB (val3 a b c) 0 :: sixB (val3 a b c) 1 :: sixB (val3 a b c) 2 :: sixB (val3 a b c) 3 :: r).length - 1 = 3 := by simp only [List.length_cons]; omega
  have hq : qv (sixB (val3 a b c) 0 :: sixB (val3 a b c) 1 :: sixB (val3 a b c) 2 :: sixB (val3 a b c) 3 :: r) 4 = val3 a b c := by
    simp only [qv, List.getElem?_cons_zero, List.getElem?_cons_succ, let_six, Option.getD_some]
    exact digits4 _ hv
  rw [hm, hq, outQ3]
theorem quad3 (a b : UInt8) : quad [sixB (val3 a b 0) 0, sixB (val3 a b 0) 1, sixB (val3 a b 0) 2] = some [a, b] := by
  have ha : allLet [sixB (val3 a b 0) 0, sixB (val3 a b 0) 1, sixB (val3 a b 0) 2] 4 = true := by simp [allLet, let_six]
  rw [quad_some ha]
  have hq : qv [sixB (val3 a b 0) 0, sixB (val3 a b 0) 1, sixB (val3 a b 0) 2] 4 = val3 a b 0 := by
    simp only [qv, List.getElem?_cons_zero, List.getElem?_cons_succ, let_six, Option.getD_some, List.getElem?_nil]
    exact digits3 _ _ a.toNat_lt b.toNat_lt
  rw [hq]
  exact congrArg some (outQ2 a b)
theorem quad2 (a : UInt8) : quad [sixB (val3 a 0 0) 0, sixB (val3 a 0 0) 1] = some [a] := by
  have ha : allLet [sixB (val3 a 0 0) 0, sixB (val3 a 0 0) 1] 4 = true := by simp [allLet, let_six]
  rw [quad_some ha]
  have hq : qv [sixB (val3 a 0 0) 0, sixB (val3 a 0 0) 1] 4 = val3 a 0 0 := by
    simp only [qv, List.getElem?_cons_zero, List.getElem?_cons_succ, let_six, Option.getD_some, List.getElem?_nil]
    exact digits2 _ a.toNat_lt
  rw [hq]
  exact congrArg some (outQ1 a)
theorem b64_len : ∀ l : List UInt8, (b64L l).length = (l.length + 2) / 3 * 4
  | [] => rfl
  | [_] => by simp [b64L]
  | [_, _] => by simp [b64L]
  | a :: b :: c :: r => by
    have ih := b64_len r
    simp only [b64L, List.length_cons] at ih ⊢
    omega
theorem unbGo_noPad : ∀ l : List UInt8, unbGo ((l.length + 2) / 3) (noPad l) = some l
  | [] => rfl
  | [a] => by
    have hl : ([a].length + 2) / 3 = 1 := by simp
    rw [hl, noPad, unbGo_step (by decide), quad2]; rfl
  | [a, b] => by
    have hl : ([a, b].length + 2) / 3 = 1 := by simp
    rw [hl, noPad, unbGo_step (by decide), quad3]; rfl
  | a :: b :: c :: r => by
    have ih := unbGo_noPad r
    have hl : ((a :: b :: c :: r).length + 2) / 3 = (r.length + 2) / 3 + 1 := by simp only [List.length_cons]; omega
    rw [hl, noPad, unbGo_step (Nat.succ_pos _), quad4]
    show (unbGo ((r.length + 2) / 3) (noPad r)).map _ = _
    rw [ih]; rfl
theorem b64_app : ∀ (l m : List UInt8), l.length % 3 = 0 → b64L (l ++ m) = b64L l ++ b64L m
  | [], m, _ => rfl
  | [_], _, h => by simp at h
  | [_, _], _, h => by simp at h
  | a :: b :: c :: r, m, h => by
    have ih := b64_app r m (by simp only [List.length_cons] at h; omega)
    show _ :: _ :: _ :: _ :: b64L (r ++ m) = _ :: _ :: _ :: _ :: (b64L r ++ b64L m)
    rw [ih]
theorem noPad_pad : ∀ l : List UInt8, ∃ p, b64L l = noPad l ++ List.replicate p 61
  | [] => ⟨0, rfl⟩
  | [_] => ⟨2, rfl⟩
  | [_, _] => ⟨1, rfl⟩
  | a :: b :: c :: r => by
    obtain ⟨p, ih⟩ := noPad_pad r
    exact ⟨p, by rw [b64L, noPad, ih]; rfl⟩
theorem noPad_ne : ∀ l : List UInt8, ∀ b ∈ noPad l, b ≠ 61
  | [], b, h => by cases h
  | [_], b, h => by
    simp only [noPad, List.mem_cons, List.not_mem_nil, or_false] at h
    rcases h with rfl | rfl <;> exact six_ne _ _
  | [_, _], b, h => by
    simp only [noPad, List.mem_cons, List.not_mem_nil, or_false] at h
    rcases h with rfl | rfl | rfl <;> exact six_ne _ _
  | x :: y :: z :: r, b, h => by
    simp only [noPad, List.mem_cons] at h
    rcases h with rfl | rfl | rfl | rfl | h
    · exact six_ne _ _
    · exact six_ne _ _
    · exact six_ne _ _
    · exact six_ne _ _
    · exact noPad_ne r b h
theorem trim_b64 (l : List UInt8) : Lib.trimRightB (b64L l) 61 = noPad l := by
  obtain ⟨p, hp⟩ := noPad_pad l
  rw [Lib.trimRightB_take (b64L l) 61 (noPad l).length (by rw [hp]; simp) ?_ ?_, hp, List.take_left]
  · intro j b hj hb
    rw [hp, List.getElem?_append_right hj, List.getElem?_replicate] at hb
    split at hb
    · cases hb; rfl
    · cases hb
  · intro b h0 hb
    rw [hp, List.getElem?_append_left (by omega)] at hb
    exact noPad_ne l b (List.mem_of_getElem? hb)
theorem unb_b64 (l : List UInt8) : unb64 (b64L l) = some l := by
  have hl := b64_len l
  rw [unb64_some (out := l) (by omega) (by rw [trim_b64, hl, Nat.mul_div_cancel _ (by decide)]; exact unbGo_noPad l), if_pos rfl]
theorem b64_unb {t b : List UInt8} (h : unb64 t = some b) : b64L b = t := by
  unfold unb64 at h
  split at h
  · cases h
  · split at h
    · cases h
    · split at h
      · cases h; assumption
      · cases h
theorem strBack2 (a : ByteArray) : (⟨a.data.toList.toArray⟩ : ByteArray) = a := by cases a; simp
end Go.Proofs.YtkoobhgedoanhaaGreatDoor

namespace Go.Proofs.YtkoobhgedoanhaaGreatDoor
open Go.RowKit

def badB (c : UInt8) : Bool := c < 32 || c == 127
def fineB (s : ByteArray) : Bool := s.data.toList.all fun c => !badB c
def basicB (user pass : ByteArray) : ByteArray := ⟨([66, 97, 115, 105, 99, 32] ++ b64L (user.data.toList ++ [58] ++ pass.data.toList)).toArray⟩
def BasicPost (user pass : ByteArray) (e : Ending) : Prop :=
  if 0 ≤ Lib.indexByte user.data.toList 58 then e = .returned (.tuple #[.string ⟨#[]⟩, .iface 93 (.int .i64 1)])
  else if fineB user && fineB pass then e = .returned (.tuple #[.string (basicB user pass), .nilIface])
  else e = .returned (.tuple #[.string ⟨#[]⟩, .iface 93 (.int .i64 3)])
def BsOut (user pass : ByteArray) (w : World) (i : Value) (wr : World) : Prop := ∃ k : Nat, k ≤ 2 ∧ i = .int .i64 k ∧ (0 < k → fineB user = true) ∧ (1 < k → fineB pass = true) ∧ Fr noB w wr
def BsIn (s : ByteArray) (w : World) (i : Value) (wr : World) : Prop := ∃ k : Nat, k ≤ s.size ∧ i = .int .i64 k ∧ (s.data.toList.take k).all (fun c => !badB c) = true ∧ Fr noB w wr
theorem two_at {a b x : ByteArray} {k : Nat} (h : [a, b][k]? = some x) : k = 0 ∧ x = a ∨ k = 1 ∧ x = b := by
  match k, h with
  | 0, h => exact .inl ⟨rfl, by simpa using h.symm⟩
  | 1, h => exact .inr ⟨rfl, by simpa using h.symm⟩
  | k + 2, h => simp at h
set_option maxRecDepth 100000 in
set_option maxHeartbeats 2000000 in
theorem Basic_any (user pass : ByteArray) (w : World) (hu : user.size ≤ 100000) (hp : pass.size ≤ 100000) :
    Calls Tryz.prog 42 #[.agg #[.string user, .string pass]] w fun e w' => BasicPost user pass e ∧ Fr noB w w' := by
  have hfb : Fr noB w (w.alloc (.cells #[.string user, .string pass] 26)) := (Fr.refl noB w).alloc _
  have hblk := new_block w (.cells #[.string user, .string pass] 26)
  by_cases hc : 0 ≤ Lib.indexByte user.data.toList 58
  · have HP := Lib.hid (show ∀ e, BasicPost user pass e ↔ e = .returned (.tuple #[.string ⟨#[]⟩, .iface 93 (.int .i64 1)]) from fun e => by unfold BasicPost; rw [if_pos hc])
    have hd : decide (0 ≤ Lib.indexByte user.data.toList 58) = true := decide_eq_true hc
    go_enter Tryz.func42, Tryz.ntmps42
    go_wp2_with fail
    refine (Tryz.strings_Contains_one user 58 _).mono ?_
    rintro e u1 ⟨rfl, rfl⟩
    rw [hd]
    go_wp2
    go_ret2
    exact ⟨(HP.out _).2 rfl, hfb⟩
  · have hd : decide (0 ≤ Lib.indexByte user.data.toList 58) = false := decide_eq_false hc
    have HBAD := Lib.hid (show (fineB user && fineB pass) = false → BasicPost user pass (.returned (.tuple #[.string ⟨#[]⟩, .iface 93 (.int .i64 3)])) from fun h => by unfold BasicPost; rw [if_neg hc, if_neg (by simp [h])])
    have HOK := Lib.hid (show (fineB user && fineB pass) = true → BasicPost user pass (.returned (.tuple #[.string (basicB user pass), .nilIface])) from fun h => by unfold BasicPost; rw [if_neg hc, if_pos h])
    have HFB := Lib.hid hfb
    have HCA := Lib.hid (show ∀ U, Fr noB (w.alloc (.cells #[.string user, .string pass] 26)) U → U.cell? ⟨w.heap.size, 0, none⟩ = some (.string user) ∧ U.cell? ⟨w.heap.size, 1, none⟩ = some (.string pass) from fun U hU => by
      have hk2 := hU.keep hblk (fun h => h)
      simp [World.cell?, hk2])
    have hfw : Fr noB w ((w.alloc (.cells #[.string user, .string pass] 26)).alloc (.cells #[.string user, .string pass] 9)) := hfb.alloc _
    have hcl : ∀ U, Fr noB ((w.alloc (.cells #[.string user, .string pass] 26)).alloc (.cells #[.string user, .string pass] 9)) U →
        U.cell? ⟨w.heap.size, 0, none⟩ = some (.string user) ∧ U.cell? ⟨w.heap.size, 1, none⟩ = some (.string pass) ∧ ∀ (k : Nat) x, [user, pass][k]? = some x → U.cell? ⟨w.heap.size + 1, k, none⟩ = some (.string x) := fun U hU => by
      have hk1 := hU.keep (((Fr.refl noB _).alloc _).keep hblk (fun h => h)) (fun h => h)
      have hk2 := hU.keep (new_block (w.alloc (.cells #[.string user, .string pass] 26)) (.cells #[.string user, .string pass] 9)) (fun h => h)
      rw [World.size_alloc] at hk2
      refine ⟨by simp [World.cell?, hk1], by simp [World.cell?, hk1], fun k x hx => ?_⟩
      rcases two_at hx with ⟨rfl, rfl⟩ | ⟨rfl, rfl⟩ <;> simp [World.cell?, hk2]
    have HCL := Lib.hid hcl
    have HFW := Lib.hid hfw
    clear hfb hblk hcl hfw
    go_enter Tryz.func42, Tryz.ntmps42
    go_wp2_with fail
    refine (Tryz.strings_Contains_one user 58 _).mono ?_
    rintro e u1 ⟨rfl, rfl⟩
    rw [hd]
    go_wp2
    obtain ⟨wl, hwl⟩ : ∃ wl, wl = (w.alloc (.cells #[.string user, .string pass] 26)).alloc (.cells #[.string user, .string pass] 9) := ⟨_, rfl⟩
    rw [← hwl] at HCL HFW ⊢
    clear hwl
    go_loopw [17] (BsOut user pass wl) (fun i _ => 2 - (intOf i).toNat)
    case atStart => exact ⟨0, by omega, rfl, by omega, by omega, Fr.refl _ _⟩
    case round =>
      obtain ⟨k, hk, rfl, hf0, hf1, hfr⟩ := hrel
      generalize wr = wo at *
      by_cases hk2 : k < 2
      · have hk2i : (k : Int) < 2 := by omega
        obtain ⟨s, hs⟩ : ∃ s, [user, pass][k]? = some s := ⟨_, List.getElem?_eq_getElem (by simpa using hk2)⟩
        have hcell := (HCL.out wo hfr).2.2 k s hs
        have hsz : s.size ≤ 100000 := by rcases two_at hs with ⟨_, rfl⟩ | ⟨_, rfl⟩ <;> assumption
        have HNX := Lib.hid (show fineB s = true → (0 < k + 1 → fineB user = true) ∧ (1 < k + 1 → fineB pass = true) from fun h => by
          rcases two_at hs with ⟨rfl, rfl⟩ | ⟨rfl, rfl⟩
          · exact ⟨fun _ => h, fun h => by omega⟩
          · exact ⟨fun _ => hf0 (by omega), fun _ => h⟩)
        have HNO := Lib.hid (show fineB s = false → (fineB user && fineB pass) = false from fun h => by
          rcases two_at hs with ⟨rfl, rfl⟩ | ⟨rfl, rfl⟩ <;> simp [h])
        clear hs hf0 hf1
        go_wp2
        go_loopw [23] (BsIn s wl) (fun i _ => s.size - (intOf i).toNat)
        case atStart => exact ⟨0, by omega, rfl, rfl, hfr⟩
        case round =>
          obtain ⟨j, hj, rfl, hall, hfr2⟩ := hrel
          by_cases hj2 : j < s.size
          · have hj2i : (j : Int) < (s.size : Int) := by omega
            have hby := byte_at s j hj2
            by_cases hb : badB s[j] = true
            · have HFI := Lib.hid (show fineB s = false by
                unfold fineB
                rw [List.all_eq_false]
                exact ⟨s[j], List.mem_of_getElem? hby, by simp [hb]⟩)
              have hor : s[j].toNat < 32 ∨ s[j].toNat = 127 := by
                unfold badB at hb
                simp only [Bool.or_eq_true, decide_eq_true_eq, beq_iff_eq] at hb
                rcases hb with h | h
                · exact .inl (UInt8.lt_iff_toNat_lt.1 h)
                · exact .inr (by rw [h]; rfl)
              by_cases h32 : s[j].toNat < 32
              · have h32i : (s[j].toNat : Int) < 32 := by omega
                go_wp2
                go_ret2
                exact ⟨HBAD.out (HNO.out HFI.out), HFW.out.trans hfr2⟩
              · have h32i : ¬ (s[j].toNat : Int) < 32 := by omega
                have h127 : s[j].toNat = 127 := by omega
                have h127i : (s[j].toNat : Int) = 127 := by omega
                go_wp2
                go_ret2
                exact ⟨HBAD.out (HNO.out HFI.out), HFW.out.trans hfr2⟩
            · have hor : ¬ s[j].toNat < 32 ∧ ¬ s[j].toNat = 127 := by
                unfold badB at hb
                simp only [Bool.or_eq_true, decide_eq_true_eq, beq_iff_eq, not_or] at hb
                exact ⟨fun h => hb.1 (UInt8.lt_iff_toNat_lt.2 h), fun h => hb.2 (UInt8.toNat_inj.1 h)⟩
              obtain ⟨o1, o2⟩ := hor
              have h32i : ¬ (s[j].toNat : Int) < 32 := by omega
              have h127i : ¬ (s[j].toNat : Int) = 127 := by omega
              have HAL := Lib.hid (show (s.data.toList.take (j + 1)).all (fun c => !badB c) = true by
                rw [List.take_add_one, hby, List.all_append, hall]; simp [hb])
              clear hby hall
              go_wp2
              go_roundw
              case rel => exact ⟨j + 1, by omega, by go_num, HAL.out, hfr2⟩
              case measure => simp [intOf]; omega
          · have hj2i : ¬ (j : Int) < (s.size : Int) := by omega
            have HFI := Lib.hid (show fineB s = true by
              unfold fineB
              rw [List.take_of_length_le (by simp; omega)] at hall
              exact hall)
            clear hall
            go_wp2
            go_roundw
            case rel => exact ⟨k + 1, by omega, by go_num, (HNX.out HFI.out).1, (HNX.out HFI.out).2, hfr2⟩
            case measure => simp [intOf]; omega
      · have hk2i : ¬ (k : Int) < 2 := by omega
        have hok : (fineB user && fineB pass) = true := by rw [hf0 (by omega), hf1 (by omega)]; rfl
        have HPO := Lib.hid (HOK.out hok)
        obtain ⟨c0, c1, _⟩ := HCL.out wo hfr
        have hb1 : ¬ 9223372036854775807 < user.size + 1 := by omega
        have hb2 : ¬ 9223372036854775807 < user.size + 1 + pass.size := by omega
        clear hf0 hf1 hok
        have HB64 := Lib.hid (fun W => Base64_any (user ++ ⟨#[58]⟩ ++ pass) W (by simp [ByteArray.size_append]; show user.size + 1 + pass.size < _; omega))
        have HLB := Lib.hid (show (b64L (user ++ ⟨#[58]⟩ ++ pass).data.toList).length ≤ 400000 from by rw [b64_len]; simp [ByteArray.data_append]; omega)
        have HEQ := Lib.hid (show (⟨#[66, 97, 115, 105, 99, 32]⟩ ++ ⟨(b64L (user ++ ⟨#[58]⟩ ++ pass).data.toList).toArray⟩ : ByteArray) = basicB user pass from by
          apply Go.WideShapes.bytes_inj
          unfold basicB
          simp [ByteArray.data_append])
        go_wp2_with fail
        refine (HB64.out _).mono ?_
        rintro e w7 ⟨rfl, hf7⟩
        generalize b64L (user ++ ⟨#[58]⟩ ++ pass).data.toList = bl at *
        have hb3 : ¬ 9223372036854775807 < 6 + bl.length := by have := HLB.out; omega
        go_wp2
        go_ret2
        rw [← HEQ.out] at HPO
        exact ⟨HPO.out, (HFW.out.trans hfr).trans hf7⟩
end Go.Proofs.YtkoobhgedoanhaaGreatDoor

namespace Go.Proofs.YtkoobhgedoanhaaGreatDoor
open Go.RowKit

/-- pick: one of n that a number stands for -/
def pickI (a n : Int) : Int := (a % 18446744073709551616) % n
theorem pickI_range (a n : Int) (hn : 0 < n) : 0 ≤ pickI a n ∧ pickI a n < n := ⟨Int.emod_nonneg _ (by omega), Int.emod_lt_of_pos _ hn⟩
theorem pick_val (a n : Int) (hn : 0 < n) (hn2 : n < 4611686018427387904) : wrap64 ((IntKind.u64.wrap a).tmod n) = pickI a n := by
  have e : IntKind.u64.wrap a = a % 18446744073709551616 := by simp [IntKind.wrap, IntKind.signed, IntKind.bits]
  rw [e, Int.tmod_eq_emod_of_nonneg (Int.emod_nonneg _ (by decide))]
  have h := pickI_range a n hn
  unfold pickI at h ⊢
  exact IntWalk.wrap64_in _ ⟨by omega, by omega⟩
set_option maxHeartbeats 1000000 in
theorem pick_any (a n : Int) (w : World) (hn : 0 < n) (hn2 : n < 4611686018427387904) :
    Calls Tryz.prog 28 #[.int .i64 a, .int .i64 n] w fun e w' => e = .returned (.int .i64 (pickI a n)) ∧ w = w' := by
  go_enter Tryz.func28, Tryz.ntmps28
  go_wp2
  go_ret
  exact ⟨ret_int (pick_val a n hn hn2), rfl⟩
end Go.Proofs.YtkoobhgedoanhaaGreatDoor

namespace Go.Proofs.YtkoobhgedoanhaaGreatDoor
open Go.RowKit

def rfcIn : RespIn := ⟨false, false, ⟨#[116, 101, 115, 116, 114, 101, 97, 108, 109, 64, 104, 111, 115, 116, 46, 99, 111, 109]⟩, ⟨#[100, 99, 100, 57, 56, 98, 55, 49, 48, 50, 100, 100, 50, 102, 48, 101, 56, 98, 49, 49, 100, 48, 102, 54, 48, 48, 98, 102, 98, 48, 99, 48, 57, 51]⟩, ⟨#[97, 117, 116, 104]⟩, ⟨#[77, 117, 102, 97, 115, 97]⟩, ⟨#[67, 105, 114, 99, 108, 101, 32, 79, 102, 32, 76, 105, 102, 101]⟩, ⟨#[71, 69, 84]⟩, ⟨#[47, 100, 105, 114, 47, 105, 110, 100, 101, 120, 46, 104, 116, 109, 108]⟩, ⟨#[]⟩, ⟨#[48, 97, 52, 102, 49, 49, 51, 98]⟩, 1⟩
set_option maxRecDepth 1000000 in
theorem rfc_resp : respB rfcIn = ⟨#[54, 54, 50, 57, 102, 97, 101, 52, 57, 51, 57, 51, 97, 48, 53, 51, 57, 55, 52, 53, 48, 57, 55, 56, 53, 48, 55, 99, 52, 101, 102, 49]⟩ := by decide +kernel
theorem rfc_basic : basicB ⟨#[65, 108, 97, 100, 100, 105, 110]⟩ ⟨#[111, 112, 101, 110, 32, 115, 101, 115, 97, 109, 101]⟩ = ⟨#[66, 97, 115, 105, 99, 32, 81, 87, 120, 104, 90, 71, 82, 112, 98, 106, 112, 118, 99, 71, 86, 117, 73, 72, 78, 108, 99, 50, 70, 116, 90, 81, 61, 61]⟩ := by decide +kernel
theorem rfc_fine : (fineB ⟨#[65, 108, 97, 100, 100, 105, 110]⟩ && fineB ⟨#[111, 112, 101, 110, 32, 115, 101, 115, 97, 109, 101]⟩) = true := by decide +kernel
theorem rfc_colon : ¬ 0 ≤ Lib.indexByte (⟨#[65, 108, 97, 100, 100, 105, 110]⟩ : ByteArray).data.toList 58 := by decide +kernel
theorem rfc_count : (⟨(countL 255).toArray⟩ : ByteArray) = ⟨#[48, 48, 48, 48, 48, 48, 102, 102]⟩ := by decide +kernel
theorem rfc_small : rfcIn.Small := ⟨by decide, by decide, by decide, by decide, by decide, by decide, by decide, by decide, by decide, by decide⟩
theorem ask_cells {w : World} {g : Nat} (h : w.heap[g]? = some (.cells #[.int .i64 2, .string ⟨#[116, 101, 115, 116, 114, 101, 97, 108, 109, 64, 104, 111, 115, 116, 46, 99, 111, 109]⟩, .string ⟨#[100, 99, 100, 57, 56, 98, 55, 49, 48, 50, 100, 100, 50, 102, 48, 101, 56, 98, 49, 49, 100, 48, 102, 54, 48, 48, 98, 102, 98, 48, 99, 48, 57, 51]⟩, .string ⟨#[]⟩, .bool false, .string ⟨#[97, 117, 116, 104]⟩, .bool false, .slice none 0 0] 24 (0, 0))) :
    w.cell? ⟨g, 0, none⟩ = some (.int .i64 2) ∧ w.cell? ⟨g, 1, none⟩ = some (.string ⟨#[116, 101, 115, 116, 114, 101, 97, 108, 109, 64, 104, 111, 115, 116, 46, 99, 111, 109]⟩) ∧ w.cell? ⟨g, 2, none⟩ = some (.string ⟨#[100, 99, 100, 57, 56, 98, 55, 49, 48, 50, 100, 100, 50, 102, 48, 101, 56, 98, 49, 49, 100, 48, 102, 54, 48, 48, 98, 102, 98, 48, 99, 48, 57, 51]⟩) ∧ w.cell? ⟨g, 3, none⟩ = some (.string ⟨#[]⟩) ∧ w.cell? ⟨g, 4, none⟩ = some (.bool false) ∧ w.cell? ⟨g, 5, none⟩ = some (.string ⟨#[97, 117, 116, 104]⟩) ∧ w.cell? ⟨g, 6, none⟩ = some (.bool false) ∧ w.cell? ⟨g, 7, none⟩ = some (.slice none 0 0) := by
  simp [World.cell?, h]
set_option maxRecDepth 100000 in
set_option maxHeartbeats 4000000 in
theorem proved_any (w : World) (ht : MdTabs w) (hdb : TabAt w 12 .u8 dbL) :
    Calls Tryz.prog 12 #[] w fun e w' => e = .returned (.bool true) ∧ Fr noB w w' := by
  have HT := Lib.hid (And.intro ht hdb)
  have hfa : Fr noB w (w.alloc (.cells #[.int .i64 2, .string ⟨#[116, 101, 115, 116, 114, 101, 97, 108, 109, 64, 104, 111, 115, 116, 46, 99, 111, 109]⟩, .string ⟨#[100, 99, 100, 57, 56, 98, 55, 49, 48, 50, 100, 100, 50, 102, 48, 101, 56, 98, 49, 49, 100, 48, 102, 54, 48, 48, 98, 102, 98, 48, 99, 48, 57, 51]⟩, .string ⟨#[]⟩, .bool false, .string ⟨#[97, 117, 116, 104]⟩, .bool false, .slice none 0 0] 24)) := (Fr.refl noB w).alloc _
  have HFA := Lib.hid hfa
  have HBK := Lib.hid (new_block w (.cells #[.int .i64 2, .string ⟨#[116, 101, 115, 116, 114, 101, 97, 108, 109, 64, 104, 111, 115, 116, 46, 99, 111, 109]⟩, .string ⟨#[100, 99, 100, 57, 56, 98, 55, 49, 48, 50, 100, 100, 50, 102, 48, 101, 56, 98, 49, 49, 100, 48, 102, 54, 48, 48, 98, 102, 98, 48, 99, 48, 57, 51]⟩, .string ⟨#[]⟩, .bool false, .string ⟨#[97, 117, 116, 104]⟩, .bool false, .slice none 0 0] 24))
  clear hfa
  clear ht hdb
  go_enter Tryz.func12, Tryz.ntmps12
  go_wp2_with fail
  refine (Basic_any _ _ _ (by decide) (by decide)).mono ?_
  rintro e u1 ⟨hp, hf1⟩
  have he : e = .returned (.tuple #[.string ⟨#[66, 97, 115, 105, 99, 32, 81, 87, 120, 104, 90, 71, 82, 112, 98, 106, 112, 118, 99, 71, 86, 117, 73, 72, 78, 108, 99, 50, 70, 116, 90, 81, 61, 61]⟩, .nilIface]) := by
    unfold BasicPost at hp
    rw [if_neg rfc_colon, if_pos rfc_fine, rfc_basic] at hp
    exact hp
  subst he
  clear hp
  have HK1 := Lib.hid (hf1.keep HBK.out (fun h => h))
  have HF1 := Lib.hid (HFA.out.trans hf1)
  clear hf1
  go_wp2_with fail
  refine (Count_any 255 u1 (by decide) (HT.out.2.fr HF1.out)).mono ?_
  rintro e u2 ⟨rfl, hf2⟩
  rw [rfc_count]
  obtain ⟨c0, c1, c2, c3, c4, c5, c6, c7⟩ := ask_cells (hf2.keep HK1.out (fun h => h))
  have HF2 := Lib.hid (HF1.out.trans hf2)
  clear hf2
  have HR := Lib.hid (Response_any ⟨2, ⟨#[116, 101, 115, 116, 114, 101, 97, 108, 109, 64, 104, 111, 115, 116, 46, 99, 111, 109]⟩, ⟨#[100, 99, 100, 57, 56, 98, 55, 49, 48, 50, 100, 100, 50, 102, 48, 101, 56, 98, 49, 49, 100, 48, 102, 54, 48, 48, 98, 102, 98, 48, 99, 48, 57, 51]⟩, ⟨#[]⟩, false, ⟨#[97, 117, 116, 104]⟩, false, .slice none 0 0⟩ rfcIn u2 rfc_small rfl rfl rfl rfl rfl rfl (HT.out.2.fr HF2.out) (hash_md 2 (by decide) u2 (HT.out.1.fr HF2.out)))
  go_wp2_with fail
  refine HR.out.mono ?_
  rintro e u3 ⟨rfl, hf3⟩
  rw [rfc_resp]
  go_wp2
  go_ret
  exact ⟨rfl, HF2.out.trans hf3⟩
end Go.Proofs.YtkoobhgedoanhaaGreatDoor
