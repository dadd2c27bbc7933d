/- Package proof: Count: eight digits. Package proof: Response. proof.Digest, walked. -/
import Derived.Test.YtkoobhgedoanhaaGreatDoorDigestKnownB6
import Derived.Test.YtkoobhgedoanhaaGreatDoorDigestKnownB7
import Derived.Laws.Bits64b
import Derived.Deep.RegionHeld3
namespace Go.Proofs.YtkoobhgedoanhaaGreatDoor
open Go.RowKit

def dbL : List Int := [0, 1, 56, 2, 57, 49, 28, 3, 61, 58, 42, 50, 38, 29, 17, 4, 62, 47, 59, 36, 45, 43, 51, 22, 53, 39, 33, 30, 24, 18, 12, 5, 63, 55, 48, 27, 60, 41, 37, 16, 46, 35, 44, 21, 52, 32, 23, 11, 54, 26, 40, 15, 34, 20, 31, 10, 25, 14, 19, 9, 13, 8, 7, 6]
theorem DbTab_laid {W : World} {laid : List (String × DataW Unit)} (h : laidMet Tryz.prog laid W) (hm : ("math/bits.deBruijn64tab", Lib.tabData .u8 dbL) ∈ laid ∧ True) : TabAt W 12 .u8 dbL :=
  tabAt_of (tabIs_laid h hm.1 (g := 12) (by kernel_rfl) (by kernel_rfl) Tryz.underlying263 Tryz.underlying5 (by kernel_rfl) (by kernel_rfl)) (by kernel_rfl) (by decide)
theorem tz_any (w : World) (h : TabAt w 12 .u8 dbL) :
    Calls Tryz.prog 192 #[.int .u64 16] w fun e w' => e = .returned (.int .i64 4) ∧ w' = w := by
  have hc : w.cell? ⟨12, 15, none⟩ = some (.int .u8 4) := h.2 15 4 rfl
  have hb : bits .and .u64 16 18446744073709551600 = 16 := by decide +kernel
  have hw : IntKind.u64.wrap (-16) = 18446744073709551600 := by decide +kernel
  have hw2 : IntKind.u64.wrap (16 * 285870213051353865) = 4573923408821661840 := by decide +kernel
  have hw3 : IntKind.u64.wrap 4573923408821661840 = 4573923408821661840 := by decide +kernel
  go_enter Tryz.func192, Tryz.ntmps192
  go_wp2
  go_ret
  exact ⟨rfl, rfl⟩
theorem pow2_any (w : World) :
    Calls Tryz.prog 191 #[.int .i64 16] w fun e w' => e = .returned (.bool true) ∧ w' = w := by
  have hb : bits .and .i64 16 15 = 0 := by decide +kernel
  go_enter Tryz.func191, Tryz.ntmps191
  go_wp2
  go_ret
  exact ⟨rfl, rfl⟩
theorem small36 : ∀ n (h : n < 16), (⟨#[48, 49, 50, 51, 52, 53, 54, 55, 56, 57, 97, 98, 99, 100, 101, 102, 103, 104, 105, 106, 107, 108, 109, 110, 111, 112, 113, 114, 115, 116, 117, 118, 119, 120, 121, 122]⟩ : ByteArray)[n]'(Nat.lt_trans h (by decide)) = digB n.toUInt8 := by decide
/-- block g holds 65 bytes -/
def Buf (w : World) (g : Nat) (l : List UInt8) : Prop := w.heap[g]? = some (.cells (u8s l).toArray 218 (0, 0))
theorem Buf.cell {w : World} {g : Nat} {l : List UInt8} (h : Buf w g l) {j : Nat} {c : UInt8} (hj : l[j]? = some c) : w.cell? ⟨g, j, none⟩ = some (.int .u8 (c.toNat : Int)) := by
  obtain ⟨hl, he⟩ := List.getElem?_eq_some_iff.1 hj
  unfold Buf at h
  simp only [World.cell?, h]
  simp [u8s, hl, he]
theorem Buf.free {w : World} {g : Nat} {l : List UInt8} (h : Buf w g l) (j : Nat) : w.frozen? ⟨g, j, none⟩ = false := by
  unfold Buf at h
  simp [World.frozen?, h]
theorem Buf.set {w : World} {g : Nat} {l : List UInt8} (h : Buf w g l) (j : Nat) (c : UInt8) : Buf (w.setCell ⟨g, j, none⟩ (.int .u8 (c.toNat : Int))) g (l.set j c) := by
  unfold Buf at h ⊢
  simp only [World.setCell, Array.getElem?_modify, h]
  simp [u8s, List.map_set]
theorem Buf.text {w : World} {g : Nat} {l m : List UInt8} {k c : Nat} (h : Buf w g (m ++ l)) (hk : m.length = k) :
    (convert 95 9 (.slice (some ⟨g, k, none⟩) l.length c)).run Tryz.prog w = .ok (.string ⟨l.toArray⟩) w := by
  refine run_convert_bytes_back (P := Tryz.prog) w 95 9 5 ⟨g, k, none⟩ c l Tryz.underlying95 Tryz.underlying5 Tryz.underlying9 ?_
  intro j hj
  have ea : (Addr.add ⟨g, k, none⟩ j) = ⟨g, k + j, none⟩ := by unfold Addr.add; split <;> simp_all
  rw [ea]
  refine h.cell ?_
  rw [List.getElem?_append_right (by omega), show k + j - m.length = j from by omega]
  exact List.getElem?_eq_getElem hj
/-- what formatBits has written: j digits behind zeros -/
def bufL (n j : Nat) : List UInt8 := List.replicate (65 - j) 0 ++ hexFix j n
theorem bufL_len (n j : Nat) (h : j ≤ 65) : (bufL n j).length = 65 := by unfold bufL; rw [List.length_append, List.length_replicate, hexFix_len]; omega
theorem bufL_succ (n j : Nat) (h : j < 65) : bufL n (j + 1) = (bufL n j).set (64 - j) (digB (n / 16 ^ j % 16).toUInt8) := by
  unfold bufL
  rw [← hexFix_cons j n, show 65 - j = (65 - (j + 1)) + 1 from by omega, List.replicate_succ']
  rw [List.append_assoc, List.set_append, if_neg (by rw [List.length_replicate]; omega)]
  rw [List.length_replicate, show 64 - j - (65 - (j + 1)) = 0 from by omega]
  rfl
theorem and15n (q : Nat) (hq : q < 18446744073709551616) : bits .and .u64 (q : Int) 15 = ((q % 16 : Nat) : Int) := by
  have h := bits_and_u64_nat q 15 hq (by decide)
  rw [show ((15 : Nat) : Int) = 15 from rfl] at h
  rw [h]
  congr 1
  exact Nat.and_two_pow_sub_one_eq_mod q 4
def FbRel (n g : Nat) (w : World) (u i : Value) (wr : World) : Prop := ∃ j m : Nat, j ≤ 7 ∧ m + 1 + j = 65 ∧ u = .int .u64 ((n / 16 ^ j : Nat) : Int) ∧ i = .int .i64 ((m : Int) + 1) ∧ Buf wr g (bufL n j) ∧ Fr noB w wr
set_option maxRecDepth 100000 in
set_option maxHeartbeats 2000000 in
theorem fbits_any (n : Nat) (w : World) (hn : n < 4294967296) (h : TabAt w 12 .u8 dbL) :
    Calls Tryz.prog 164 #[.slice none 0 0, .int .u64 (n : Int), .int .i64 16, .bool false, .bool false] w fun e w' =>
      (∃ j, j < 8 ∧ n < 16 ^ (j + 1) ∧ e = .returned (.tuple #[.slice none 0 0, .string ⟨(hexFix (j + 1) n).toArray⟩])) ∧ Fr noB w w' := by
  have hfa : Fr noB w (w.alloc (.cells (u8s (List.replicate 65 0)).toArray 218)) := (Fr.refl noB w).alloc _
  have HTZ := Lib.hid (tz_any _ (h.fr hfa))
  have HB0 := Lib.hid (show Buf (w.alloc (.cells (u8s (List.replicate 65 0)).toArray 218)) w.heap.size (bufL n 0) from new_block _ _)
  clear h
  go_enter Tryz.func164, Tryz.ntmps164
  go_wp2_with fail
  refine (pow2_any _).mono ?_
  rintro e w1 ⟨rfl, rfl⟩
  go_wp2_with fail
  refine HTZ.out.mono ?_
  rintro e w2 ⟨rfl, rfl⟩
  go_wp2
  go_loopw [1, 13] (FbRel n w.heap.size w) (fun u _ _ => (intOf u).toNat)
  case atStart => exact ⟨0, 64, by omega, by omega, by simp, rfl, HB0.out, hfa⟩
  case round =>
    obtain ⟨j, m, hj, hm, rfl, rfl, hb, hfr⟩ := hrel
    have hq0 : n / 16 ^ j ≤ n := Nat.div_le_self _ _
    have hsu := Lib.hid (bufL_succ n j (by omega))
    have hdv := Lib.hid (show n / 16 ^ (j + 1) = n / 16 ^ j / 16 by rw [Nat.pow_succ, Nat.div_div_eq_div_mul])
    have h7 := Lib.hid (show 16 ≤ n / 16 ^ j → j < 7 from fun h => by
      rcases Nat.lt_or_ge j 7 with h1 | h1
      · exact h1
      · obtain rfl : j = 7 := by omega
        simp at h; omega)
    have hlast := Lib.hid (show n / 16 ^ j < 16 → n < 16 ^ (j + 1) from fun h => by rw [Nat.pow_succ, Nat.mul_comm]; exact (Nat.div_lt_iff_lt_mul (Nat.pow_pos (by decide))).1 h)
    have hset := Lib.hid (hb.set m (digB (n / 16 ^ j % 16).toUInt8))
    have hbl := bufL_len n j (by omega)
    have hcell := hb.cell (List.getElem?_eq_getElem (show m < (bufL n j).length by omega))
    have hfree := hb.free m
    generalize hq : n / 16 ^ j = q at *
    have h15 := and15n q (by omega)
    have hr : q % 16 < 16 := Nat.mod_lt _ (by decide)
    by_cases h16 : 16 ≤ q
    · have h16i : (16 : Int) ≤ (q : Int) := by omega
      go_wp2
      rw [small36 _ hr]
      exact ⟨⟨j + 1, m - 1, by have := h7.out h16; omega, by have := h7.out h16; omega, by rw [hdv.out]; rfl, by congr 1; omega, by rw [hsu.out, show 64 - j = m from by omega]; exact hset.out, hfr.setNew (p := ⟨w.heap.size, m, none⟩) (Nat.le_refl _) _⟩, by simp [intOf]; omega⟩
    · have h16i : ¬ (16 : Int) ≤ (q : Int) := by omega
      have hm65 : (m : Int) ≤ 65 := by omega
      have hm65n : m ≤ 65 := by omega
      have hq16 : q < 16 := by omega
      have e65 : 65 - m = j + 1 := by omega
      have hx := hset.out
      rw [show q % 16 = q from by omega, show (bufL n j).set m (digB q.toUInt8) = List.replicate m 0 ++ hexFix (j + 1) n from by
        have h := hsu.out
        rw [show q % 16 = q from by omega, show 64 - j = m from by omega] at h
        rw [← h]; unfold bufL; rw [show 65 - (j + 1) = m from by omega]] at hx
      have htext := hx.text (k := m) (c := j + 1) (by simp)
      rw [hexFix_len] at htext
      clear hx hb hset
      go_wp2
      rw [small36 _ hq16, htext]
      go_wp2
      go_ret2
      exact ⟨⟨j, by omega, hlast.out hq16, rfl⟩, hfr.setNew (p := ⟨w.heap.size, m, none⟩) (Nat.le_refl _) _⟩
/-- strconv.FormatInt at base 16 -/
theorem fint_any (n : Nat) (w : World) (hn : n < 4294967296) (h : TabAt w 12 .u8 dbL) :
    Calls Tryz.prog 61 #[.int .i64 (n : Int), .int .i64 16] w fun e w' =>
      (∃ j, j < 8 ∧ n < 16 ^ (j + 1) ∧ e = .returned (.string ⟨(hexFix (j + 1) n).toArray⟩)) ∧ Fr noB w w' := by
  have HF := Lib.hid (fbits_any n w hn h)
  clear h
  have h1 : IntKind.u64.wrap (n : Int) = (n : Int) := by have e : IntKind.u64.wrap (n : Int) = (n : Int) % 18446744073709551616 := by simp [IntKind.wrap, IntKind.signed, IntKind.bits]
                                                         rw [e]; omega
  have hin : Calls Tryz.prog 119 #[.int .i64 (n : Int), .int .i64 16] w fun e w' =>
      (∃ j, j < 8 ∧ n < 16 ^ (j + 1) ∧ e = .returned (.string ⟨(hexFix (j + 1) n).toArray⟩)) ∧ Fr noB w w' := by
    go_enter Tryz.func119, Tryz.ntmps119
    go_wp2_with fail
    refine HF.out.mono ?_
    rintro e w1 ⟨⟨j, hj, hn2, rfl⟩, hf⟩
    have HN := Lib.hid hn2
    clear hn2
    go_wp2
    go_ret
    exact ⟨⟨j, hj, HN.out, rfl⟩, hf⟩
  go_enter Tryz.func61, Tryz.ntmps61
  go_wp2_with fail
  refine hin.mono ?_
  rintro e w1 ⟨⟨j, hj, hn2, rfl⟩, hf⟩
  have HN := Lib.hid hn2
  clear hn2 hin
  go_wp2
  go_ret
  exact ⟨⟨j, hj, HN.out, rfl⟩, hf⟩
theorem repeat48 (k : Nat) : Lib.repeatL [48] k = List.replicate k 48 := by
  induction k with
  | zero => rfl
  | succ k ih => show ([48] : List UInt8) ++ Lib.repeatL [48] k = _; rw [ih, List.replicate_succ]; rfl
set_option maxHeartbeats 2000000 in
theorem Count_any (n : Nat) (w : World) (hn : n < 4294967296) (h : TabAt w 12 .u8 dbL) :
    Calls Tryz.prog 19 #[.int .i64 (n : Int)] w fun e w' => e = .returned (.string ⟨(countL n).toArray⟩) ∧ Fr noB w w' := by
  have HF := Lib.hid (fint_any n w hn h)
  clear h
  go_enter Tryz.func19, Tryz.ntmps19
  go_wp2_with fail
  refine HF.out.mono ?_
  rintro e w1 ⟨⟨j, hj, hn2, rfl⟩, hf⟩
  have HC := Lib.hid (show countL n = Lib.repeatL [48] (7 - j) ++ hexFix (j + 1) n by unfold countL; rw [repeat48, hexFix_pad _ _ _ hn2, show j + 1 + (7 - j) = 8 from by omega])
  have hl := hexFix_len (j + 1) n
  generalize hexFix (j + 1) n = x at *
  clear hn2
  have hmx : max (0 : Int) (8 - ((j : Int) + 1)) = ((7 - j : Nat) : Int) := by omega
  go_wp2_with fail
  refine (Tryz.strings_Repeat ⟨#[48]⟩ (7 - j) w1 (by omega) (by show 1 * (7 - j) ≤ _; omega)).mono ?_
  rintro e w2 ⟨rfl, hb⟩
  have hf2 := Fr.of_below hb
  have hrl : (Lib.repeatL [48] (7 - j)).length = 7 - j := by rw [repeat48]; simp
  have HS := Lib.hid (show (⟨(Lib.repeatL [48] (7 - j)).toArray⟩ ++ ⟨x.toArray⟩ : ByteArray) = ⟨(countL n).toArray⟩ from by
    apply Go.WideShapes.bytes_inj
    rw [HC.out]
    simp [ByteArray.data_append])
  generalize Lib.repeatL [48] (7 - j) = z at *
  have hsum : ¬ 9223372036854775807 < z.length + x.length := by omega
  go_wp2
  go_ret
  exact ⟨by rw [← HS.out]; rfl, hf.trans hf2⟩
end Go.Proofs.YtkoobhgedoanhaaGreatDoor

namespace Go.Proofs.YtkoobhgedoanhaaGreatDoor
open Go.RowKit

/-- what a request is proved by -/
structure RespIn where
  sha : Bool
  sess : Bool
  realm : ByteArray
  nonce : ByteArray
  qop : ByteArray
  user : ByteArray
  pass : ByteArray
  method : ByteArray
  target : ByteArray
  body : ByteArray
  cnonce : ByteArray
  n : Nat
def authInt : ByteArray := ⟨#[97, 117, 116, 104, 45, 105, 110, 116]⟩
def oneB (x : RespIn) : ByteArray := if x.sess then hashB x.sha [hashB x.sha [x.user, x.realm, x.pass], x.nonce, x.cnonce] else hashB x.sha [x.user, x.realm, x.pass]
def twoB (x : RespIn) : ByteArray := if x.qop = authInt then hashB x.sha [x.method, x.target, hashB x.sha [x.body]] else hashB x.sha [x.method, x.target]
/-- proof.Response -/
def respB (x : RespIn) : ByteArray := if x.qop = .empty then hashB x.sha [oneB x, x.nonce, twoB x] else hashB x.sha [oneB x, x.nonce, ⟨(countL x.n).toArray⟩, x.cnonce, x.qop, twoB x]
theorem at_len (k : Nat) {P : Program} {f : FuncId} {x : Value} {a : Option Addr} {c : Nat} {W : World} {Post : Ending → World → Prop} (h : Calls P f #[x, .slice a k c] W Post) : Calls P f #[x, .slice a k c] W Post := h
theorem ai_ne : ¬ authInt = .empty := by decide +kernel
theorem strsAt_drew {w : World} {v : Value} {ss : List ByteArray} (h : StrsAt w v ss) : StrsAt w.drew v ss := h
theorem size_len (s : ByteArray) : s.data.toList.length = s.size := by simp
theorem join1 (a : ByteArray) : (textsL [a]).length = a.size := by simp [textsL, Lib.join, List.intercalate]
theorem join2 (a b : ByteArray) : (textsL [a, b]).length = a.size + b.size + 1 := by simp [textsL, Lib.join, List.intercalate]; omega
theorem join3 (a b c : ByteArray) : (textsL [a, b, c]).length = a.size + b.size + c.size + 2 := by simp [textsL, Lib.join, List.intercalate]; omega
theorem join6 (a b c d e f : ByteArray) : (textsL [a, b, c, d, e, f]).length = a.size + b.size + c.size + d.size + e.size + f.size + 5 := by simp [textsL, Lib.join, List.intercalate]; omega
theorem count_size (n : Nat) : (⟨(countL n).toArray⟩ : ByteArray).size = 8 := by show (countL n).toArray.size = 8; simp [countL, hexFix_len]
structure RespIn.Small (x : RespIn) : Prop where
  realm : x.realm.size ≤ 5000
  nonce : x.nonce.size ≤ 5000
  qop : x.qop.size ≤ 5000
  user : x.user.size ≤ 5000
  pass : x.pass.size ≤ 5000
  method : x.method.size ≤ 5000
  target : x.target.size ≤ 5000
  body : x.body.size ≤ 5000
  cnonce : x.cnonce.size ≤ 5000
  n : x.n < 4294967296
set_option maxRecDepth 100000 in
set_option maxHeartbeats 4000000 in
theorem Response_any (r : AskOf Value) (x : RespIn) (w : World) (hx : x.Small) (h1 : r.realm = x.realm) (h2 : r.nonce = x.nonce) (h3 : r.qop = x.qop) (h4 : r.sess = x.sess) (h5 : x.sha = decide (r.scheme = 3))
    (hone : r.dom.oneCell' = true) (hdb : TabAt w 12 .u8 dbL) (hh : HashOk r.scheme w) :
    Calls Tryz.prog 18 #[.agg #[.int .i64 r.scheme, .string r.realm, .string r.nonce, .string r.opaq, .bool r.sess, .string r.qop, .bool r.stale, r.dom], .agg #[.string x.user, .string x.pass], .string x.method, .string x.target, .string x.body, .string x.cnonce, .int .i64 x.n] w
      fun e w' => e = .returned (.string (respB x)) ∧ Fr noB w w' := by
  obtain ⟨sha, sess, realm, nonce, qop, user, pass, method, target, body, cnonce, n⟩ := x
  obtain ⟨sch, realm', nonce', opaq, sess', qop', stale, dom⟩ := r
  obtain ⟨z1, z2, z3, z4, z5, z6, z7, z8, z9, zn⟩ := hx
  simp only at h1 h2 h3 h4 h5 hone z1 z2 z3 z4 z5 z6 z7 z8 z9 zn hh ⊢
  subst h1 h2 h3 h4 h5
  have HDB := Lib.hid hdb
  have HH := Lib.hid hh
  have HD1 := Lib.hid hone
  clear hdb hh
  go_enter Tryz.func18, Tryz.ntmps18
  go_wp2_with fail
  obtain ⟨wb, hwb⟩ : ∃ wb, wb = (w.alloc (.cells #[.int .i64 sch, .string realm', .string nonce', .string opaq, .bool sess', .string qop', .bool stale, dom] 24)).alloc (.cells #[.string user, .string pass] 26) := ⟨_, rfl⟩
  have hsz : wb.heap.size = w.heap.size + 1 + 1 := by rw [hwb]; simp
  have hfb : Fr noB w wb := by rw [hwb]; exact ((Fr.refl noB w).alloc _).alloc _
  have hk : wb.heap[w.heap.size]? = some (.cells #[.int .i64 sch, .string realm', .string nonce', .string opaq, .bool sess', .string qop', .bool stale, dom] 24 (0, 0)) := by rw [hwb]; exact ((Fr.refl noB _).alloc _).keep (new_block _ _) (fun h => h)
  have HC := Lib.hid (show ∀ U, Fr noB wb U → U.cell? ⟨w.heap.size, 0, none⟩ = some (.int .i64 sch) ∧ U.cell? ⟨w.heap.size, 2, none⟩ = some (.string nonce') ∧ U.cell? ⟨w.heap.size, 4, none⟩ = some (.bool sess') ∧ U.cell? ⟨w.heap.size, 5, none⟩ = some (.string qop') from fun U hU => by
    have hk2 := hU.keep hk (fun h => h)
    simp [World.cell?, hk2])
  have hv := strsAt_new wb 9 [user, realm', pass] (Nat.le_of_ble_eq_true rfl)
  rw [hsz] at hv
  rw [← hwb]
  clear hwb hk
  refine (HH.out _ [user, realm', pass] _ (hfb.alloc _) hv (Nat.le_of_ble_eq_true rfl) (by rw [join3]; omega)).mono ?_
  rintro e u1 ⟨rfl, hf1⟩
  have HF1 := Lib.hid (show Fr noB wb u1 from ((Fr.refl noB wb).alloc _).trans hf1)
  have HW1 := Lib.hid (hfb.trans HF1.out)
  obtain ⟨c0, c2, c4, c5⟩ := HC.out u1 HF1.out
  obtain ⟨o0, ho0⟩ : ∃ o0, o0 = hashB (decide (sch = 3)) [user, realm', pass] := ⟨_, rfl⟩
  have hoz : o0.size ≤ 64 := by rw [ho0]; exact hashB_size _ _
  rw [← ho0]
  have HO0 := Lib.hid ho0
  clear ho0
  clear hv hf1 hsz
  cases sess'
  · obtain ⟨o1, ho1⟩ : ∃ o1, o1 = o0 := ⟨_, rfl⟩
    rw [← ho1] at hoz ⊢
    have HO := Lib.hid (show oneB ⟨decide (sch = 3), false, realm', nonce', qop', user, pass, method, target, body, cnonce, n⟩ = o1 by rw [ho1, HO0.out]; rfl)
    clear ho1
    go_wp2_with fail
    refine (HH.out _ [method, target] _ (by repeat (first | exact HW1.out | refine Fr.trans ?_ hf7 | apply Fr.alloc | apply Fr.drew)) (strsAt_new _ _ [method, target] (Nat.le_of_ble_eq_true rfl)) (Nat.le_of_ble_eq_true rfl) (by rw [join2]; omega)).mono ?_
    rintro e u5 ⟨rfl, hf5⟩
    have HF5 := Lib.hid (show Fr noB wb u5 from Fr.trans (by repeat (first | exact HF1.out | apply Fr.alloc | apply Fr.drew)) hf5)
    have HW5 := Lib.hid (hfb.trans HF5.out)
    obtain ⟨d0, d2, d4, d5⟩ := HC.out u5 HF5.out
    clear c0 c2 c4 c5 hf5
    obtain ⟨t0, ht0⟩ : ∃ t0, t0 = hashB (decide (sch = 3)) [method, target] := ⟨_, rfl⟩
    have htz : t0.size ≤ 64 := by rw [ht0]; exact hashB_size _ _
    rw [← ht0]
    have HT0 := Lib.hid ht0
    clear ht0
    by_cases hqi : qop' = authInt
    · subst hqi
      have hai : authInt.toList = [97, 117, 116, 104, 45, 105, 110, 116] := by decide +kernel
      have HRI := Lib.hid (show respB ⟨decide (sch = 3), false, realm', nonce', authInt, user, pass, method, target, body, cnonce, n⟩ = hashB (decide (sch = 3)) [oneB ⟨decide (sch = 3), false, realm', nonce', authInt, user, pass, method, target, body, cnonce, n⟩, nonce', ⟨(countL n).toArray⟩, cnonce, authInt, twoB ⟨decide (sch = 3), false, realm', nonce', authInt, user, pass, method, target, body, cnonce, n⟩] from by unfold respB; rw [if_neg ai_ne])
      have HTI := Lib.hid (show twoB ⟨decide (sch = 3), false, realm', nonce', authInt, user, pass, method, target, body, cnonce, n⟩ = hashB (decide (sch = 3)) [method, target, hashB (decide (sch = 3)) [body]] from by unfold twoB; rw [if_pos rfl])
      have hbz := hashB_size (decide (sch = 3)) [body]
      obtain ⟨bb, hbb⟩ : ∃ bb, bb = hashB (decide (sch = 3)) [body] := ⟨_, rfl⟩
      have HBB := Lib.hid hbb
      rw [← hbb] at hbz HTI
      clear hbb
      go_wp2_with fail
      go_region_held3 (fun U => U.cell? ⟨w.heap.size, 0, none⟩ = some (.int .i64 sch)) ((refine (HC.out _ ?_).1; repeat (first | exact HF5.out | refine Fr.trans ?_ hf8 | refine Fr.trans ?_ hf7 | apply Fr.alloc | apply Fr.drew))) (first | ((with_reducible refine at_len 1 ?_); go_at_call 60; refine (HH.out _ [body] _ (by repeat (first | exact HW5.out | apply Fr.alloc | apply Fr.drew)) (by first | exact strsAt_new _ _ [body] (Nat.le_of_ble_eq_true rfl) | exact strsAt_drew (strsAt_new _ _ [body] (Nat.le_of_ble_eq_true rfl))) (Nat.le_of_ble_eq_true rfl) (by rw [join1]; omega)).mono ?_; rw [← HBB.out]; rintro e w7 ⟨rfl, hf7⟩) | ((with_reducible refine at_len 3 ?_); go_at_call 60; refine (HH.out _ [method, target, bb] _ (by repeat (first | exact HW5.out | refine Fr.trans ?_ hf7 | apply Fr.alloc | apply Fr.drew)) (by first | exact strsAt_new _ _ [method, target, bb] (Nat.le_of_ble_eq_true rfl) | exact strsAt_drew (strsAt_new _ _ [method, target, bb] (Nat.le_of_ble_eq_true rfl))) (Nat.le_of_ble_eq_true rfl) (by rw [join3]; omega)).mono ?_; rintro e w8 ⟨rfl, hf8⟩))
      all_goals
        have HF6 := Lib.hid (show Fr noB wb w8 from by repeat (first | exact HF5.out | refine Fr.trans ?_ hf8 | refine Fr.trans ?_ hf7 | apply Fr.alloc | apply Fr.drew))
        have HW6 := Lib.hid (hfb.trans HF6.out)
        clear hf7 hf8 d0 d2 d4 d5
        obtain ⟨d0, d2, d4, d5⟩ := HC.out w8 HF6.out
        obtain ⟨t2, ht2⟩ : ∃ t2, t2 = hashB (decide (sch = 3)) [method, target, bb] := ⟨_, rfl⟩
        have htz2 : t2.size ≤ 64 := by rw [ht2]; exact hashB_size _ _
        rw [← ht2]
        have HT := Lib.hid (HTI.out.trans ht2.symm)
        have HR := Lib.hid HRI.out
        clear ht2
        have hai2 : ¬ authInt.toList = [] := by rw [hai]; simp
        have HC3 := Lib.hid (fun (U : World) (hU : Fr noB wb U) => And.intro (HC.out U hU).1 (And.intro (HC.out U hU).2.1 (HC.out U hU).2.2.2))
        clear htz
        go_wp2_with fail
        go_region_held3 (fun U => U.cell? ⟨w.heap.size, 0, none⟩ = some (.int .i64 sch) ∧ U.cell? ⟨w.heap.size, 2, none⟩ = some (.string nonce') ∧ U.cell? ⟨w.heap.size, 5, none⟩ = some (.string authInt)) ((refine HC3.out _ ?_; repeat (first | exact HF6.out | refine Fr.trans ?_ hf8 | refine Fr.trans ?_ hf7 | apply Fr.alloc | apply Fr.drew))) (first | (go_at_call 19; refine (Count_any n _ zn (HDB.out.fr (by repeat (first | exact HW6.out | refine Fr.trans ?_ hf7 | apply Fr.alloc | apply Fr.drew)))).mono ?_; rintro e w7 ⟨rfl, hf7⟩) | (go_at_call 60; refine (HH.out _ [o1, nonce', ⟨(countL n).toArray⟩, cnonce, authInt, t2] _ (by repeat (first | exact HW6.out | refine Fr.trans ?_ hf7 | apply Fr.alloc | apply Fr.drew)) (strsAt_new _ _ _ (Nat.le_of_ble_eq_true rfl)) (Nat.le_of_ble_eq_true rfl) (by rw [join6]; have := count_size n; omega)).mono ?_; rintro e w8 ⟨rfl, hf8⟩))
        all_goals
          have HFIN := Lib.hid (show Fr noB w w8 from Fr.trans (by repeat (first | exact HW6.out | refine Fr.trans ?_ hf7 | apply Fr.alloc | apply Fr.drew)) hf8)
          clear hf8
          go_wp2
          go_ret
          exact ⟨by rw [HR.out, HO.out, HT.out]; rfl, HFIN.out⟩
    · have hq1 : ¬ qop'.toList = [97, 117, 116, 104, 45, 105, 110, 116] := fun h => hqi (by rw [ByteArray.toList_eq] at h; exact Go.WideShapes.bytes_inj h)
      have hq2 : (qop'.toList == [97, 117, 116, 104, 45, 105, 110, 116]) = false := by simp [hq1]
      obtain ⟨t2, ht2⟩ : ∃ t2, t2 = t0 := ⟨_, rfl⟩
      rw [← ht2] at htz ⊢
      have HT := Lib.hid (show twoB ⟨decide (sch = 3), false, realm', nonce', qop', user, pass, method, target, body, cnonce, n⟩ = t2 by rw [ht2, HT0.out]; unfold twoB; rw [if_neg hqi])
      clear ht2
      by_cases hqe : qop' = .empty
      · subst hqe
        have hqe2 : ByteArray.empty.toList = [] := by decide +kernel
        have HR := Lib.hid (show respB ⟨decide (sch = 3), false, realm', nonce', .empty, user, pass, method, target, body, cnonce, n⟩ = hashB (decide (sch = 3)) [oneB ⟨decide (sch = 3), false, realm', nonce', .empty, user, pass, method, target, body, cnonce, n⟩, nonce', twoB ⟨decide (sch = 3), false, realm', nonce', .empty, user, pass, method, target, body, cnonce, n⟩] from by unfold respB; rw [if_pos rfl])
        go_wp2_with fail
        refine (HH.out _ [o1, nonce', t2] _ (by repeat (first | exact HW5.out | refine Fr.trans ?_ hf7 | apply Fr.alloc | apply Fr.drew)) (strsAt_new _ _ [o1, nonce', t2] (Nat.le_of_ble_eq_true rfl)) (Nat.le_of_ble_eq_true rfl) (by rw [join3]; omega)).mono ?_
        rintro e u9 ⟨rfl, hf9⟩
        go_wp2
        go_ret
        exact ⟨by rw [HR.out, HO.out, HT.out]; rfl, Fr.trans (by repeat (first | exact HW5.out | refine Fr.trans ?_ hf7 | apply Fr.alloc | apply Fr.drew)) hf9⟩
      · have hq3 : ¬ qop'.toList = [] := fun h => hqe (by rw [ByteArray.toList_eq] at h; exact Go.WideShapes.bytes_inj h)
        have hq4 : qop'.toList.isEmpty = false := by cases hz : qop'.toList with | nil => exact absurd hz hq3 | cons _ _ => rfl
        have HR := Lib.hid (show respB ⟨decide (sch = 3), false, realm', nonce', qop', user, pass, method, target, body, cnonce, n⟩ = hashB (decide (sch = 3)) [oneB ⟨decide (sch = 3), false, realm', nonce', qop', user, pass, method, target, body, cnonce, n⟩, nonce', ⟨(countL n).toArray⟩, cnonce, qop', twoB ⟨decide (sch = 3), false, realm', nonce', qop', user, pass, method, target, body, cnonce, n⟩] from by unfold respB; rw [if_neg hqe])
        have HC3 := Lib.hid (fun (U : World) (hU : Fr noB wb U) => And.intro (HC.out U hU).1 (And.intro (HC.out U hU).2.1 (HC.out U hU).2.2.2))
        go_wp2_with fail
        go_region_held3 (fun U => U.cell? ⟨w.heap.size, 0, none⟩ = some (.int .i64 sch) ∧ U.cell? ⟨w.heap.size, 2, none⟩ = some (.string nonce') ∧ U.cell? ⟨w.heap.size, 5, none⟩ = some (.string qop')) ((refine HC3.out _ ?_; repeat (first | exact HF5.out | refine Fr.trans ?_ hf8 | refine Fr.trans ?_ hf7 | apply Fr.alloc | apply Fr.drew))) (first | (go_at_call 19; refine (Count_any n _ zn (HDB.out.fr (by repeat (first | exact HW5.out | refine Fr.trans ?_ hf7 | apply Fr.alloc | apply Fr.drew)))).mono ?_; rintro e w7 ⟨rfl, hf7⟩) | (go_at_call 60; refine (HH.out _ [o1, nonce', ⟨(countL n).toArray⟩, cnonce, qop', t2] _ (by repeat (first | exact HW5.out | refine Fr.trans ?_ hf7 | apply Fr.alloc | apply Fr.drew)) (strsAt_new _ _ _ (Nat.le_of_ble_eq_true rfl)) (Nat.le_of_ble_eq_true rfl) (by rw [join6]; have := count_size n; omega)).mono ?_; rintro e w8 ⟨rfl, hf8⟩))
        all_goals
          have HFIN := Lib.hid (show Fr noB w w8 from Fr.trans (by repeat (first | exact HW5.out | refine Fr.trans ?_ hf7 | apply Fr.alloc | apply Fr.drew)) hf8)
          clear hf8
          go_wp2
          go_ret
          exact ⟨by rw [HR.out, HO.out, HT.out]; rfl, HFIN.out⟩
  · go_wp2_with fail
    refine (HH.out _ [o0, nonce', cnonce] _ (by repeat (first | exact HW1.out | apply Fr.alloc | apply Fr.drew)) (strsAt_new _ _ [o0, nonce', cnonce] (Nat.le_of_ble_eq_true rfl)) (Nat.le_of_ble_eq_true rfl) (by rw [join3]; omega)).mono ?_
    rintro e u2 ⟨rfl, hf2⟩
    have HF2 := Lib.hid (show Fr noB wb u2 from Fr.trans (by repeat (first | exact HF1.out | apply Fr.alloc | apply Fr.drew)) hf2)
    have HW2 := Lib.hid (hfb.trans HF2.out)
    clear c0 c2 c4 c5 hf2
    obtain ⟨c0, c2, c4, c5⟩ := HC.out u2 HF2.out
    obtain ⟨o1, ho1⟩ : ∃ o1, o1 = hashB (decide (sch = 3)) [o0, nonce', cnonce] := ⟨_, rfl⟩
    have hoz1 : o1.size ≤ 64 := by rw [ho1]; exact hashB_size _ _
    rw [← ho1]
    have HO := Lib.hid (show oneB ⟨decide (sch = 3), true, realm', nonce', qop', user, pass, method, target, body, cnonce, n⟩ = o1 by rw [ho1, HO0.out]; rfl)
    clear ho1
    go_wp2_with fail
    refine (HH.out _ [method, target] _ (by repeat (first | exact HW2.out | refine Fr.trans ?_ hf7 | apply Fr.alloc | apply Fr.drew)) (strsAt_new _ _ [method, target] (Nat.le_of_ble_eq_true rfl)) (Nat.le_of_ble_eq_true rfl) (by rw [join2]; omega)).mono ?_
    rintro e u5 ⟨rfl, hf5⟩
    have HF5 := Lib.hid (show Fr noB wb u5 from Fr.trans (by repeat (first | exact HF2.out | apply Fr.alloc | apply Fr.drew)) hf5)
    have HW5 := Lib.hid (hfb.trans HF5.out)
    obtain ⟨d0, d2, d4, d5⟩ := HC.out u5 HF5.out
    clear c0 c2 c4 c5 hf5
    obtain ⟨t0, ht0⟩ : ∃ t0, t0 = hashB (decide (sch = 3)) [method, target] := ⟨_, rfl⟩
    have htz : t0.size ≤ 64 := by rw [ht0]; exact hashB_size _ _
    rw [← ht0]
    have HT0 := Lib.hid ht0
    clear ht0
    by_cases hqi : qop' = authInt
    · subst hqi
      have hai : authInt.toList = [97, 117, 116, 104, 45, 105, 110, 116] := by decide +kernel
      have HRI := Lib.hid (show respB ⟨decide (sch = 3), true, realm', nonce', authInt, user, pass, method, target, body, cnonce, n⟩ = hashB (decide (sch = 3)) [oneB ⟨decide (sch = 3), true, realm', nonce', authInt, user, pass, method, target, body, cnonce, n⟩, nonce', ⟨(countL n).toArray⟩, cnonce, authInt, twoB ⟨decide (sch = 3), true, realm', nonce', authInt, user, pass, method, target, body, cnonce, n⟩] from by unfold respB; rw [if_neg ai_ne])
      have HTI := Lib.hid (show twoB ⟨decide (sch = 3), true, realm', nonce', authInt, user, pass, method, target, body, cnonce, n⟩ = hashB (decide (sch = 3)) [method, target, hashB (decide (sch = 3)) [body]] from by unfold twoB; rw [if_pos rfl])
      have hbz := hashB_size (decide (sch = 3)) [body]
      obtain ⟨bb, hbb⟩ : ∃ bb, bb = hashB (decide (sch = 3)) [body] := ⟨_, rfl⟩
      have HBB := Lib.hid hbb
      rw [← hbb] at hbz HTI
      clear hbb
      go_wp2_with fail
      go_region_held3 (fun U => U.cell? ⟨w.heap.size, 0, none⟩ = some (.int .i64 sch)) ((refine (HC.out _ ?_).1; repeat (first | exact HF5.out | refine Fr.trans ?_ hf8 | refine Fr.trans ?_ hf7 | apply Fr.alloc | apply Fr.drew))) (first | ((with_reducible refine at_len 1 ?_); go_at_call 60; refine (HH.out _ [body] _ (by repeat (first | exact HW5.out | apply Fr.alloc | apply Fr.drew)) (by first | exact strsAt_new _ _ [body] (Nat.le_of_ble_eq_true rfl) | exact strsAt_drew (strsAt_new _ _ [body] (Nat.le_of_ble_eq_true rfl))) (Nat.le_of_ble_eq_true rfl) (by rw [join1]; omega)).mono ?_; rw [← HBB.out]; rintro e w7 ⟨rfl, hf7⟩) | ((with_reducible refine at_len 3 ?_); go_at_call 60; refine (HH.out _ [method, target, bb] _ (by repeat (first | exact HW5.out | refine Fr.trans ?_ hf7 | apply Fr.alloc | apply Fr.drew)) (by first | exact strsAt_new _ _ [method, target, bb] (Nat.le_of_ble_eq_true rfl) | exact strsAt_drew (strsAt_new _ _ [method, target, bb] (Nat.le_of_ble_eq_true rfl))) (Nat.le_of_ble_eq_true rfl) (by rw [join3]; omega)).mono ?_; rintro e w8 ⟨rfl, hf8⟩))
      all_goals
        have HF6 := Lib.hid (show Fr noB wb w8 from by repeat (first | exact HF5.out | refine Fr.trans ?_ hf8 | refine Fr.trans ?_ hf7 | apply Fr.alloc | apply Fr.drew))
        have HW6 := Lib.hid (hfb.trans HF6.out)
        clear hf7 hf8 d0 d2 d4 d5
        obtain ⟨d0, d2, d4, d5⟩ := HC.out w8 HF6.out
        obtain ⟨t2, ht2⟩ : ∃ t2, t2 = hashB (decide (sch = 3)) [method, target, bb] := ⟨_, rfl⟩
        have htz2 : t2.size ≤ 64 := by rw [ht2]; exact hashB_size _ _
        rw [← ht2]
        have HT := Lib.hid (HTI.out.trans ht2.symm)
        have HR := Lib.hid HRI.out
        clear ht2
        have hai2 : ¬ authInt.toList = [] := by rw [hai]; simp
        have HC3 := Lib.hid (fun (U : World) (hU : Fr noB wb U) => And.intro (HC.out U hU).1 (And.intro (HC.out U hU).2.1 (HC.out U hU).2.2.2))
        clear htz
        go_wp2_with fail
        go_region_held3 (fun U => U.cell? ⟨w.heap.size, 0, none⟩ = some (.int .i64 sch) ∧ U.cell? ⟨w.heap.size, 2, none⟩ = some (.string nonce') ∧ U.cell? ⟨w.heap.size, 5, none⟩ = some (.string authInt)) ((refine HC3.out _ ?_; repeat (first | exact HF6.out | refine Fr.trans ?_ hf8 | refine Fr.trans ?_ hf7 | apply Fr.alloc | apply Fr.drew))) (first | (go_at_call 19; refine (Count_any n _ zn (HDB.out.fr (by repeat (first | exact HW6.out | refine Fr.trans ?_ hf7 | apply Fr.alloc | apply Fr.drew)))).mono ?_; rintro e w7 ⟨rfl, hf7⟩) | (go_at_call 60; refine (HH.out _ [o1, nonce', ⟨(countL n).toArray⟩, cnonce, authInt, t2] _ (by repeat (first | exact HW6.out | refine Fr.trans ?_ hf7 | apply Fr.alloc | apply Fr.drew)) (strsAt_new _ _ _ (Nat.le_of_ble_eq_true rfl)) (Nat.le_of_ble_eq_true rfl) (by rw [join6]; have := count_size n; omega)).mono ?_; rintro e w8 ⟨rfl, hf8⟩))
        all_goals
          have HFIN := Lib.hid (show Fr noB w w8 from Fr.trans (by repeat (first | exact HW6.out | refine Fr.trans ?_ hf7 | apply Fr.alloc | apply Fr.drew)) hf8)
          clear hf8
          go_wp2
          go_ret
          exact ⟨by rw [HR.out, HO.out, HT.out]; rfl, HFIN.out⟩
    · have hq1 : ¬ qop'.toList = [97, 117, 116, 104, 45, 105, 110, 116] := fun h => hqi (by rw [ByteArray.toList_eq] at h; exact Go.WideShapes.bytes_inj h)
      have hq2 : (qop'.toList == [97, 117, 116, 104, 45, 105, 110, 116]) = false := by simp [hq1]
      obtain ⟨t2, ht2⟩ : ∃ t2, t2 = t0 := ⟨_, rfl⟩
      rw [← ht2] at htz ⊢
      have HT := Lib.hid (show twoB ⟨decide (sch = 3), true, realm', nonce', qop', user, pass, method, target, body, cnonce, n⟩ = t2 by rw [ht2, HT0.out]; unfold twoB; rw [if_neg hqi])
      clear ht2
      by_cases hqe : qop' = .empty
      · subst hqe
        have hqe2 : ByteArray.empty.toList = [] := by decide +kernel
        have HR := Lib.hid (show respB ⟨decide (sch = 3), true, realm', nonce', .empty, user, pass, method, target, body, cnonce, n⟩ = hashB (decide (sch = 3)) [oneB ⟨decide (sch = 3), true, realm', nonce', .empty, user, pass, method, target, body, cnonce, n⟩, nonce', twoB ⟨decide (sch = 3), true, realm', nonce', .empty, user, pass, method, target, body, cnonce, n⟩] from by unfold respB; rw [if_pos rfl])
        go_wp2_with fail
        refine (HH.out _ [o1, nonce', t2] _ (by repeat (first | exact HW5.out | refine Fr.trans ?_ hf7 | apply Fr.alloc | apply Fr.drew)) (strsAt_new _ _ [o1, nonce', t2] (Nat.le_of_ble_eq_true rfl)) (Nat.le_of_ble_eq_true rfl) (by rw [join3]; omega)).mono ?_
        rintro e u9 ⟨rfl, hf9⟩
        go_wp2
        go_ret
        exact ⟨by rw [HR.out, HO.out, HT.out]; rfl, Fr.trans (by repeat (first | exact HW5.out | refine Fr.trans ?_ hf7 | apply Fr.alloc | apply Fr.drew)) hf9⟩
      · have hq3 : ¬ qop'.toList = [] := fun h => hqe (by rw [ByteArray.toList_eq] at h; exact Go.WideShapes.bytes_inj h)
        have hq4 : qop'.toList.isEmpty = false := by cases hz : qop'.toList with | nil => exact absurd hz hq3 | cons _ _ => rfl
        have HR := Lib.hid (show respB ⟨decide (sch = 3), true, realm', nonce', qop', user, pass, method, target, body, cnonce, n⟩ = hashB (decide (sch = 3)) [oneB ⟨decide (sch = 3), true, realm', nonce', qop', user, pass, method, target, body, cnonce, n⟩, nonce', ⟨(countL n).toArray⟩, cnonce, qop', twoB ⟨decide (sch = 3), true, realm', nonce', qop', user, pass, method, target, body, cnonce, n⟩] from by unfold respB; rw [if_neg hqe])
        have HC3 := Lib.hid (fun (U : World) (hU : Fr noB wb U) => And.intro (HC.out U hU).1 (And.intro (HC.out U hU).2.1 (HC.out U hU).2.2.2))
        go_wp2_with fail
        go_region_held3 (fun U => U.cell? ⟨w.heap.size, 0, none⟩ = some (.int .i64 sch) ∧ U.cell? ⟨w.heap.size, 2, none⟩ = some (.string nonce') ∧ U.cell? ⟨w.heap.size, 5, none⟩ = some (.string qop')) ((refine HC3.out _ ?_; repeat (first | exact HF5.out | refine Fr.trans ?_ hf8 | refine Fr.trans ?_ hf7 | apply Fr.alloc | apply Fr.drew))) (first | (go_at_call 19; refine (Count_any n _ zn (HDB.out.fr (by repeat (first | exact HW5.out | refine Fr.trans ?_ hf7 | apply Fr.alloc | apply Fr.drew)))).mono ?_; rintro e w7 ⟨rfl, hf7⟩) | (go_at_call 60; refine (HH.out _ [o1, nonce', ⟨(countL n).toArray⟩, cnonce, qop', t2] _ (by repeat (first | exact HW5.out | refine Fr.trans ?_ hf7 | apply Fr.alloc | apply Fr.drew)) (strsAt_new _ _ _ (Nat.le_of_ble_eq_true rfl)) (Nat.le_of_ble_eq_true rfl) (by rw [join6]; have := count_size n; omega)).mono ?_; rintro e w8 ⟨rfl, hf8⟩))
        all_goals
          have HFIN := Lib.hid (show Fr noB w w8 from Fr.trans (by repeat (first | exact HW5.out | refine Fr.trans ?_ hf7 | apply Fr.alloc | apply Fr.drew)) hf8)
          clear hf8
          go_wp2
          go_ret
          exact ⟨by rw [HR.out, HO.out, HT.out]; rfl, HFIN.out⟩
end Go.Proofs.YtkoobhgedoanhaaGreatDoor

namespace Go.Proofs.YtkoobhgedoanhaaGreatDoor
open Go.RowKit

structure DgIn where
  r : RespIn
  sch : Int
  opaq : ByteArray
def digOf (sch : Int) (opaq : ByteArray) (x : RespIn) : DigIn := ⟨sch, x.realm.data.toList, x.nonce.data.toList, opaq.data.toList, x.sess, x.qop.data.toList, x.user.data.toList, x.target.data.toList, (respB x).data.toList, x.cnonce.data.toList, countL x.n⟩
theorem respB_size (x : RespIn) : (respB x).size ≤ 64 := by unfold respB; split <;> exact hashB_size _ _
def DigPost (sch : Int) (opaq : ByteArray) (x : RespIn) (n : Int) (w : World) (e : Ending) (w' : World) : Prop :=
  Fr noB w w' ∧ ((∃ t v, e = .returned (.tuple #[.string ⟨#[]⟩, .iface t v])) ∨ ((sch = 2 ∨ sch = 3) ∧ n = (x.n : Int) ∧ 1 ≤ x.n ∧ x.n ≤ 4294967295 ∧ (digOf sch opaq x).fair = true ∧ e = .returned (.tuple #[.string (bA (digOf sch opaq x).text), .nilIface])))
structure St (b d n : Nat) (w2 : World) (L : List Item) (W : World) : Prop where
  hb : BldF b b (rawT L) W
  hd : BadAt W d (badT L)
  bel : Below w2.heap.size w2 W
  sz : b ≤ W.heap.size
  cnt : L.length ≤ n
  len : (rawT L).length ≤ 7 + 1300 * n
theorem rawT_grow (l : List Item) (nm v : Bs) (q : Bool) {M : Nat} (h : (rawT l).length ≤ M) (hn : nm.length ≤ 20) (hv : v.length ≤ 600) : (rawT (l ++ [(nm, v, q)])).length ≤ M + 1300 := by
  rw [← addT_raw]
  have h1 := addT_len (rawT l) nm (valQ q v)
  have h2 := valQ_len q v
  omega
theorem St.moved {b d n : Nat} {w2 W W' : World} {L : List Item} (h : St b d n w2 L W) (hf : Fr noB W W') (hB : b = w2.heap.size) : St b d n w2 L W' :=
  ⟨h.hb.frNone hf, hf.keep h.hd (fun h => h), h.bel.trans ((Fr.none_below hf).mono (hB ▸ h.sz)), Nat.le_trans h.sz hf.size, h.cnt, h.len⟩
theorem add_st (b d n : Nat) (w2 : World) (L : List Item) (W : World) (nm : Bs) (nb : ByteArray) (v : ByteArray) (q : Bool) (hnb : nb = bA nm) (hB : b = w2.heap.size) (hdb : b < d) (hn : n ≤ 20) (hnm : nm.length ≤ 20) (hv : v.size ≤ 600) (h : St b d n w2 L W) :
    Calls Tryz.prog 53 #[.string nb, .string v, .bool q, .pointer (some ⟨d, 0, none⟩), .pointer (some ⟨b, 0, none⟩)] W (fun e w' => e = .returned (.tuple #[]) ∧ St b d (n + 1) w2 (L ++ [(nm, v.data.toList, q)]) w') := by
  subst hnb
  have hl := h.len
  have hv' : v.data.toList.length ≤ 600 := by simpa using hv
  have := add_any b b d (rawT L) nm v.data.toList (badT L) q W h.hb h.hd (by omega) (by omega) (by omega) (by omega) (by omega) h.sz
  rw [bA_of] at this
  refine this.mono ?_
  rintro e w' ⟨rfl, h1, h2, h3⟩
  rw [addT_raw] at h1
  rw [badT_snoc] at h2
  refine ⟨rfl, h1, h2, h.bel.trans (hB ▸ h3), Nat.le_trans h.sz h3.size, by simp; exact h.cnt, ?_⟩
  exact Nat.le_trans (rawT_grow L nm v.data.toList q hl hnm hv') (by rw [Nat.mul_add]; omega)
theorem badAt_bool {w : World} {d : Nat} {x : Bool} (h : BadAt w d x) : w.cell? ⟨d, 0, none⟩ = some (.bool x) := by simp [World.cell?, show w.heap[d]? = _ from h]
end Go.Proofs.YtkoobhgedoanhaaGreatDoor
