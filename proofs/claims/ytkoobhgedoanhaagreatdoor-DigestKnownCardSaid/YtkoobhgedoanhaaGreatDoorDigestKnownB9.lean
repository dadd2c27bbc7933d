/- proof.Digest, walked. -/
import Derived.Test.YtkoobhgedoanhaaGreatDoorDigestKnownB8
namespace Go.Proofs.YtkoobhgedoanhaaGreatDoor
open Go.RowKit

set_option maxRecDepth 100000 in
set_option maxHeartbeats 16000000 in
theorem Digest_E (sch : Int) (realm nonce opaq qop user pass method target body cnonce : ByteArray) (sess stale : Bool) (dom : Value) (k : Nat) (w : World) (hone : dom.oneCell' = true)
    (hq : qop = ⟨#[]⟩) (hs : sch = 2 ∨ sch = 3) (hk1 : 1 ≤ k) (hk2 : k ≤ 4294967295)
    (x1 : realm.size ≤ 500) (x2 : nonce.size ≤ 500) (x3 : opaq.size ≤ 500) (x4 : user.size ≤ 500) (x5 : pass.size ≤ 500) (x6 : method.size ≤ 500) (x7 : target.size ≤ 500) (x8 : body.size ≤ 500) (x9 : cnonce.size ≤ 500)
    (hdb : TabAt w 12 .u8 dbL) (hh : HashOk sch w) :
    Calls Tryz.prog 16 #[.agg #[.int .i64 sch, .string realm, .string nonce, .string opaq, .bool sess, .string qop, .bool stale, dom], .agg #[.string user, .string pass], .string method, .string target, .string body, .string cnonce, .int .i64 (k : Int)] w (DigPost sch opaq ⟨decide (sch = 3), sess, realm, nonce, qop, user, pass, method, target, body, cnonce, k⟩ k w) := by
  obtain ⟨x, hx⟩ : ∃ x : RespIn, x = ⟨decide (sch = 3), sess, realm, nonce, qop, user, pass, method, target, body, cnonce, k⟩ := ⟨_, rfl⟩
  have xq : qop.size ≤ 500 := by rw [hq]; decide
  have hsm : x.Small := by rw [hx]; exact ⟨by show realm.size ≤ _; omega, by show nonce.size ≤ _; omega, by show qop.size ≤ _; omega, by show user.size ≤ _; omega, by show pass.size ≤ _; omega, by show method.size ≤ _; omega, by show target.size ≤ _; omega, by show body.size ≤ _; omega, by show cnonce.size ≤ _; omega, by show k < _; omega⟩
  rw [← hx]
  have RESP := Lib.hid (show ∀ U, Fr noB w U → Calls Tryz.prog 18 #[.agg #[.int .i64 sch, .string realm, .string nonce, .string opaq, .bool sess, .string qop, .bool stale, dom], .agg #[.string user, .string pass], .string method, .string target, .string body, .string cnonce, .int .i64 (k : Int)] U fun e w' => e = .returned (.string (respB x)) ∧ Fr noB U w' from fun U hU => by
    have := Response_any ⟨sch, realm, nonce, opaq, sess, qop, stale, dom⟩ x U hsm (by rw [hx]) (by rw [hx]) (by rw [hx]) (by rw [hx]) (by rw [hx]) hone (hdb.fr hU) (hh.fr hU)
    rw [hx] at this ⊢
    exact this)
  have COUNT := Lib.hid (show ∀ U, Fr noB w U → Calls Tryz.prog 19 #[.int .i64 (k : Int)] U fun e w' => e = .returned (.string (bA (countL k))) ∧ Fr noB U w' from fun U hU => Count_any k U (by omega) (hdb.fr hU))
  have NAME := Lib.hid (fun U => name_any sch realm nonce opaq qop sess stale dom U)
  have hrs := respB_size x
  have HX := Lib.hid hx
  have HQ := Lib.hid hq
  have HS := Lib.hid hs
  clear hdb hh hsm
  obtain ⟨w2, hw2⟩ : ∃ w2, w2 = (w.alloc (.cells #[.int .i64 sch, .string realm, .string nonce, .string opaq, .bool sess, .string qop, .bool stale, dom] 24)).alloc (.cells #[.string user, .string pass] 26) := ⟨_, rfl⟩
  have hf2 : Fr noB w w2 := by rw [hw2]; exact ((Fr.refl noB w).alloc _).alloc _
  have hsz2 : w2.heap.size = w.heap.size + 2 := by rw [hw2]; simp
  have k1 : w2.heap[w.heap.size]? = some (.cells #[.int .i64 sch, .string realm, .string nonce, .string opaq, .bool sess, .string qop, .bool stale, dom] 24 (0, 0)) := by rw [hw2]; exact ((Fr.refl noB _).alloc _).keep (new_block _ _) (fun h => h)
  have k2 : w2.heap[w.heap.size + 1]? = some (.cells #[.string user, .string pass] 26 (0, 0)) := by
    have h := new_block (w.alloc (.cells #[.int .i64 sch, .string realm, .string nonce, .string opaq, .bool sess, .string qop, .bool stale, dom] 24)) (.cells #[.string user, .string pass] 26)
    rw [World.size_alloc] at h
    rw [hw2]; exact h
  have HC := Lib.hid (show ∀ U, Below w2.heap.size w2 U → (U.cell? ⟨w.heap.size, 0, none⟩ = some (.int .i64 sch) ∧ U.cell? ⟨w.heap.size, 1, none⟩ = some (.string realm) ∧ U.cell? ⟨w.heap.size, 2, none⟩ = some (.string nonce) ∧ U.cell? ⟨w.heap.size, 3, none⟩ = some (.string opaq) ∧ U.cell? ⟨w.heap.size, 4, none⟩ = some (.bool sess) ∧ U.cell? ⟨w.heap.size, 5, none⟩ = some (.string qop) ∧ U.cell? ⟨w.heap.size, 6, none⟩ = some (.bool stale) ∧ U.cell? ⟨w.heap.size, 7, none⟩ = some dom) ∧ U.cell? ⟨w.heap.size + 1, 0, none⟩ = some (.string user) ∧ U.cell? ⟨w.heap.size + 1, 1, none⟩ = some (.string pass) from fun U hU => by
    have j1 := (hU.block w.heap.size (by omega)).trans k1
    have j2 := (hU.block (w.heap.size + 1) (by omega)).trans k2
    exact ⟨by simp [World.cell?, j1], by simp [World.cell?, j2]⟩)
  have HFW := Lib.hid (show ∀ U, Below w2.heap.size w2 U → Fr noB w U from fun U hU => hf2.trans (Fr.of_below hU))
  obtain ⟨b, hb⟩ : ∃ b, b = w2.heap.size := ⟨_, rfl⟩
  obtain ⟨w4, hw4⟩ : ∃ w4, w4 = w2.alloc (.cells #[.pointer none, .slice none 0 0] 97) := ⟨_, rfl⟩
  have hb4 : BldF b b [] w4 := by rw [hw4, hb]; exact Lib.IsBuilderF.of (Bld.new w2)
  have hB4 : Below w2.heap.size w2 w4 := by rw [hw4]; exact (Below.refl _ w2).alloc (Nat.le_refl _) _
  have hs4 : w4.heap.size = b + 1 := by rw [hw4, hb]; simp
  have HW2 := Lib.hid hw2
  have HW4 := Lib.hid hw4
  have hkk : (k : Int) ≤ 4294967295 := by omega
  have hk0 : ¬ (k : Int) < 1 := by omega
  have hkg : ¬ (4294967295 : Int) < (k : Int) := by omega
  obtain ⟨⟨c0, c1, c2, c3, c4, c5, c6, c7⟩, d0, d1⟩ := HC.out w2 (Below.refl _ _)
  rw [hw2] at c0 c1 c2 c3 c4 c5 c6 c7 d0 d1
  clear hw4 hx hq hf2 k1 k2
  have HBS := Lib.hid hb
  have HBN := Lib.hid (show b = w.heap.size + 1 + 1 by omega)
  have HB := Lib.hid hb.symm
  have HB4 := Lib.hid hb4
  have HB4B := Lib.hid hB4
  have HNL := Lib.hid (show (bA (nameL sch sess)).size ≤ 12 by
    show (nameL sch sess).length ≤ 12
    unfold nameL; split <;> cases sess <;> decide)
  have HCL := Lib.hid (show (bA (countL k)).size ≤ 8 by show (countL k).length ≤ 8; unfold countL; rw [hexFix_len]; exact Nat.le_refl _)
  clear hb4 hB4
  obtain rfl : qop = ⟨#[]⟩ := HQ.out
  rcases HS.out with hs0 | hs0
  · obtain rfl : sch = 2 := hs0
    go_enter Tryz.func16, Tryz.ntmps16
    go_wp2_with fail
    rw [← HW2.out, ← HW4.out]
    rw [← HBN.out]
    refine (WriteString_any b b [] ⟨#[68, 105, 103, 101, 115, 116, 32]⟩ w4 HB4.out (by decide) (by omega)).mono ?_
    rintro e w5 ⟨rfl, hb5, hl5, _⟩
    have hs5 := hl5.size
    obtain ⟨d, hd⟩ : ∃ d, d = w5.heap.size := ⟨_, rfl⟩
    obtain ⟨w6, hw6⟩ : ∃ w6, w6 = w5.alloc (.cells #[.bool false] 4) := ⟨_, rfl⟩
    have HBD := Lib.hid (show b < d by omega)
    have bel6 : Below w2.heap.size w2 w6 := by rw [hw6]; exact (HB4B.out.trans (HBS.out ▸ hl5)).alloc (by have := HB4B.out.size; omega) _
    have S0 := Lib.hid (show St b d 0 w2 [] w6 from ⟨by rw [hw6]; exact hb5.frNone ((Fr.refl noB w5).alloc _), by rw [hw6, hd]; exact new_block _ _, bel6, by rw [hw6]; simp; omega, Nat.le_refl _, by decide⟩)
    have HW6 := Lib.hid hw6
    have HDD := Lib.hid hd
    clear c0 c1 c2 c3 c4 c5 c6 c7 d0 d1 hb5 hl5 hw6
    obtain ⟨⟨c0, c1, c2, c3, c4, c5, c6, c7⟩, d0, d1⟩ := HC.out w6 S0.out.bel
    rw [HW6.out] at c0 c1 c2 c3 c4 c5 c6 c7 d0 d1
    go_wp2_with fail
    rw [← HDD.out, ← HW6.out, ← HBN.out]
    refine (add_st b d 0 w2 [] w6 nUser ⟨#[117, 115, 101, 114, 110, 97, 109, 101]⟩ (user) true rfl HBS.out HBD.out (by decide) (by decide) (by omega) S0.out).mono ?_
    rintro e W1 ⟨rfl, s1⟩
    obtain ⟨L1, l1⟩ : ∃ L, L = [] ++ [(nUser, (user).data.toList, true)] := ⟨_, rfl⟩
    rw [← l1] at s1
    have S1 := Lib.hid s1
    have E1 := Lib.hid l1
    clear c0 c1 c2 c3 c4 c5 c6 c7 d0 d1 s1 l1
    obtain ⟨⟨c0, c1, c2, c3, c4, c5, c6, c7⟩, d0, d1⟩ := HC.out W1 S1.out.bel
    go_wp2_with fail
    rw [← HDD.out, ← HBN.out]
    refine (add_st b d 1 w2 L1 W1 nRealm ⟨#[114, 101, 97, 108, 109]⟩ (realm) true rfl HBS.out HBD.out (by decide) (by decide) (by omega) S1.out).mono ?_
    rintro e W2 ⟨rfl, s2⟩
    obtain ⟨L2, l2⟩ : ∃ L, L = L1 ++ [(nRealm, (realm).data.toList, true)] := ⟨_, rfl⟩
    rw [← l2] at s2
    have S2 := Lib.hid s2
    have E2 := Lib.hid l2
    clear c0 c1 c2 c3 c4 c5 c6 c7 d0 d1 s2 l2
    obtain ⟨⟨c0, c1, c2, c3, c4, c5, c6, c7⟩, d0, d1⟩ := HC.out W2 S2.out.bel
    go_wp2_with fail
    rw [← HDD.out, ← HBN.out]
    refine (add_st b d 2 w2 L2 W2 nNonce ⟨#[110, 111, 110, 99, 101]⟩ (nonce) true rfl HBS.out HBD.out (by decide) (by decide) (by omega) S2.out).mono ?_
    rintro e W3 ⟨rfl, s3⟩
    obtain ⟨L3, l3⟩ : ∃ L, L = L2 ++ [(nNonce, (nonce).data.toList, true)] := ⟨_, rfl⟩
    rw [← l3] at s3
    have S3 := Lib.hid s3
    have E3 := Lib.hid l3
    clear c0 c1 c2 c3 c4 c5 c6 c7 d0 d1 s3 l3
    obtain ⟨⟨c0, c1, c2, c3, c4, c5, c6, c7⟩, d0, d1⟩ := HC.out W3 S3.out.bel
    go_wp2_with fail
    rw [← HDD.out, ← HBN.out]
    refine (add_st b d 3 w2 L3 W3 nUri ⟨#[117, 114, 105]⟩ (target) true rfl HBS.out HBD.out (by decide) (by decide) (by omega) S3.out).mono ?_
    rintro e W4 ⟨rfl, s4⟩
    obtain ⟨L4, l4⟩ : ∃ L, L = L3 ++ [(nUri, (target).data.toList, true)] := ⟨_, rfl⟩
    rw [← l4] at s4
    have S4 := Lib.hid s4
    have E4 := Lib.hid l4
    clear c0 c1 c2 c3 c4 c5 c6 c7 d0 d1 s4 l4
    obtain ⟨⟨c0, c1, c2, c3, c4, c5, c6, c7⟩, d0, d1⟩ := HC.out W4 S4.out.bel
    go_wp2_with fail
    refine (RESP.out W4 (HFW.out _ S4.out.bel)).mono ?_
    rintro e wr ⟨rfl, hfr⟩
    have S5 := Lib.hid (S4.out.moved hfr HBS.out)
    clear c0 c1 c2 c3 c4 c5 c6 c7 d0 d1 hfr
    obtain ⟨⟨c0, c1, c2, c3, c4, c5, c6, c7⟩, d0, d1⟩ := HC.out wr S5.out.bel
    go_wp2_with fail
    rw [← HDD.out, ← HBN.out]
    refine (add_st b d 4 w2 L4 wr nResp ⟨#[114, 101, 115, 112, 111, 110, 115, 101]⟩ (respB x) true rfl HBS.out HBD.out (by decide) (by decide) (by omega) S5.out).mono ?_
    rintro e W6 ⟨rfl, s6⟩
    obtain ⟨L6, l6⟩ : ∃ L, L = L4 ++ [(nResp, (respB x).data.toList, true)] := ⟨_, rfl⟩
    rw [← l6] at s6
    have S6 := Lib.hid s6
    have E6 := Lib.hid l6
    clear c0 c1 c2 c3 c4 c5 c6 c7 d0 d1 s6 l6
    obtain ⟨⟨c0, c1, c2, c3, c4, c5, c6, c7⟩, d0, d1⟩ := HC.out W6 S6.out.bel
    go_wp2_with fail
    refine (NAME.out W6).mono ?_
    rintro e wn ⟨rfl, hfn⟩
    have S7 := Lib.hid (S6.out.moved hfn HBS.out)
    clear c0 c1 c2 c3 c4 c5 c6 c7 d0 d1 hfn
    obtain ⟨⟨c0, c1, c2, c3, c4, c5, c6, c7⟩, d0, d1⟩ := HC.out wn S7.out.bel
    go_wp2_with fail
    rw [← HDD.out, ← HBN.out]
    refine (add_st b d 5 w2 L6 wn nAlg ⟨#[97, 108, 103, 111, 114, 105, 116, 104, 109]⟩ (bA (nameL 2 sess)) false rfl HBS.out HBD.out (by decide) (by decide) (by have := HNL.out; omega) S7.out).mono ?_
    rintro e W8 ⟨rfl, s8⟩
    obtain ⟨L8, l8⟩ : ∃ L, L = L6 ++ [(nAlg, (bA (nameL 2 sess)).data.toList, false)] := ⟨_, rfl⟩
    rw [← l8] at s8
    have S8 := Lib.hid s8
    have E8 := Lib.hid l8
    clear c0 c1 c2 c3 c4 c5 c6 c7 d0 d1 s8 l8
    obtain ⟨⟨c0, c1, c2, c3, c4, c5, c6, c7⟩, d0, d1⟩ := HC.out W8 S8.out.bel
    cases sess with
    | false =>
      by_cases ho : opaq.data.toList.isEmpty = true
      · have o1 : opaq.toList = [] := by rw [ByteArray.toList_eq]; exact List.isEmpty_iff.1 ho
        have hop : opI opaq.data.toList = [] := by unfold opI; rw [if_pos ho]
        have o2 : (opaq.toList == []) = true := by rw [o1]; rfl
        have o3 : opaq.toList.isEmpty = true := by rw [o1]; rfl
        skip
        have hdc := badAt_bool S8.out.hd
        rw [HDD.out] at hdc
        cases hbad : badT L8 with
        | true =>
          rw [hbad] at hdc
          go_wp2
          go_ret2
          exact ⟨HFW.out _ S8.out.bel, Or.inl ⟨_, _, rfl⟩⟩
        | false =>
          rw [hbad] at hdc
          have HIT := Lib.hid (show (digOf 2 opaq x).items = L8 by rw [E8.out, E6.out, E4.out, E3.out, E2.out, E1.out, HX.out]; exact (show headI _ _ _ _ _ _ ++ (twoI _ _ ++ (cnI _ _ _ ++ opI opaq.data.toList)) = _ by rw [hop]; rfl))
          have HFA := Lib.hid (DigIn.fair_of (d := digOf 2 opaq x) (by rw [HIT.out]; exact hbad))
          have HTX := Lib.hid (DigIn.text_of HFA.out)
          go_wp2_with fail
          rw [← HBN.out]
          refine (Tryz.Builder_String_any_k b b (rawT L8) W8 (by have h := S8.out.hb; exact h) (S8.out.sz)).mono ?_
          rintro e wz ⟨rfl, _, hlz, _⟩
          go_wp2
          go_ret2
          refine ⟨HFW.out _ ((S8.out.bel).trans (HBS.out ▸ hlz)), Or.inr ⟨by decide, by rw [HX.out], by rw [HX.out]; exact hk1, by rw [HX.out]; exact hk2, HFA.out, ?_⟩⟩
          rw [← HTX.out, HIT.out]; rfl
      · have ho' : opaq.data.toList.isEmpty = false := by simpa using ho
        have hop : opI opaq.data.toList = [(nOpaque, opaq.data.toList, true)] := by unfold opI; rw [if_neg ho]
        have o1 : ¬ opaq.toList = [] := by rw [ByteArray.toList_eq]; intro h; rw [h] at ho'; cases ho'
        have o2 : (opaq.toList == []) = false := beq_eq_false_iff_ne.2 o1
        have o3 : opaq.toList.isEmpty = false := by rw [ByteArray.toList_eq]; exact ho'
        go_wp2_with fail
        rw [← HDD.out, ← HBN.out]
        refine (add_st b d 6 w2 L8 W8 nOpaque ⟨#[111, 112, 97, 113, 117, 101]⟩ (opaq) true rfl HBS.out HBD.out (by decide) (by decide) (by omega) S8.out).mono ?_
        rintro e W9 ⟨rfl, s9⟩
        obtain ⟨L9, l9⟩ : ∃ L, L = L8 ++ [(nOpaque, (opaq).data.toList, true)] := ⟨_, rfl⟩
        rw [← l9] at s9
        have S9 := Lib.hid s9
        have E9 := Lib.hid l9
        clear c0 c1 c2 c3 c4 c5 c6 c7 d0 d1 s9 l9
        obtain ⟨⟨c0, c1, c2, c3, c4, c5, c6, c7⟩, d0, d1⟩ := HC.out W9 S9.out.bel
        have hdc := badAt_bool S9.out.hd
        rw [HDD.out] at hdc
        cases hbad : badT L9 with
        | true =>
          rw [hbad] at hdc
          go_wp2
          go_ret2
          exact ⟨HFW.out _ S9.out.bel, Or.inl ⟨_, _, rfl⟩⟩
        | false =>
          rw [hbad] at hdc
          have HIT := Lib.hid (show (digOf 2 opaq x).items = L9 by rw [E9.out, E8.out, E6.out, E4.out, E3.out, E2.out, E1.out, HX.out]; exact (show headI _ _ _ _ _ _ ++ (twoI _ _ ++ (cnI _ _ _ ++ opI opaq.data.toList)) = _ by rw [hop]; rfl))
          have HFA := Lib.hid (DigIn.fair_of (d := digOf 2 opaq x) (by rw [HIT.out]; exact hbad))
          have HTX := Lib.hid (DigIn.text_of HFA.out)
          go_wp2_with fail
          rw [← HBN.out]
          refine (Tryz.Builder_String_any_k b b (rawT L9) W9 (by have h := S9.out.hb; exact h) (S9.out.sz)).mono ?_
          rintro e wz ⟨rfl, _, hlz, _⟩
          go_wp2
          go_ret2
          refine ⟨HFW.out _ ((S9.out.bel).trans (HBS.out ▸ hlz)), Or.inr ⟨by decide, by rw [HX.out], by rw [HX.out]; exact hk1, by rw [HX.out]; exact hk2, HFA.out, ?_⟩⟩
          rw [← HTX.out, HIT.out]; rfl
    | true =>
      go_wp2_with fail
      rw [← HDD.out, ← HBN.out]
      refine (add_st b d 6 w2 L8 W8 nCnonce ⟨#[99, 110, 111, 110, 99, 101]⟩ (cnonce) true rfl HBS.out HBD.out (by decide) (by decide) (by omega) S8.out).mono ?_
      rintro e W10 ⟨rfl, s10⟩
      obtain ⟨L10, l10⟩ : ∃ L, L = L8 ++ [(nCnonce, (cnonce).data.toList, true)] := ⟨_, rfl⟩
      rw [← l10] at s10
      have S10 := Lib.hid s10
      have E10 := Lib.hid l10
      clear c0 c1 c2 c3 c4 c5 c6 c7 d0 d1 s10 l10
      obtain ⟨⟨c0, c1, c2, c3, c4, c5, c6, c7⟩, d0, d1⟩ := HC.out W10 S10.out.bel
      by_cases ho : opaq.data.toList.isEmpty = true
      · have o1 : opaq.toList = [] := by rw [ByteArray.toList_eq]; exact List.isEmpty_iff.1 ho
        have hop : opI opaq.data.toList = [] := by unfold opI; rw [if_pos ho]
        have o2 : (opaq.toList == []) = true := by rw [o1]; rfl
        have o3 : opaq.toList.isEmpty = true := by rw [o1]; rfl
        skip
        have hdc := badAt_bool S10.out.hd
        rw [HDD.out] at hdc
        cases hbad : badT L10 with
        | true =>
          rw [hbad] at hdc
          go_wp2
          go_ret2
          exact ⟨HFW.out _ S10.out.bel, Or.inl ⟨_, _, rfl⟩⟩
        | false =>
          rw [hbad] at hdc
          have HIT := Lib.hid (show (digOf 2 opaq x).items = L10 by rw [E10.out, E8.out, E6.out, E4.out, E3.out, E2.out, E1.out, HX.out]; exact (show headI _ _ _ _ _ _ ++ (twoI _ _ ++ (cnI _ _ _ ++ opI opaq.data.toList)) = _ by rw [hop]; rfl))
          have HFA := Lib.hid (DigIn.fair_of (d := digOf 2 opaq x) (by rw [HIT.out]; exact hbad))
          have HTX := Lib.hid (DigIn.text_of HFA.out)
          go_wp2_with fail
          rw [← HBN.out]
          refine (Tryz.Builder_String_any_k b b (rawT L10) W10 (by have h := S10.out.hb; exact h) (S10.out.sz)).mono ?_
          rintro e wz ⟨rfl, _, hlz, _⟩
          go_wp2
          go_ret2
          refine ⟨HFW.out _ ((S10.out.bel).trans (HBS.out ▸ hlz)), Or.inr ⟨by decide, by rw [HX.out], by rw [HX.out]; exact hk1, by rw [HX.out]; exact hk2, HFA.out, ?_⟩⟩
          rw [← HTX.out, HIT.out]; rfl
      · have ho' : opaq.data.toList.isEmpty = false := by simpa using ho
        have hop : opI opaq.data.toList = [(nOpaque, opaq.data.toList, true)] := by unfold opI; rw [if_neg ho]
        have o1 : ¬ opaq.toList = [] := by rw [ByteArray.toList_eq]; intro h; rw [h] at ho'; cases ho'
        have o2 : (opaq.toList == []) = false := beq_eq_false_iff_ne.2 o1
        have o3 : opaq.toList.isEmpty = false := by rw [ByteArray.toList_eq]; exact ho'
        go_wp2_with fail
        rw [← HDD.out, ← HBN.out]
        refine (add_st b d 7 w2 L10 W10 nOpaque ⟨#[111, 112, 97, 113, 117, 101]⟩ (opaq) true rfl HBS.out HBD.out (by decide) (by decide) (by omega) S10.out).mono ?_
        rintro e W11 ⟨rfl, s11⟩
        obtain ⟨L11, l11⟩ : ∃ L, L = L10 ++ [(nOpaque, (opaq).data.toList, true)] := ⟨_, rfl⟩
        rw [← l11] at s11
        have S11 := Lib.hid s11
        have E11 := Lib.hid l11
        clear c0 c1 c2 c3 c4 c5 c6 c7 d0 d1 s11 l11
        obtain ⟨⟨c0, c1, c2, c3, c4, c5, c6, c7⟩, d0, d1⟩ := HC.out W11 S11.out.bel
        have hdc := badAt_bool S11.out.hd
        rw [HDD.out] at hdc
        cases hbad : badT L11 with
        | true =>
          rw [hbad] at hdc
          go_wp2
          go_ret2
          exact ⟨HFW.out _ S11.out.bel, Or.inl ⟨_, _, rfl⟩⟩
        | false =>
          rw [hbad] at hdc
          have HIT := Lib.hid (show (digOf 2 opaq x).items = L11 by rw [E11.out, E10.out, E8.out, E6.out, E4.out, E3.out, E2.out, E1.out, HX.out]; exact (show headI _ _ _ _ _ _ ++ (twoI _ _ ++ (cnI _ _ _ ++ opI opaq.data.toList)) = _ by rw [hop]; rfl))
          have HFA := Lib.hid (DigIn.fair_of (d := digOf 2 opaq x) (by rw [HIT.out]; exact hbad))
          have HTX := Lib.hid (DigIn.text_of HFA.out)
          go_wp2_with fail
          rw [← HBN.out]
          refine (Tryz.Builder_String_any_k b b (rawT L11) W11 (by have h := S11.out.hb; exact h) (S11.out.sz)).mono ?_
          rintro e wz ⟨rfl, _, hlz, _⟩
          go_wp2
          go_ret2
          refine ⟨HFW.out _ ((S11.out.bel).trans (HBS.out ▸ hlz)), Or.inr ⟨by decide, by rw [HX.out], by rw [HX.out]; exact hk1, by rw [HX.out]; exact hk2, HFA.out, ?_⟩⟩
          rw [← HTX.out, HIT.out]; rfl
  · obtain rfl : sch = 3 := hs0
    go_enter Tryz.func16, Tryz.ntmps16
    go_wp2_with fail
    rw [← HW2.out, ← HW4.out]
    rw [← HBN.out]
    refine (WriteString_any b b [] ⟨#[68, 105, 103, 101, 115, 116, 32]⟩ w4 HB4.out (by decide) (by omega)).mono ?_
    rintro e w5 ⟨rfl, hb5, hl5, _⟩
    have hs5 := hl5.size
    obtain ⟨d, hd⟩ : ∃ d, d = w5.heap.size := ⟨_, rfl⟩
    obtain ⟨w6, hw6⟩ : ∃ w6, w6 = w5.alloc (.cells #[.bool false] 4) := ⟨_, rfl⟩
    have HBD := Lib.hid (show b < d by omega)
    have bel6 : Below w2.heap.size w2 w6 := by rw [hw6]; exact (HB4B.out.trans (HBS.out ▸ hl5)).alloc (by have := HB4B.out.size; omega) _
    have S0 := Lib.hid (show St b d 0 w2 [] w6 from ⟨by rw [hw6]; exact hb5.frNone ((Fr.refl noB w5).alloc _), by rw [hw6, hd]; exact new_block _ _, bel6, by rw [hw6]; simp; omega, Nat.le_refl _, by decide⟩)
    have HW6 := Lib.hid hw6
    have HDD := Lib.hid hd
    clear c0 c1 c2 c3 c4 c5 c6 c7 d0 d1 hb5 hl5 hw6
    obtain ⟨⟨c0, c1, c2, c3, c4, c5, c6, c7⟩, d0, d1⟩ := HC.out w6 S0.out.bel
    rw [HW6.out] at c0 c1 c2 c3 c4 c5 c6 c7 d0 d1
    go_wp2_with fail
    rw [← HDD.out, ← HW6.out, ← HBN.out]
    refine (add_st b d 0 w2 [] w6 nUser ⟨#[117, 115, 101, 114, 110, 97, 109, 101]⟩ (user) true rfl HBS.out HBD.out (by decide) (by decide) (by omega) S0.out).mono ?_
    rintro e W12 ⟨rfl, s12⟩
    obtain ⟨L12, l12⟩ : ∃ L, L = [] ++ [(nUser, (user).data.toList, true)] := ⟨_, rfl⟩
    rw [← l12] at s12
    have S12 := Lib.hid s12
    have E12 := Lib.hid l12
    clear c0 c1 c2 c3 c4 c5 c6 c7 d0 d1 s12 l12
    obtain ⟨⟨c0, c1, c2, c3, c4, c5, c6, c7⟩, d0, d1⟩ := HC.out W12 S12.out.bel
    go_wp2_with fail
    rw [← HDD.out, ← HBN.out]
    refine (add_st b d 1 w2 L12 W12 nRealm ⟨#[114, 101, 97, 108, 109]⟩ (realm) true rfl HBS.out HBD.out (by decide) (by decide) (by omega) S12.out).mono ?_
    rintro e W13 ⟨rfl, s13⟩
    obtain ⟨L13, l13⟩ : ∃ L, L = L12 ++ [(nRealm, (realm).data.toList, true)] := ⟨_, rfl⟩
    rw [← l13] at s13
    have S13 := Lib.hid s13
    have E13 := Lib.hid l13
    clear c0 c1 c2 c3 c4 c5 c6 c7 d0 d1 s13 l13
    obtain ⟨⟨c0, c1, c2, c3, c4, c5, c6, c7⟩, d0, d1⟩ := HC.out W13 S13.out.bel
    go_wp2_with fail
    rw [← HDD.out, ← HBN.out]
    refine (add_st b d 2 w2 L13 W13 nNonce ⟨#[110, 111, 110, 99, 101]⟩ (nonce) true rfl HBS.out HBD.out (by decide) (by decide) (by omega) S13.out).mono ?_
    rintro e W14 ⟨rfl, s14⟩
    obtain ⟨L14, l14⟩ : ∃ L, L = L13 ++ [(nNonce, (nonce).data.toList, true)] := ⟨_, rfl⟩
    rw [← l14] at s14
    have S14 := Lib.hid s14
    have E14 := Lib.hid l14
    clear c0 c1 c2 c3 c4 c5 c6 c7 d0 d1 s14 l14
    obtain ⟨⟨c0, c1, c2, c3, c4, c5, c6, c7⟩, d0, d1⟩ := HC.out W14 S14.out.bel
    go_wp2_with fail
    rw [← HDD.out, ← HBN.out]
    refine (add_st b d 3 w2 L14 W14 nUri ⟨#[117, 114, 105]⟩ (target) true rfl HBS.out HBD.out (by decide) (by decide) (by omega) S14.out).mono ?_
    rintro e W15 ⟨rfl, s15⟩
    obtain ⟨L15, l15⟩ : ∃ L, L = L14 ++ [(nUri, (target).data.toList, true)] := ⟨_, rfl⟩
    rw [← l15] at s15
    have S15 := Lib.hid s15
    have E15 := Lib.hid l15
    clear c0 c1 c2 c3 c4 c5 c6 c7 d0 d1 s15 l15
    obtain ⟨⟨c0, c1, c2, c3, c4, c5, c6, c7⟩, d0, d1⟩ := HC.out W15 S15.out.bel
    go_wp2_with fail
    refine (RESP.out W15 (HFW.out _ S15.out.bel)).mono ?_
    rintro e wr ⟨rfl, hfr⟩
    have S16 := Lib.hid (S15.out.moved hfr HBS.out)
    clear c0 c1 c2 c3 c4 c5 c6 c7 d0 d1 hfr
    obtain ⟨⟨c0, c1, c2, c3, c4, c5, c6, c7⟩, d0, d1⟩ := HC.out wr S16.out.bel
    go_wp2_with fail
    rw [← HDD.out, ← HBN.out]
    refine (add_st b d 4 w2 L15 wr nResp ⟨#[114, 101, 115, 112, 111, 110, 115, 101]⟩ (respB x) true rfl HBS.out HBD.out (by decide) (by decide) (by omega) S16.out).mono ?_
    rintro e W17 ⟨rfl, s17⟩
    obtain ⟨L17, l17⟩ : ∃ L, L = L15 ++ [(nResp, (respB x).data.toList, true)] := ⟨_, rfl⟩
    rw [← l17] at s17
    have S17 := Lib.hid s17
    have E17 := Lib.hid l17
    clear c0 c1 c2 c3 c4 c5 c6 c7 d0 d1 s17 l17
    obtain ⟨⟨c0, c1, c2, c3, c4, c5, c6, c7⟩, d0, d1⟩ := HC.out W17 S17.out.bel
    go_wp2_with fail
    refine (NAME.out W17).mono ?_
    rintro e wn ⟨rfl, hfn⟩
    have S18 := Lib.hid (S17.out.moved hfn HBS.out)
    clear c0 c1 c2 c3 c4 c5 c6 c7 d0 d1 hfn
    obtain ⟨⟨c0, c1, c2, c3, c4, c5, c6, c7⟩, d0, d1⟩ := HC.out wn S18.out.bel
    go_wp2_with fail
    rw [← HDD.out, ← HBN.out]
    refine (add_st b d 5 w2 L17 wn nAlg ⟨#[97, 108, 103, 111, 114, 105, 116, 104, 109]⟩ (bA (nameL 3 sess)) false rfl HBS.out HBD.out (by decide) (by decide) (by have := HNL.out; omega) S18.out).mono ?_
    rintro e W19 ⟨rfl, s19⟩
    obtain ⟨L19, l19⟩ : ∃ L, L = L17 ++ [(nAlg, (bA (nameL 3 sess)).data.toList, false)] := ⟨_, rfl⟩
    rw [← l19] at s19
    have S19 := Lib.hid s19
    have E19 := Lib.hid l19
    clear c0 c1 c2 c3 c4 c5 c6 c7 d0 d1 s19 l19
    obtain ⟨⟨c0, c1, c2, c3, c4, c5, c6, c7⟩, d0, d1⟩ := HC.out W19 S19.out.bel
    cases sess with
    | false =>
      by_cases ho : opaq.data.toList.isEmpty = true
      · have o1 : opaq.toList = [] := by rw [ByteArray.toList_eq]; exact List.isEmpty_iff.1 ho
        have hop : opI opaq.data.toList = [] := by unfold opI; rw [if_pos ho]
        have o2 : (opaq.toList == []) = true := by rw [o1]; rfl
        have o3 : opaq.toList.isEmpty = true := by rw [o1]; rfl
        skip
        have hdc := badAt_bool S19.out.hd
        rw [HDD.out] at hdc
        cases hbad : badT L19 with
        | true =>
          rw [hbad] at hdc
          go_wp2
          go_ret2
          exact ⟨HFW.out _ S19.out.bel, Or.inl ⟨_, _, rfl⟩⟩
        | false =>
          rw [hbad] at hdc
          have HIT := Lib.hid (show (digOf 3 opaq x).items = L19 by rw [E19.out, E17.out, E15.out, E14.out, E13.out, E12.out, HX.out]; exact (show headI _ _ _ _ _ _ ++ (twoI _ _ ++ (cnI _ _ _ ++ opI opaq.data.toList)) = _ by rw [hop]; rfl))
          have HFA := Lib.hid (DigIn.fair_of (d := digOf 3 opaq x) (by rw [HIT.out]; exact hbad))
          have HTX := Lib.hid (DigIn.text_of HFA.out)
          go_wp2_with fail
          rw [← HBN.out]
          refine (Tryz.Builder_String_any_k b b (rawT L19) W19 (by have h := S19.out.hb; exact h) (S19.out.sz)).mono ?_
          rintro e wz ⟨rfl, _, hlz, _⟩
          go_wp2
          go_ret2
          refine ⟨HFW.out _ ((S19.out.bel).trans (HBS.out ▸ hlz)), Or.inr ⟨by decide, by rw [HX.out], by rw [HX.out]; exact hk1, by rw [HX.out]; exact hk2, HFA.out, ?_⟩⟩
          rw [← HTX.out, HIT.out]; rfl
      · have ho' : opaq.data.toList.isEmpty = false := by simpa using ho
        have hop : opI opaq.data.toList = [(nOpaque, opaq.data.toList, true)] := by unfold opI; rw [if_neg ho]
        have o1 : ¬ opaq.toList = [] := by rw [ByteArray.toList_eq]; intro h; rw [h] at ho'; cases ho'
        have o2 : (opaq.toList == []) = false := beq_eq_false_iff_ne.2 o1
        have o3 : opaq.toList.isEmpty = false := by rw [ByteArray.toList_eq]; exact ho'
        go_wp2_with fail
        rw [← HDD.out, ← HBN.out]
        refine (add_st b d 6 w2 L19 W19 nOpaque ⟨#[111, 112, 97, 113, 117, 101]⟩ (opaq) true rfl HBS.out HBD.out (by decide) (by decide) (by omega) S19.out).mono ?_
        rintro e W20 ⟨rfl, s20⟩
        obtain ⟨L20, l20⟩ : ∃ L, L = L19 ++ [(nOpaque, (opaq).data.toList, true)] := ⟨_, rfl⟩
        rw [← l20] at s20
        have S20 := Lib.hid s20
        have E20 := Lib.hid l20
        clear c0 c1 c2 c3 c4 c5 c6 c7 d0 d1 s20 l20
        obtain ⟨⟨c0, c1, c2, c3, c4, c5, c6, c7⟩, d0, d1⟩ := HC.out W20 S20.out.bel
        have hdc := badAt_bool S20.out.hd
        rw [HDD.out] at hdc
        cases hbad : badT L20 with
        | true =>
          rw [hbad] at hdc
          go_wp2
          go_ret2
          exact ⟨HFW.out _ S20.out.bel, Or.inl ⟨_, _, rfl⟩⟩
        | false =>
          rw [hbad] at hdc
          have HIT := Lib.hid (show (digOf 3 opaq x).items = L20 by rw [E20.out, E19.out, E17.out, E15.out, E14.out, E13.out, E12.out, HX.out]; exact (show headI _ _ _ _ _ _ ++ (twoI _ _ ++ (cnI _ _ _ ++ opI opaq.data.toList)) = _ by rw [hop]; rfl))
          have HFA := Lib.hid (DigIn.fair_of (d := digOf 3 opaq x) (by rw [HIT.out]; exact hbad))
          have HTX := Lib.hid (DigIn.text_of HFA.out)
          go_wp2_with fail
          rw [← HBN.out]
          refine (Tryz.Builder_String_any_k b b (rawT L20) W20 (by have h := S20.out.hb; exact h) (S20.out.sz)).mono ?_
          rintro e wz ⟨rfl, _, hlz, _⟩
          go_wp2
          go_ret2
          refine ⟨HFW.out _ ((S20.out.bel).trans (HBS.out ▸ hlz)), Or.inr ⟨by decide, by rw [HX.out], by rw [HX.out]; exact hk1, by rw [HX.out]; exact hk2, HFA.out, ?_⟩⟩
          rw [← HTX.out, HIT.out]; rfl
    | true =>
      go_wp2_with fail
      rw [← HDD.out, ← HBN.out]
      refine (add_st b d 6 w2 L19 W19 nCnonce ⟨#[99, 110, 111, 110, 99, 101]⟩ (cnonce) true rfl HBS.out HBD.out (by decide) (by decide) (by omega) S19.out).mono ?_
      rintro e W21 ⟨rfl, s21⟩
      obtain ⟨L21, l21⟩ : ∃ L, L = L19 ++ [(nCnonce, (cnonce).data.toList, true)] := ⟨_, rfl⟩
      rw [← l21] at s21
      have S21 := Lib.hid s21
      have E21 := Lib.hid l21
      clear c0 c1 c2 c3 c4 c5 c6 c7 d0 d1 s21 l21
      obtain ⟨⟨c0, c1, c2, c3, c4, c5, c6, c7⟩, d0, d1⟩ := HC.out W21 S21.out.bel
      by_cases ho : opaq.data.toList.isEmpty = true
      · have o1 : opaq.toList = [] := by rw [ByteArray.toList_eq]; exact List.isEmpty_iff.1 ho
        have hop : opI opaq.data.toList = [] := by unfold opI; rw [if_pos ho]
        have o2 : (opaq.toList == []) = true := by rw [o1]; rfl
        have o3 : opaq.toList.isEmpty = true := by rw [o1]; rfl
        skip
        have hdc := badAt_bool S21.out.hd
        rw [HDD.out] at hdc
        cases hbad : badT L21 with
        | true =>
          rw [hbad] at hdc
          go_wp2
          go_ret2
          exact ⟨HFW.out _ S21.out.bel, Or.inl ⟨_, _, rfl⟩⟩
        | false =>
          rw [hbad] at hdc
          have HIT := Lib.hid (show (digOf 3 opaq x).items = L21 by rw [E21.out, E19.out, E17.out, E15.out, E14.out, E13.out, E12.out, HX.out]; exact (show headI _ _ _ _ _ _ ++ (twoI _ _ ++ (cnI _ _ _ ++ opI opaq.data.toList)) = _ by rw [hop]; rfl))
          have HFA := Lib.hid (DigIn.fair_of (d := digOf 3 opaq x) (by rw [HIT.out]; exact hbad))
          have HTX := Lib.hid (DigIn.text_of HFA.out)
          go_wp2_with fail
          rw [← HBN.out]
          refine (Tryz.Builder_String_any_k b b (rawT L21) W21 (by have h := S21.out.hb; exact h) (S21.out.sz)).mono ?_
          rintro e wz ⟨rfl, _, hlz, _⟩
          go_wp2
          go_ret2
          refine ⟨HFW.out _ ((S21.out.bel).trans (HBS.out ▸ hlz)), Or.inr ⟨by decide, by rw [HX.out], by rw [HX.out]; exact hk1, by rw [HX.out]; exact hk2, HFA.out, ?_⟩⟩
          rw [← HTX.out, HIT.out]; rfl
      · have ho' : opaq.data.toList.isEmpty = false := by simpa using ho
        have hop : opI opaq.data.toList = [(nOpaque, opaq.data.toList, true)] := by unfold opI; rw [if_neg ho]
        have o1 : ¬ opaq.toList = [] := by rw [ByteArray.toList_eq]; intro h; rw [h] at ho'; cases ho'
        have o2 : (opaq.toList == []) = false := beq_eq_false_iff_ne.2 o1
        have o3 : opaq.toList.isEmpty = false := by rw [ByteArray.toList_eq]; exact ho'
        go_wp2_with fail
        rw [← HDD.out, ← HBN.out]
        refine (add_st b d 7 w2 L21 W21 nOpaque ⟨#[111, 112, 97, 113, 117, 101]⟩ (opaq) true rfl HBS.out HBD.out (by decide) (by decide) (by omega) S21.out).mono ?_
        rintro e W22 ⟨rfl, s22⟩
        obtain ⟨L22, l22⟩ : ∃ L, L = L21 ++ [(nOpaque, (opaq).data.toList, true)] := ⟨_, rfl⟩
        rw [← l22] at s22
        have S22 := Lib.hid s22
        have E22 := Lib.hid l22
        clear c0 c1 c2 c3 c4 c5 c6 c7 d0 d1 s22 l22
        obtain ⟨⟨c0, c1, c2, c3, c4, c5, c6, c7⟩, d0, d1⟩ := HC.out W22 S22.out.bel
        have hdc := badAt_bool S22.out.hd
        rw [HDD.out] at hdc
        cases hbad : badT L22 with
        | true =>
          rw [hbad] at hdc
          go_wp2
          go_ret2
          exact ⟨HFW.out _ S22.out.bel, Or.inl ⟨_, _, rfl⟩⟩
        | false =>
          rw [hbad] at hdc
          have HIT := Lib.hid (show (digOf 3 opaq x).items = L22 by rw [E22.out, E21.out, E19.out, E17.out, E15.out, E14.out, E13.out, E12.out, HX.out]; exact (show headI _ _ _ _ _ _ ++ (twoI _ _ ++ (cnI _ _ _ ++ opI opaq.data.toList)) = _ by rw [hop]; rfl))
          have HFA := Lib.hid (DigIn.fair_of (d := digOf 3 opaq x) (by rw [HIT.out]; exact hbad))
          have HTX := Lib.hid (DigIn.text_of HFA.out)
          go_wp2_with fail
          rw [← HBN.out]
          refine (Tryz.Builder_String_any_k b b (rawT L22) W22 (by have h := S22.out.hb; exact h) (S22.out.sz)).mono ?_
          rintro e wz ⟨rfl, _, hlz, _⟩
          go_wp2
          go_ret2
          refine ⟨HFW.out _ ((S22.out.bel).trans (HBS.out ▸ hlz)), Or.inr ⟨by decide, by rw [HX.out], by rw [HX.out]; exact hk1, by rw [HX.out]; exact hk2, HFA.out, ?_⟩⟩
          rw [← HTX.out, HIT.out]; rfl
end Go.Proofs.YtkoobhgedoanhaaGreatDoor
