/- proof.Digest: its closure, and proof.name. Walks: coding.Hex. Digits of sixteen, read: plain forms. Digits and bytes: what is written is read. Eight digits of a number: what they are, and how they stand. A Digest header's text, part by part; proof.name; the laws' small. strings.Trim by a set of ASCII bytes: what is left; nothing is left just where all bytes are of the set. Package sum: pad, word. -/
import Derived.Test.YtkoobhgedoanhaaGreatDoorDigestKnownB1
import Derived.Test.YtkoobhgedoanhaaGreatDoorDigestKnownB2
import Derived.Test.YtkoobhgedoanhaaGreatDoorDigestKnownB4
import Derived.Test.YtkoobhgedoanhaaGreatDoorDigestKnownB5
import Derived.Test.YtkoobhgedoanhaaGreatDoorShelf
import Derived.Lib.SlTrimSet
import Derived.Shelf.Strings.SlTrimAscii
import Derived.Laws.MakeOwn
namespace Go.Proofs.YtkoobhgedoanhaaGreatDoor
open Go.RowKit

theorem BldF.off {S : Nat → Prop} {B b : Nat} {l : List UInt8} {w w' : World} (h : BldF B b l w) (hf : Fr S w w') (hb : ¬ S b) (hS : ∀ g cur fz, w.heap[g]? = some (.cells cur 5 fz) → ¬ S g) : BldF B b l w' := by
  have key : ∀ p, Lib.BuilderAtF 97 5 B b p (u8s l) w → Lib.BuilderAtF 97 5 B b p (u8s l) w' := by
    rintro p ⟨hB, v, hv, ⟨hx, hr⟩, hne⟩
    refine ⟨hB, v, hf.keep hv hb, ⟨hx, ?_⟩, hne⟩
    rcases hr with hr | ⟨g, cap, cur, fz, rfl, h1, hg, h2⟩
    · exact Or.inl hr
    · exact Or.inr ⟨g, cap, cur, fz, rfl, h1, hf.keep hg (hS g cur fz hg), h2⟩
  exact h.elim (fun x => Or.inl (key _ x)) (fun x => Or.inr (key _ x))
theorem BldF.frNone {B b : Nat} {l : List UInt8} {w w' : World} (h : BldF B b l w) (hf : Fr noB w w') : BldF B b l w' := h.off hf (fun h => h) (fun _ _ _ _ h => h)
/-- the variable that tells that a text could not be told -/
def BadAt (w : World) (d : Nat) (x : Bool) : Prop := w.heap[d]? = some (.cells #[.bool x] 4 (0, 0))
theorem BadAt.oth {b d : Nat} {x : Bool} {w w' : World} (h : BadAt w d x) (ho : OthK b w w') (hd : d ≠ b) : BadAt w' d x :=
  ho d _ h (by simpa using hd) (fun c fz e => by injection e with _ e2; exact absurd e2 (by decide))
def valQ (q : Bool) (v : Bs) : Bs := if q then (if textL v then quoteL v else []) else v
def badQ (q : Bool) (v : Bs) : Bool := q && !textL v
def addT (l nm x : Bs) : Bs := l ++ ((if 7 < l.length then [44, 32] else []) ++ (nm ++ 61 :: x))
def AddPost (B b d : Nat) (l : Bs) (bad : Bool) (nm v : Bs) (q : Bool) (w : World) (e : Ending) (w' : World) : Prop :=
  e = .returned (.tuple #[]) ∧ BldF B b (addT l nm (valQ q v)) w' ∧ BadAt w' d (bad || badQ q v) ∧ Below B w w'
theorem nmT (a b : Bs) : bA a ++ ⟨#[61]⟩ ++ bA b = bA (a ++ 61 :: b) := by
  apply Go.WideShapes.bytes_inj
  simp [bA]
theorem quoteLen (v : Bs) : (quoteL v).length ≤ 2 * v.length + 2 := by
  have := escL_le v
  unfold quoteL
  simp; omega
set_option maxRecDepth 100000 in
set_option maxHeartbeats 8000000 in
theorem add_any (B b d : Nat) (l nm v : Bs) (bad q : Bool) (w : World) (h : BldF B b l w) (hd : BadAt w d bad) (hne : d ≠ b) (hdB : B ≤ d) (hn : nm.length ≤ 1000) (hv : v.length ≤ 100000) (hl : l.length ≤ 100000000) (hB : B ≤ w.heap.size) :
    Calls Tryz.prog 53 #[.string (bA nm), .string (bA v), .bool q, .pointer (some ⟨d, 0, none⟩), .pointer (some ⟨b, 0, none⟩)] w (AddPost B b d l bad nm v q w) := by
  have z1 : (bA nm).size = nm.length := rfl
  have z2 : (bA v).size = v.length := rfl
  have z3 : (⟨#[61]⟩ : ByteArray).size = 1 := rfl
  cases q with
  | false =>
    have VAL : valQ false v = v := rfl
    go_enter Tryz.func53, Tryz.ntmps53
    go_wp2_with fail
    refine (BLen_any B b l w h).mono ?_
    rintro e wl ⟨rfl, rfl⟩
    by_cases h7 : 7 < l.length
    · have h7' : (7 : Int) < (l.length : Int) := by omega
      go_wp2_with fail
      refine (WriteString_any B b l ⟨#[44, 32]⟩ w h (by show l.length + 2 ≤ _; omega) (Nat.le_trans hB (Below.refl B w).size)).mono ?_
      rintro e wx ⟨rfl, hbx, hlx, hox⟩
      have hdx := (hd).oth hox hne
      have HBX := Lib.hid ((Below.refl B w).trans hlx)
      clear hox hlx
      go_wp2_with fail
      rw [show bA nm ++ ⟨#[61]⟩ ++ bA v = bA (nm ++ 61 :: v) from nmT nm v]
      refine (WriteString_any B b _ (bA (nm ++ 61 :: v)) wx hbx (by show (l ++ [44, 32]).length + (nm ++ 61 :: v).length ≤ _; simp; omega) (Nat.le_trans hB HBX.out.size)).mono ?_
      rintro e wy ⟨rfl, hby, hly, hoy⟩
      have hdy := hdx.oth hoy hne
      go_wp2
      go_end0
      refine ⟨rfl, ?_, (by rw [show badQ false v = false from rfl, Bool.or_false]; exact hdy), HBX.out.trans hly⟩
      have e : addT l nm v = l ++ (⟨#[44, 32]⟩ : ByteArray).data.toList ++ (bA (nm ++ 61 :: v)).data.toList := by unfold addT; rw [if_pos h7, bA_data]; simp
      rw [VAL, e]; exact hby
    · have h7' : ¬ (7 : Int) < (l.length : Int) := by omega
      go_wp2_with fail
      rw [show bA nm ++ ⟨#[61]⟩ ++ bA v = bA (nm ++ 61 :: v) from nmT nm v]
      refine (WriteString_any B b l (bA (nm ++ 61 :: v)) w h (by show l.length + (nm ++ 61 :: v).length ≤ _; simp; omega) (Nat.le_trans hB (Below.refl B w).size)).mono ?_
      rintro e wy ⟨rfl, hby, hly, hoy⟩
      have hdy := (hd).oth hoy hne
      go_wp2
      go_end0
      refine ⟨rfl, ?_, (by rw [show badQ false v = false from rfl, Bool.or_false]; exact hdy), (Below.refl B w).trans hly⟩
      have e : addT l nm v = l ++ (bA (nm ++ 61 :: v)).data.toList := by unfold addT; rw [if_neg h7, bA_data]; simp
      rw [VAL, e]; exact hby
  | true =>
    have c0 : ∀ U, Fr noB w U → U.cell? ⟨d, 0, none⟩ = some (.bool bad) ∧ U.frozen? ⟨d, 0, none⟩ = false := fun U hU => by
      have h1 := hU.keep hd (fun h => h)
      exact ⟨by simp [World.cell?, h1], by simp [World.frozen?, h1]⟩
    have HC0 := Lib.hid c0
    clear c0
    cases ht : textL v with
    | true =>
      have VAL : valQ true v = quoteL v := by unfold valQ; rw [ht]; rfl
      have BAD : badQ true v = false := by unfold badQ; rw [ht]; rfl
      have hql := quoteLen v
      have z4 : (bA (quoteL v)).size = (quoteL v).length := rfl
      go_enter Tryz.func53, Tryz.ntmps53
      go_wp2_with fail
      refine (Quote_any (bA v) w (by omega)).mono ?_
      rintro e w1 ⟨rfl, hf1⟩
      rw [bA_data, if_pos ht]
      obtain ⟨k0, k1⟩ := HC0.out w1 hf1
      obtain ⟨w2, hw2⟩ : ∃ w2, w2 = w1.setCell ⟨d, 0, none⟩ (.bool bad) := ⟨_, rfl⟩
      have hd1 := hf1.keep hd (fun h => h)
      have hd2 : BadAt w2 d bad := by rw [hw2]; exact setCell_heap hd1 0 (.bool bad)
      have hf2 : Fr (one d) w1 w2 := by rw [hw2]; exact (Fr.refl (one d) w1).setCell (p := ⟨d, 0, none⟩) (fun _ => rfl) _
      have hb2 : BldF B b l w2 := (h.frNone hf1).off hf2 (fun e => hne e.symm) (fun g cur fz hg e => by have e' : g = d := e; subst e'; rw [hd1] at hg; injection hg with hg; injection hg with _ hg; exact absurd hg (by decide))
      have HB2 := Lib.hid (show Below B w w2 from ((Fr.none_below hf1).mono hB).trans (by rw [hw2]; exact (Below.refl B w1).setCell (p := ⟨d, 0, none⟩) hdB _))
      have HW2 := Lib.hid hw2
      clear hw2 hf1 hf2 hd1
      have hee : (⟨(quoteL v).toArray⟩ : ByteArray) = bA (quoteL v) := rfl
      rw [hee]
      cases bad with
      | true =>
        go_wp2_with fail
        rw [← HW2.out]
        refine (BLen_any B b l w2 hb2).mono ?_
        rintro e wl ⟨rfl, rfl⟩
        by_cases h7 : 7 < l.length
        · have h7' : (7 : Int) < (l.length : Int) := by omega
          go_wp2_with fail
          refine (WriteString_any B b l ⟨#[44, 32]⟩ w2 hb2 (by show l.length + 2 ≤ _; omega) (Nat.le_trans hB (HB2.out).size)).mono ?_
          rintro e wx ⟨rfl, hbx, hlx, hox⟩
          have hdx := (hd2).oth hox hne
          have HBX := Lib.hid ((HB2.out).trans hlx)
          clear hox hlx
          go_wp2_with fail
          rw [show bA nm ++ ⟨#[61]⟩ ++ bA (quoteL v) = bA (nm ++ 61 :: (quoteL v)) from nmT nm (quoteL v)]
          refine (WriteString_any B b _ (bA (nm ++ 61 :: (quoteL v))) wx hbx (by show (l ++ [44, 32]).length + (nm ++ 61 :: (quoteL v)).length ≤ _; simp; omega) (Nat.le_trans hB HBX.out.size)).mono ?_
          rintro e wy ⟨rfl, hby, hly, hoy⟩
          have hdy := hdx.oth hoy hne
          go_wp2
          go_end0
          refine ⟨rfl, ?_, (by rw [BAD]; exact hdy), HBX.out.trans hly⟩
          have e : addT l nm (quoteL v) = l ++ (⟨#[44, 32]⟩ : ByteArray).data.toList ++ (bA (nm ++ 61 :: (quoteL v))).data.toList := by unfold addT; rw [if_pos h7, bA_data]; simp
          rw [VAL, e]; exact hby
        · have h7' : ¬ (7 : Int) < (l.length : Int) := by omega
          go_wp2_with fail
          rw [show bA nm ++ ⟨#[61]⟩ ++ bA (quoteL v) = bA (nm ++ 61 :: (quoteL v)) from nmT nm (quoteL v)]
          refine (WriteString_any B b l (bA (nm ++ 61 :: (quoteL v))) w2 hb2 (by show l.length + (nm ++ 61 :: (quoteL v)).length ≤ _; simp; omega) (Nat.le_trans hB (HB2.out).size)).mono ?_
          rintro e wy ⟨rfl, hby, hly, hoy⟩
          have hdy := (hd2).oth hoy hne
          go_wp2
          go_end0
          refine ⟨rfl, ?_, (by rw [BAD]; exact hdy), (HB2.out).trans hly⟩
          have e : addT l nm (quoteL v) = l ++ (bA (nm ++ 61 :: (quoteL v))).data.toList := by unfold addT; rw [if_neg h7, bA_data]; simp
          rw [VAL, e]; exact hby
      | false =>
        go_wp2_with fail
        rw [← HW2.out]
        refine (BLen_any B b l w2 hb2).mono ?_
        rintro e wl ⟨rfl, rfl⟩
        by_cases h7 : 7 < l.length
        · have h7' : (7 : Int) < (l.length : Int) := by omega
          go_wp2_with fail
          refine (WriteString_any B b l ⟨#[44, 32]⟩ w2 hb2 (by show l.length + 2 ≤ _; omega) (Nat.le_trans hB (HB2.out).size)).mono ?_
          rintro e wx ⟨rfl, hbx, hlx, hox⟩
          have hdx := (hd2).oth hox hne
          have HBX := Lib.hid ((HB2.out).trans hlx)
          clear hox hlx
          go_wp2_with fail
          rw [show bA nm ++ ⟨#[61]⟩ ++ bA (quoteL v) = bA (nm ++ 61 :: (quoteL v)) from nmT nm (quoteL v)]
          refine (WriteString_any B b _ (bA (nm ++ 61 :: (quoteL v))) wx hbx (by show (l ++ [44, 32]).length + (nm ++ 61 :: (quoteL v)).length ≤ _; simp; omega) (Nat.le_trans hB HBX.out.size)).mono ?_
          rintro e wy ⟨rfl, hby, hly, hoy⟩
          have hdy := hdx.oth hoy hne
          go_wp2
          go_end0
          refine ⟨rfl, ?_, (by rw [BAD]; exact hdy), HBX.out.trans hly⟩
          have e : addT l nm (quoteL v) = l ++ (⟨#[44, 32]⟩ : ByteArray).data.toList ++ (bA (nm ++ 61 :: (quoteL v))).data.toList := by unfold addT; rw [if_pos h7, bA_data]; simp
          rw [VAL, e]; exact hby
        · have h7' : ¬ (7 : Int) < (l.length : Int) := by omega
          go_wp2_with fail
          rw [show bA nm ++ ⟨#[61]⟩ ++ bA (quoteL v) = bA (nm ++ 61 :: (quoteL v)) from nmT nm (quoteL v)]
          refine (WriteString_any B b l (bA (nm ++ 61 :: (quoteL v))) w2 hb2 (by show l.length + (nm ++ 61 :: (quoteL v)).length ≤ _; simp; omega) (Nat.le_trans hB (HB2.out).size)).mono ?_
          rintro e wy ⟨rfl, hby, hly, hoy⟩
          have hdy := (hd2).oth hoy hne
          go_wp2
          go_end0
          refine ⟨rfl, ?_, (by rw [BAD]; exact hdy), (HB2.out).trans hly⟩
          have e : addT l nm (quoteL v) = l ++ (bA (nm ++ 61 :: (quoteL v))).data.toList := by unfold addT; rw [if_neg h7, bA_data]; simp
          rw [VAL, e]; exact hby
    | false =>
      have VAL : valQ true v = [] := by unfold valQ; rw [ht]; rfl
      have BAD : badQ true v = true := by unfold badQ; rw [ht]; rfl
      have z4 : (bA []).size = 0 := rfl
      go_enter Tryz.func53, Tryz.ntmps53
      go_wp2_with fail
      refine (Quote_any (bA v) w (by omega)).mono ?_
      rintro e w1 ⟨rfl, hf1⟩
      rw [bA_data, ht]
      simp only [Bool.false_eq_true, if_false]
      obtain ⟨k0, k1⟩ := HC0.out w1 hf1
      obtain ⟨w2, hw2⟩ : ∃ w2, w2 = w1.setCell ⟨d, 0, none⟩ (.bool true) := ⟨_, rfl⟩
      have hd1 := hf1.keep hd (fun h => h)
      have hd2 : BadAt w2 d true := by rw [hw2]; exact setCell_heap hd1 0 (.bool true)
      have hf2 : Fr (one d) w1 w2 := by rw [hw2]; exact (Fr.refl (one d) w1).setCell (p := ⟨d, 0, none⟩) (fun _ => rfl) _
      have hb2 : BldF B b l w2 := (h.frNone hf1).off hf2 (fun e => hne e.symm) (fun g cur fz hg e => by have e' : g = d := e; subst e'; rw [hd1] at hg; injection hg with hg; injection hg with _ hg; exact absurd hg (by decide))
      have HB2 := Lib.hid (show Below B w w2 from ((Fr.none_below hf1).mono hB).trans (by rw [hw2]; exact (Below.refl B w1).setCell (p := ⟨d, 0, none⟩) hdB _))
      have HW2 := Lib.hid hw2
      clear hw2 hf1 hf2 hd1
      have hee : (⟨#[]⟩ : ByteArray) = bA [] := rfl
      rw [hee]
      cases bad with
      | true =>
        go_wp2_with fail
        rw [← HW2.out]
        refine (BLen_any B b l w2 hb2).mono ?_
        rintro e wl ⟨rfl, rfl⟩
        by_cases h7 : 7 < l.length
        · have h7' : (7 : Int) < (l.length : Int) := by omega
          go_wp2_with fail
          refine (WriteString_any B b l ⟨#[44, 32]⟩ w2 hb2 (by show l.length + 2 ≤ _; omega) (Nat.le_trans hB (HB2.out).size)).mono ?_
          rintro e wx ⟨rfl, hbx, hlx, hox⟩
          have hdx := (hd2).oth hox hne
          have HBX := Lib.hid ((HB2.out).trans hlx)
          clear hox hlx
          go_wp2_with fail
          rw [show bA nm ++ ⟨#[61]⟩ ++ bA [] = bA (nm ++ 61 :: []) from nmT nm []]
          refine (WriteString_any B b _ (bA (nm ++ 61 :: [])) wx hbx (by show (l ++ [44, 32]).length + (nm ++ 61 :: []).length ≤ _; simp; omega) (Nat.le_trans hB HBX.out.size)).mono ?_
          rintro e wy ⟨rfl, hby, hly, hoy⟩
          have hdy := hdx.oth hoy hne
          go_wp2
          go_end0
          refine ⟨rfl, ?_, (by rw [BAD, Bool.or_true]; exact hdy), HBX.out.trans hly⟩
          have e : addT l nm [] = l ++ (⟨#[44, 32]⟩ : ByteArray).data.toList ++ (bA (nm ++ 61 :: [])).data.toList := by unfold addT; rw [if_pos h7, bA_data]; simp
          rw [VAL, e]; exact hby
        · have h7' : ¬ (7 : Int) < (l.length : Int) := by omega
          go_wp2_with fail
          rw [show bA nm ++ ⟨#[61]⟩ ++ bA [] = bA (nm ++ 61 :: []) from nmT nm []]
          refine (WriteString_any B b l (bA (nm ++ 61 :: [])) w2 hb2 (by show l.length + (nm ++ 61 :: []).length ≤ _; simp; omega) (Nat.le_trans hB (HB2.out).size)).mono ?_
          rintro e wy ⟨rfl, hby, hly, hoy⟩
          have hdy := (hd2).oth hoy hne
          go_wp2
          go_end0
          refine ⟨rfl, ?_, (by rw [BAD, Bool.or_true]; exact hdy), (HB2.out).trans hly⟩
          have e : addT l nm [] = l ++ (bA (nm ++ 61 :: [])).data.toList := by unfold addT; rw [if_neg h7, bA_data]; simp
          rw [VAL, e]; exact hby
      | false =>
        go_wp2_with fail
        rw [← HW2.out]
        refine (BLen_any B b l w2 hb2).mono ?_
        rintro e wl ⟨rfl, rfl⟩
        by_cases h7 : 7 < l.length
        · have h7' : (7 : Int) < (l.length : Int) := by omega
          go_wp2_with fail
          refine (WriteString_any B b l ⟨#[44, 32]⟩ w2 hb2 (by show l.length + 2 ≤ _; omega) (Nat.le_trans hB (HB2.out).size)).mono ?_
          rintro e wx ⟨rfl, hbx, hlx, hox⟩
          have hdx := (hd2).oth hox hne
          have HBX := Lib.hid ((HB2.out).trans hlx)
          clear hox hlx
          go_wp2_with fail
          rw [show bA nm ++ ⟨#[61]⟩ ++ bA [] = bA (nm ++ 61 :: []) from nmT nm []]
          refine (WriteString_any B b _ (bA (nm ++ 61 :: [])) wx hbx (by show (l ++ [44, 32]).length + (nm ++ 61 :: []).length ≤ _; simp; omega) (Nat.le_trans hB HBX.out.size)).mono ?_
          rintro e wy ⟨rfl, hby, hly, hoy⟩
          have hdy := hdx.oth hoy hne
          go_wp2
          go_end0
          refine ⟨rfl, ?_, (by rw [BAD, Bool.or_true]; exact hdy), HBX.out.trans hly⟩
          have e : addT l nm [] = l ++ (⟨#[44, 32]⟩ : ByteArray).data.toList ++ (bA (nm ++ 61 :: [])).data.toList := by unfold addT; rw [if_pos h7, bA_data]; simp
          rw [VAL, e]; exact hby
        · have h7' : ¬ (7 : Int) < (l.length : Int) := by omega
          go_wp2_with fail
          rw [show bA nm ++ ⟨#[61]⟩ ++ bA [] = bA (nm ++ 61 :: []) from nmT nm []]
          refine (WriteString_any B b l (bA (nm ++ 61 :: [])) w2 hb2 (by show l.length + (nm ++ 61 :: []).length ≤ _; simp; omega) (Nat.le_trans hB (HB2.out).size)).mono ?_
          rintro e wy ⟨rfl, hby, hly, hoy⟩
          have hdy := (hd2).oth hoy hne
          go_wp2
          go_end0
          refine ⟨rfl, ?_, (by rw [BAD, Bool.or_true]; exact hdy), (HB2.out).trans hly⟩
          have e : addT l nm [] = l ++ (bA (nm ++ 61 :: [])).data.toList := by unfold addT; rw [if_neg h7, bA_data]; simp
          rw [VAL, e]; exact hby
end Go.Proofs.YtkoobhgedoanhaaGreatDoor

namespace Go.Proofs.YtkoobhgedoanhaaGreatDoor
open Go.RowKit

/-- a small hexadecimal digit -/
def digB (n : UInt8) : UInt8 := if n < 10 then n + 48 else n + 87
def hexL (l : List UInt8) : List UInt8 := l.flatMap fun (c : UInt8) => [digB (c >>> 4), digB (c &&& 15)]
theorem hexL_len (l : List UInt8) : (hexL l).length = 2 * l.length := by
  unfold hexL
  induction l with
  | nil => rfl
  | cons c l ih => simp at ih ⊢; omega
theorem hexL_app (l m : List UInt8) : hexL (l ++ m) = hexL l ++ hexL m := by unfold hexL; exact List.flatMap_append
theorem hexL_snoc (s : ByteArray) (k : Nat) (hk : k < s.size) : hexL (s.data.toList.take (k + 1)) = hexL (s.data.toList.take k) ++ [digB (s[k] >>> 4), digB (s[k] &&& 15)] := by
  rw [List.take_add_one, byte_at s k hk, hexL_app]; rfl

theorem smallAt : ∀ n (h : n < 16), (⟨#[48, 49, 50, 51, 52, 53, 54, 55, 56, 57, 97, 98, 99, 100, 101, 102]⟩ : ByteArray)[n]'h = digB n.toUInt8 := by decide
theorem shr4 (c : UInt8) : (c.toNat / 16).toUInt8 = c >>> 4 := by
  apply UInt8.toNat_inj.1
  have := c.toNat_lt
  simp [UInt8.toNat_shiftRight, Nat.shiftRight_eq_div_pow]
  omega
theorem and15 (c : UInt8) : (c.toNat % 16).toUInt8 = c &&& 15 := by
  apply UInt8.toNat_inj.1
  have := c.toNat_lt
  have h := Nat.and_two_pow_sub_one_eq_mod c.toNat 4
  simp [UInt8.toNat_and] at h ⊢
  omega

def HexRel (w : World) (s : ByteArray) (i : Value) (wr : World) : Prop :=
  ∃ k : Nat, k ≤ s.size ∧ i = .int .i64 k ∧ Bld w.heap.size w.heap.size (hexL (s.data.toList.take k)) wr ∧ Fr noB w wr ∧ w.heap.size ≤ wr.heap.size
set_option maxRecDepth 100000 in
set_option maxHeartbeats 2000000 in
theorem Hex_any (s : ByteArray) (w : World) (hs : s.size < 4398046511104) :
    Calls Tryz.prog 187 #[.string s] w fun e w' => e = .returned (.string ⟨(hexL s.data.toList).toArray⟩) ∧ Fr noB w w' := by
  go_enter Tryz.func187, Tryz.ntmps187
  go_wp2
  go_loopw [7] (HexRel w s) (fun i _ => s.size - (intOf i).toNat)
  case atStart => exact ⟨0, Nat.zero_le _, rfl, Bld.new w, (Fr.refl _ _).alloc _, by simp⟩
  case round =>
    obtain ⟨k, hk, rfl, hb, hf, hz⟩ := hrel
    by_cases hks : k < s.size
    · have hki : (k : Int) < (s.size : Int) := by omega
      have hq1 : 0 ≤ (s[k].toNat : Int) / 16 ∧ (s[k].toNat : Int) / 16 < 16 := by have := s[k].toNat_lt; omega
      have hlen : (hexL (s.data.toList.take k)).length ≤ 2 * k := by rw [hexL_len, List.length_take]; omega
      go_wp2_with fail
      rw [smallAt, shr4]
      refine (WriteByte_any _ _ _ _ wr hb (by omega) hz).mono ?_
      rintro e w1 ⟨rfl, hb1, hf1⟩
      have hz1 := hf1.size
      go_wp2_with fail
      rw [smallAt, and15]
      refine (WriteByte_any _ _ _ _ w1 hb1 (by rw [List.length_append]; simp; omega) (by omega)).mono ?_
      rintro e w2 ⟨rfl, hb2, hf2⟩
      have hz2 := hf2.size
      have hsn := Lib.hid (hexL_snoc s k hks)
      rw [List.append_assoc] at hb2
      have HB2 : Bld w.heap.size w.heap.size (hexL (s.data.toList.take (k + 1))) w2 := by rw [hsn.out]; exact hb2
      clear hb hb1 hb2
      go_wp2
      go_roundw
      case rel => exact ⟨k + 1, by omega, by go_num, HB2, (hf.thenBelow hf1).thenBelow hf2, by omega⟩
      case measure => simp [intOf]; omega
    · have hki : ¬ (k : Int) < (s.size : Int) := by omega
      have hk2 : k = s.size := by omega
      have hfin := Lib.hid (show s.data.toList.take k = s.data.toList from List.take_of_length_le (by rw [hk2]; exact Nat.le_refl _))
      go_wp2_with fail
      refine (BString_any _ _ _ wr hb hz).mono ?_
      rintro e w1 ⟨rfl, hf1⟩
      rw [hfin.out]
      go_wp2
      go_ret
      exact ⟨rfl, hf.thenBelow hf1⟩
end Go.Proofs.YtkoobhgedoanhaaGreatDoor

namespace Go.Proofs.YtkoobhgedoanhaaGreatDoor
open Go.RowKit

/-- the number that a small hexadecimal digit is -/
def nibB (c : UInt8) : Option UInt8 := if 48 ≤ c ∧ c ≤ 57 then some (c - 48) else if 97 ≤ c ∧ c ≤ 102 then some (c - 87) else none
def smallL : List UInt8 := [48, 49, 50, 51, 52, 53, 54, 55, 56, 57, 97, 98, 99, 100, 101, 102]
def nibI (c : UInt8) : Int := match nibB c with | some n => (n.toNat : Int) | none => -1
theorem nib_all : ∀ n : Fin 256, Lib.indexByte smallL n.val.toUInt8 = nibI n.val.toUInt8 := by decide +kernel
theorem nib_at (c : UInt8) : Lib.indexByte smallL c = nibI c := by
  have h := nib_all ⟨c.toNat, c.toNat_lt⟩
  simpa using h
theorem nib_lt_all : ∀ n : Fin 256, ∀ m, nibB n.val.toUInt8 = some m → m < 16 := by decide +kernel
theorem nib_lt {c m : UInt8} (h : nibB c = some m) : m.toNat < 16 := by
  have h1 := nib_lt_all ⟨c.toNat, c.toNat_lt⟩ m (by simpa using h)
  exact UInt8.lt_iff_toNat_lt.1 h1

theorem Idx_any (c : UInt8) (w : World) :
    Calls Tryz.prog 135 #[.string ⟨#[48, 49, 50, 51, 52, 53, 54, 55, 56, 57, 97, 98, 99, 100, 101, 102]⟩, .int .u8 c.toNat] w fun e w' => e = .returned (.int .i64 (nibI c)) ∧ w = w' :=
  (Tryz.strings_IndexByte ⟨#[48, 49, 50, 51, 52, 53, 54, 55, 56, 57, 97, 98, 99, 100, 101, 102]⟩ c.toNat w).mono fun e w' ⟨he, hw⟩ => ⟨by
    have hc : ((c.toNat : Int).toNat.toUInt8) = c := by simp
    rw [hc] at he
    rw [he, ← nib_at]; rfl, hw.symm⟩

theorem nibI_none {c : UInt8} (h : nibB c = none) : nibI c = -1 := by unfold nibI; rw [h]
theorem nibI_some {c m : UInt8} (h : nibB c = some m) : nibI c = (m.toNat : Int) := by unfold nibI; rw [h]
theorem drop2 (s : ByteArray) (k : Nat) (h : k + 1 < s.size) : s.data.toList.drop k = s[k]'(by omega) :: s[k + 1] :: s.data.toList.drop (k + 2) := by
  have h1 : k < s.data.toList.length := by show k < s.size; omega
  have h2 : k + 1 < s.data.toList.length := h
  rw [List.drop_eq_getElem_cons h1, List.drop_eq_getElem_cons h2]
  rfl

def unhexL : List UInt8 → Option (List UInt8)
  | [] => some []
  | [_] => none
  | a :: c :: r => match nibB a, nibB c with
    | some x, some y => (unhexL r).map ((x * 16 + y) :: ·)
    | _, _ => none

theorem unhexL_cons2 (a c : UInt8) (r : List UInt8) : unhexL (a :: c :: r) = match nibB a, nibB c with
    | some x, some y => (unhexL r).map ((x * 16 + y) :: ·)
    | _, _ => none := rfl
theorem or_all : ∀ x y : Fin 16, bits BinOp.or IntKind.i64 ((x.val : Int) * 16) (y.val : Int) % 256 = ((x.val.toUInt8 * 16 + y.val.toUInt8).toNat : Int) := by decide +kernel
theorem or_nib {x y : UInt8} (hx : x.toNat < 16) (hy : y.toNat < 16) : bits BinOp.or IntKind.i64 ((x.toNat : Int) * 16) (y.toNat : Int) % 256 = ((x * 16 + y).toNat : Int) := by
  have h := or_all ⟨x.toNat, hx⟩ ⟨y.toNat, hy⟩
  simpa using h
end Go.Proofs.YtkoobhgedoanhaaGreatDoor

namespace Go.Proofs.YtkoobhgedoanhaaGreatDoor
open Go.RowKit

theorem nib_dig_all : ∀ n : Fin 256, nibB (digB (n.val.toUInt8 >>> 4)) = some (n.val.toUInt8 >>> 4) ∧ nibB (digB (n.val.toUInt8 &&& 15)) = some (n.val.toUInt8 &&& 15) ∧ (n.val.toUInt8 >>> 4) * 16 + (n.val.toUInt8 &&& 15) = n.val.toUInt8 := by decide +kernel
theorem nib_dig (c : UInt8) : nibB (digB (c >>> 4)) = some (c >>> 4) ∧ nibB (digB (c &&& 15)) = some (c &&& 15) ∧ (c >>> 4) * 16 + (c &&& 15) = c := by
  have h := nib_dig_all ⟨c.toNat, c.toNat_lt⟩
  simpa using h
theorem dig_nib_all : ∀ n : Fin 256, (match nibB n.val.toUInt8 with | some x => digB x == n.val.toUInt8 && decide (x < 16) | none => true) = true := by decide +kernel
theorem dig_nib {c x : UInt8} (h : nibB c = some x) : digB x = c ∧ x < 16 := by
  have h1 := dig_nib_all ⟨c.toNat, c.toNat_lt⟩
  have hc : (c.toNat).toUInt8 = c := by simp
  rw [show (⟨c.toNat, c.toNat_lt⟩ : Fin 256).val.toUInt8 = c from hc, h] at h1
  simpa using h1
theorem pair_all : ∀ x y : Fin 16, ((x.val.toUInt8 * 16 + y.val.toUInt8) >>> 4 = x.val.toUInt8) ∧ ((x.val.toUInt8 * 16 + y.val.toUInt8) &&& 15 = y.val.toUInt8) := by decide +kernel
theorem pair_back {x y : UInt8} (hx : x < 16) (hy : y < 16) : (x * 16 + y) >>> 4 = x ∧ (x * 16 + y) &&& 15 = y := by
  have h := pair_all ⟨x.toNat, UInt8.lt_iff_toNat_lt.1 hx⟩ ⟨y.toNat, UInt8.lt_iff_toNat_lt.1 hy⟩
  simpa using h
theorem hexL_cons (c : UInt8) (l : List UInt8) : hexL (c :: l) = digB (c >>> 4) :: digB (c &&& 15) :: hexL l := rfl
theorem unhex_hex : ∀ l : List UInt8, unhexL (hexL l) = some l
  | [] => rfl
  | c :: l => by
    obtain ⟨h1, h2, h3⟩ := nib_dig c
    rw [hexL_cons, unhexL_cons2, h1, h2, unhex_hex l]
    show some _ = _
    rw [h3]
theorem hex_unhex : ∀ (t b : List UInt8), unhexL t = some b → hexL b = t
  | [], b, h => by cases h; rfl
  | [_], b, h => by cases h
  | a :: c :: r, b, h => by
    rw [unhexL_cons2] at h
    cases hx : nibB a with
    | none => rw [hx] at h; cases h
    | some x =>
      cases hy : nibB c with
      | none => rw [hx, hy] at h; cases h
      | some y =>
        rw [hx, hy] at h
        cases hr : unhexL r with
        | none => rw [hr] at h; cases h
        | some b' =>
          rw [hr] at h
          have hb : (x * 16 + y) :: b' = b := by simpa using h
          subst hb
          obtain ⟨d1, l1⟩ := dig_nib hx
          obtain ⟨d2, l2⟩ := dig_nib hy
          obtain ⟨p1, p2⟩ := pair_back l1 l2
          rw [hexL_cons, p1, p2, d1, d2, hex_unhex r b' hr]

theorem strBack (a : ByteArray) : (⟨a.data.toList.toArray⟩ : ByteArray) = a := by cases a; simp
end Go.Proofs.YtkoobhgedoanhaaGreatDoor

namespace Go.Proofs.YtkoobhgedoanhaaGreatDoor
open Go.RowKit

/-- the k lowest digits, base 16 -/
def hexFix : Nat → Nat → List UInt8
  | 0, _ => []
  | k + 1, n => hexFix k (n / 16) ++ [digB (n % 16).toUInt8]
theorem hexFix_len : ∀ k n, (hexFix k n).length = k
  | 0, _ => rfl
  | k + 1, n => by rw [hexFix, List.length_append, hexFix_len k]; rfl
theorem hexFix_cons : ∀ j n, digB (n / 16 ^ j % 16).toUInt8 :: hexFix j n = hexFix (j + 1) n
  | 0, n => by simp [hexFix]
  | j + 1, n => by
    have h := hexFix_cons j (n / 16)
    rw [Nat.div_div_eq_div_mul, show 16 * 16 ^ j = 16 ^ (j + 1) from by rw [Nat.pow_succ]; omega] at h
    show _ :: (hexFix j (n / 16) ++ [_]) = hexFix (j + 1) (n / 16) ++ [_]
    rw [← h]; rfl
theorem hexFix_zero : ∀ d, hexFix d 0 = List.replicate d 48
  | 0 => rfl
  | d + 1 => by
    rw [hexFix, show (0 : Nat) / 16 = 0 from rfl, hexFix_zero d, List.replicate_succ']
    rfl
theorem hexFix_pad : ∀ k d n, n < 16 ^ k → List.replicate d 48 ++ hexFix k n = hexFix (k + d) n
  | 0, d, n, h => by
    obtain rfl : n = 0 := by simpa using h
    rw [Nat.zero_add, hexFix_zero d]; exact List.append_nil _
  | k + 1, d, n, h => by
    have h2 : n / 16 < 16 ^ k := by rw [Nat.pow_succ] at h; omega
    rw [show k + 1 + d = (k + d) + 1 from by omega, hexFix, hexFix, ← hexFix_pad k d (n / 16) h2, List.append_assoc]
theorem digB_lt_all : ∀ x y : Fin 16, (digB x.val.toUInt8 < digB y.val.toUInt8 ↔ x.val < y.val) ∧ (digB x.val.toUInt8 = digB y.val.toUInt8 ↔ x.val = y.val) := by decide +kernel
theorem digB_lt {x y : Nat} (hx : x < 16) (hy : y < 16) : (digB x.toUInt8 < digB y.toUInt8 ↔ x < y) ∧ (digB x.toUInt8 = digB y.toUInt8 ↔ x = y) := digB_lt_all ⟨x, hx⟩ ⟨y, hy⟩
theorem app_inj {a b : List UInt8} {x y : UInt8} : a ++ [x] = b ++ [y] ↔ a = b ∧ x = y := by
  constructor
  · intro h
    have := List.append_inj' h rfl
    exact ⟨this.1, by simpa using this.2⟩
  · rintro ⟨rfl, rfl⟩; rfl
theorem hexFix_inj : ∀ k n m, n < 16 ^ k → m < 16 ^ k → (hexFix k n = hexFix k m ↔ n = m)
  | 0, n, m, hn, hm => by
    obtain rfl : n = 0 := by simpa using hn
    obtain rfl : m = 0 := by simpa using hm
    simp
  | k + 1, n, m, hn, hm => by
    rw [Nat.pow_succ] at hn hm
    rw [hexFix, hexFix, app_inj, hexFix_inj k _ _ (by omega) (by omega), (digB_lt (Nat.mod_lt _ (by decide)) (Nat.mod_lt _ (by decide))).2]
    omega
theorem less_app : ∀ (a b : List UInt8) (x y : UInt8), a.length = b.length → (Op.bytesLess (a ++ [x]) (b ++ [y]) = true ↔ Op.bytesLess a b = true ∨ a = b ∧ x < y)
  | [], [], x, y, _ => by simp [Op.bytesLess]
  | [], _ :: _, _, _, h => by simp at h
  | _ :: _, [], _, _, h => by simp at h
  | c :: a, d :: b, x, y, h => by
    have ih := less_app a b x y (by simpa using h)
    simp only [List.cons_append, Op.bytesLess, Bool.or_eq_true, decide_eq_true_eq, Bool.and_eq_true, beq_iff_eq, ih, List.cons.injEq]
    constructor
    · rintro (h | ⟨h, h2 | ⟨h2, h3⟩⟩)
      · exact .inl (.inl h)
      · exact .inl (.inr ⟨h, h2⟩)
      · exact .inr ⟨⟨h, h2⟩, h3⟩
    · rintro ((h | ⟨h, h2⟩) | ⟨⟨h, h2⟩, h3⟩)
      · exact .inl h
      · exact .inr ⟨h, .inl h2⟩
      · exact .inr ⟨h, .inr ⟨h2, h3⟩⟩
theorem hexFix_less : ∀ k n m, n < 16 ^ k → m < 16 ^ k → (Op.bytesLess (hexFix k n) (hexFix k m) = true ↔ n < m)
  | 0, n, m, hn, hm => by
    obtain rfl : n = 0 := by simpa using hn
    obtain rfl : m = 0 := by simpa using hm
    simp [hexFix, Op.bytesLess]
  | k + 1, n, m, hn, hm => by
    rw [Nat.pow_succ] at hn hm
    rw [hexFix, hexFix, less_app _ _ _ _ (by rw [hexFix_len, hexFix_len]), hexFix_less k _ _ (by omega) (by omega), hexFix_inj k _ _ (by omega) (by omega), (digB_lt (Nat.mod_lt _ (by decide)) (Nat.mod_lt _ (by decide))).1]
    omega
/-- proof.Count -/
def countL (n : Nat) : List UInt8 := hexFix 8 n
end Go.Proofs.YtkoobhgedoanhaaGreatDoor

namespace Go.Proofs.YtkoobhgedoanhaaGreatDoor
open Go.RowKit

theorem pars_snoc : ∀ (l : List (Par × Bs)) (p : Par × Bs), parsT (l ++ [p]) = parsT l ++ ((if l.isEmpty then [] else [44, 32]) ++ parT p.1 p.2)
  | [], p => rfl
  | [a], p => by simp [parsT]
  | a :: b :: l, p => by
    have ih := pars_snoc (b :: l) p
    simp only [List.cons_append, parsT] at ih ⊢
    rw [ih]; simp
abbrev Item := Bs × Bs × Bool
def Item.par (i : Item) : Par × Bs := ((i.1, i.2.1), valQ i.2.2 i.2.1)
def textOf (l : List (Par × Bs)) : Bs := nDig ++ 32 :: parsT l
def rawT (l : List Item) : Bs := textOf (l.map Item.par)
def badT (l : List Item) : Bool := l.any fun i => badQ i.2.2 i.2.1
theorem parsT_pos (p : Par × Bs) (l : List (Par × Bs)) : 0 < (parsT (p :: l)).length := by
  cases l with
  | nil => simp [parsT, parT]; omega
  | cons q l => simp [parsT, parT]; omega
theorem addT_raw (l : List Item) (nm v : Bs) (q : Bool) : addT (rawT l) nm (valQ q v) = rawT (l ++ [(nm, v, q)]) := by
  unfold addT rawT
  rw [List.map_append]
  show _ = textOf (l.map Item.par ++ [((nm, v), valQ q v)])
  unfold textOf
  rw [pars_snoc]
  cases l with
  | nil => rfl
  | cons a l =>
    have h := parsT_pos a.par (l.map Item.par)
    rw [if_pos (by simp [nDig] at h ⊢; omega)]
    simp [parT]
theorem badT_snoc (l : List Item) (nm v : Bs) (q : Bool) : (badT l || badQ q v) = badT (l ++ [(nm, v, q)]) := by unfold badT; simp
theorem valQ_len (q : Bool) (v : Bs) : (valQ q v).length ≤ 2 * v.length + 2 := by
  have := quoteLen v
  unfold valQ
  split
  · split
    · exact this
    · simp
  · omega
theorem addT_len (l nm x : Bs) : (addT l nm x).length ≤ l.length + nm.length + x.length + 3 := by
  unfold addT
  split <;> simp <;> omega
/-- the parts of a header -/
def headI (user realm nonce uri resp name : Bs) : List Item := [(nUser, user, true), (nRealm, realm, true), (nNonce, nonce, true), (nUri, uri, true), (nResp, resp, true), (nAlg, name, false)]
def twoI (qop count : Bs) : List Item := if qop.isEmpty then [] else [(nQop, qop, false), (nNc, count, false)]
def cnI (qop : Bs) (sess : Bool) (cnonce : Bs) : List Item := if !qop.isEmpty || sess then [(nCnonce, cnonce, true)] else []
def opI (opaq : Bs) : List Item := if opaq.isEmpty then [] else [(nOpaque, opaq, true)]
def DigIn.items (d : DigIn) : List Item := headI d.user d.realm d.nonce d.uri d.resp (nameL d.scheme d.sess) ++ (twoI d.qop d.count ++ (cnI d.qop d.sess d.cnonce ++ opI d.opaq))
theorem DigIn.fair_of {d : DigIn} (h : badT d.items = false) : d.fair = true := by
  unfold DigIn.items headI twoI cnI opI badT at h
  unfold DigIn.fair
  simp only [List.any_append, List.any_cons, List.any_nil, Bool.or_false, Bool.or_eq_false_iff, badQ, Bool.true_and, Bool.false_and, Bool.not_eq_false'] at h
  obtain ⟨⟨h1, h2, h3, h4, h5⟩, _, h6, h7⟩ := h
  rw [h1, h2, h3, h4, h5]
  simp only [Bool.true_and]
  have g6 : (!(!d.qop.isEmpty || d.sess) || textL d.cnonce) = true := by
    cases hc : (!d.qop.isEmpty || d.sess)
    · rfl
    · rw [hc] at h6; simpa [badQ] using h6
  have g7 : (d.opaq.isEmpty || textL d.opaq) = true := by
    cases hc : d.opaq.isEmpty
    · rw [hc] at h7; simpa [badQ] using h7
    · rfl
  rw [g6, g7]; rfl
theorem par_q {n v : Bs} (h : textL v = true) : Item.par (n, v, true) = qP n v := by unfold Item.par qP valQ; simp [h]
theorem par_p (n v : Bs) : Item.par (n, v, false) = pP n v := rfl
theorem DigIn.text_of {d : DigIn} (h : d.fair = true) : rawT d.items = d.text := by
  unfold DigIn.fair at h
  simp only [Bool.and_eq_true] at h
  obtain ⟨f1, f2, f3, f4, f5, f6, f7⟩ := h
  unfold rawT textOf DigIn.text
  congr 2
  have e1 : (headI d.user d.realm d.nonce d.uri d.resp (nameL d.scheme d.sess)).map Item.par = d.head := by
    unfold headI DigIn.head
    simp only [List.map_cons, List.map_nil, par_q f1, par_q f2, par_q f3, par_q f4, par_q f5, par_p]
  have e2 : (twoI d.qop d.count).map Item.par = d.two := by
    unfold twoI DigIn.two
    split <;> rfl
  have e3 : (cnI d.qop d.sess d.cnonce).map Item.par = d.cn := by
    unfold cnI DigIn.cn
    cases hc : (!d.qop.isEmpty || d.sess)
    · rfl
    · rw [hc] at f6
      simp only [if_true, List.map_cons, List.map_nil, par_q (show textL d.cnonce = true by simpa using f6)]
  have e4 : (opI d.opaq).map Item.par = d.op := by
    unfold opI DigIn.op
    cases hc : d.opaq.isEmpty
    · rw [hc] at f7
      simp only [Bool.false_eq_true, if_false, List.map_cons, List.map_nil, par_q (show textL d.opaq = true by simpa using f7)]
    · rfl
  unfold DigIn.items DigIn.pars
  rw [List.map_append, List.map_append, List.map_append, e1, e2, e3, e4]
/-- eight digits are a word -/
theorem dig_word : ∀ x : Fin 16, byteB (digB x.val.toUInt8) = true := by decide +kernel
theorem hexFix_word : ∀ k n, (hexFix k n).all byteB = true
  | 0, n => rfl
  | k + 1, n => by
    rw [← hexFix_cons k n]
    rw [List.all_cons, hexFix_word k n, Bool.and_true]
    exact dig_word ⟨n / 16 ^ k % 16, Nat.mod_lt _ (by decide)⟩
theorem count_word (n : Nat) : isL (countL n) = true := by
  unfold isL countL
  have h := hexFix_len 8 n
  rw [hexFix_word]
  cases e : hexFix 8 n with
  | nil => rw [e] at h; cases h
  | cons a l => rfl
set_option maxRecDepth 100000 in
set_option maxHeartbeats 2000000 in
theorem name_any (sch : Int) (realm nonce opaq qop : ByteArray) (sess stale : Bool) (dom : Value) (w : World) :
    Calls Tryz.prog 55 #[.agg #[.int .i64 sch, .string realm, .string nonce, .string opaq, .bool sess, .string qop, .bool stale, dom]] w fun e w' => e = .returned (.string (bA (nameL sch sess))) ∧ Fr noB w w' := by
  by_cases h3 : sch = 3
  · cases sess with
    | false =>
      have E : bA (nameL sch false) = ⟨#[83, 72, 65, 45, 50, 53, 54]⟩ := by unfold nameL; rw [if_pos h3]; rfl
      have HE := Lib.hid E
      clear E
      go_enter Tryz.func55, Tryz.ntmps55
      go_wp2
      go_ret
      exact ⟨by rw [HE.out]; rfl, (Fr.refl noB w).alloc _⟩
    | true =>
      have E : bA (nameL sch true) = ⟨#[83, 72, 65, 45, 50, 53, 54, 45, 115, 101, 115, 115]⟩ := by unfold nameL; rw [if_pos h3]; rfl
      have HE := Lib.hid E
      clear E
      go_enter Tryz.func55, Tryz.ntmps55
      go_wp2
      go_ret
      exact ⟨by rw [HE.out]; rfl, (Fr.refl noB w).alloc _⟩
  · cases sess with
    | false =>
      have E : bA (nameL sch false) = ⟨#[77, 68, 53]⟩ := by unfold nameL; rw [if_neg h3]; rfl
      have HE := Lib.hid E
      clear E
      go_enter Tryz.func55, Tryz.ntmps55
      go_wp2
      go_ret
      exact ⟨by rw [HE.out]; rfl, (Fr.refl noB w).alloc _⟩
    | true =>
      have E : bA (nameL sch true) = ⟨#[77, 68, 53, 45, 115, 101, 115, 115]⟩ := by unfold nameL; rw [if_neg h3]; rfl
      have HE := Lib.hid E
      clear E
      go_enter Tryz.func55, Tryz.ntmps55
      go_wp2
      go_ret
      exact ⟨by rw [HE.out]; rfl, (Fr.refl noB w).alloc _⟩
end Go.Proofs.YtkoobhgedoanhaaGreatDoor

namespace Go.Proofs.YtkoobhgedoanhaaGreatDoor
open Go.RowKit

theorem dropWhile_nil {α : Type} {p : α → Bool} : ∀ {l : List α}, l.dropWhile p = [] ↔ l.all p = true
  | [] => by simp
  | a :: l => by
    rw [List.dropWhile_cons, List.all_cons]
    cases h : p a
    · simp
    · simp only [if_true, Bool.true_and]; exact dropWhile_nil
theorem trimS_nil (l cs : List UInt8) : Lib.trimS l cs = [] ↔ l.all (cs.contains ·) = true := by
  unfold Lib.trimS Lib.trimLeftS Lib.trimRightS
  rw [dropWhile_nil]
  constructor
  · intro h
    have h2 : l.reverse.dropWhile (cs.contains ·) = [] := by
      cases hq : l.reverse.dropWhile (cs.contains ·) with
      | nil => rfl
      | cons a r =>
        exfalso
        have hh := List.head?_dropWhile_not (p := (cs.contains ·)) l.reverse
        rw [hq] at h hh
        simp only [List.head?_cons, List.reverse_cons, List.all_append, List.all_cons, List.all_nil, Bool.and_true, Bool.and_eq_true] at h hh
        rw [h.2] at hh
        simp at hh
    rw [dropWhile_nil] at h2
    simpa using h2
  · intro h
    rw [List.all_eq_true] at h ⊢
    intro x hx
    refine h x ?_
    have h1 := (List.dropWhile_sublist (cs.contains ·) (l := l.reverse)).subset (List.mem_reverse.1 hx)
    exact List.mem_reverse.1 h1
theorem byteArray_nil {s : ByteArray} : s.data.toList = [] ↔ s.size = 0 := by
  constructor
  · intro h; have : s.data.toList.length = 0 := by rw [h]; rfl
    simpa using this
  · intro h; apply List.eq_nil_of_length_eq_zero; simpa using h
/-- strings.Trim by a set -/
theorem TrimSet_any (s cs : ByteArray) (w : World) (hs : s.size ≤ 9223372036854775807) (h2 : 2 ≤ cs.size) (hcs : cs.size < 4294967281) (hascii : ∀ b ∈ cs.data.toList, b.toNat < 128) :
    Calls Tryz.prog 103 #[.string s, .string cs] w fun e w' => e = .returned (.string ⟨(Lib.trimS s.data.toList cs.data.toList).toArray⟩) ∧ Fr noB w w' := by
  by_cases h0 : s.size = 0
  · refine (Any.strings_Trim_empty Tryz.lays160 s cs w (Or.inl h0)).mono fun e w' ⟨he, hw⟩ => ⟨?_, hw ▸ Fr.refl _ _⟩
    have e0 := byteArray_nil.2 h0
    rw [he, e0]
    congr 2
    rw [show Lib.trimS [] cs.data.toList = [] from rfl]
    cases s with
    | mk d => simp at e0; rw [e0]
  · refine (Any.strings_Trim_set Tryz.lays160 (fun w => by kernel_rfl) (by kernel_rfl) s cs w h2 (by omega) hs hcs (fun j b hj => hascii b (List.mem_of_getElem? hj))).mono fun e w' ⟨he, q, hw⟩ => ⟨he, ?_⟩
    rw [hw]
    exact (((Fr.refl noB w).alloc _).alloc _).drewN q
end Go.Proofs.YtkoobhgedoanhaaGreatDoor

namespace Go.Proofs.YtkoobhgedoanhaaGreatDoor
open Go.RowKit

/-- four bytes as a word -/
def wordI (a b c d : UInt8) : Int := bits .or .u32 (bits .or .u32 (bits .or .u32 ((a.toNat : Int) % 4294967296) ((b.toNat : Int) % 4294967296 * 256 % 4294967296)) ((c.toNat : Int) % 4294967296 * 65536 % 4294967296)) ((d.toNat : Int) % 4294967296 * 16777216 % 4294967296)
def getB (l : List UInt8) (i : Nat) : UInt8 := l.getD i 0
def wordL (little : Bool) (l : List UInt8) : Int := if little then wordI (getB l 0) (getB l 1) (getB l 2) (getB l 3) else wordI (getB l 3) (getB l 2) (getB l 1) (getB l 0)
theorem getB_at (s : ByteArray) (i : Nat) (h : i < s.size) : getB s.data.toList i = s[i] := by
  unfold getB
  rw [List.getD_eq_getElem?_getD, byte_at s i h]; rfl
theorem ret_u32 {a b : Int} (h : a = b) : Ending.returned (.int .u32 a) = .returned (.int .u32 b) := by rw [h]
set_option maxHeartbeats 2000000 in
theorem word_any (s : ByteArray) (little : Bool) (w : World) (hs : 4 ≤ s.size) (hs2 : s.size < 17592186044416) :
    Calls Tryz.prog 158 #[.string s, .bool little] w fun e w' => e = .returned (.int .u32 (wordL little s.data.toList)) ∧ ∃ n, w' = w.drewN n := by
  have h0 : 0 < s.size := by omega
  have h1 : 1 < s.size := by omega
  have h2 : 2 < s.size := by omega
  have h3 : 3 < s.size := by omega
  have HWF := Lib.hid (show wordL false s.data.toList = bits .or .u32 (bits .or .u32 (bits .or .u32 ((s[3].toNat : Int) % 4294967296) ((s[2].toNat : Int) % 4294967296 * 256 % 4294967296)) ((s[1].toNat : Int) % 4294967296 * 65536 % 4294967296)) ((s[0].toNat : Int) % 4294967296 * 16777216 % 4294967296) by rw [← getB_at s 0 h0, ← getB_at s 1 h1, ← getB_at s 2 h2, ← getB_at s 3 h3]; unfold wordL wordI; rw [if_neg (by decide)])
  have HWT := Lib.hid (show wordL true s.data.toList = bits .or .u32 (bits .or .u32 (bits .or .u32 ((s[0].toNat : Int) % 4294967296) ((s[1].toNat : Int) % 4294967296 * 256 % 4294967296)) ((s[2].toNat : Int) % 4294967296 * 65536 % 4294967296)) ((s[3].toNat : Int) % 4294967296 * 16777216 % 4294967296) by rw [← getB_at s 0 h0, ← getB_at s 1 h1, ← getB_at s 2 h2, ← getB_at s 3 h3]; unfold wordL wordI; rw [if_pos rfl])
  cases little
  · go_enter Tryz.func158, Tryz.ntmps158
    go_wp2
    have i0 : (0 : Int) < (s.size : Int) := by omega
    have i1 : (1 : Int) < (s.size : Int) := by omega
    have i2 : (2 : Int) < (s.size : Int) := by omega
    have i3 : (3 : Int) < (s.size : Int) := by omega
    go_quiet (fail)
    go_wp2
    go_ret
    exact ⟨ret_u32 HWF.out.symm, _, rfl⟩
  · go_enter Tryz.func158, Tryz.ntmps158
    go_wp2
    have i0 : (0 : Int) < (s.size : Int) := by omega
    have i1 : (1 : Int) < (s.size : Int) := by omega
    have i2 : (2 : Int) < (s.size : Int) := by omega
    have i3 : (3 : Int) < (s.size : Int) := by omega
    go_quiet (fail)
    go_wp2
    go_ret
    exact ⟨ret_u32 HWT.out.symm, _, rfl⟩

/-- a word turned by n bits -/
def rotI (x : Int) (n : Nat) : Int := bits .or .u32 (x * 2 ^ n % 4294967296) (x / 2 ^ (32 - n))
theorem rot_any (x k : Int) (n : Nat) (w : World) (hk : 0 ≤ k) (hk2 : k < 32) (hb : bits .and .u64 k 31 = (n : Int)) (hn : n < 32) :
    Calls Tryz.prog 159 #[.int .u32 x, .int .i64 k] w fun e w' => e = .returned (.int .u32 (rotI x n)) ∧ w = w' := by
  go_enter Tryz.func159, Tryz.ntmps159
  go_wp2
  go_ret
  exact ⟨rfl, rfl⟩
theorem rot_neg (x k : Int) (n : Nat) (w : World) (hk : -32 < k) (hk2 : k < 0) (hb : bits .and .u64 (k + 18446744073709551616) 31 = (n : Int)) (hn : n < 32) :
    Calls Tryz.prog 159 #[.int .u32 x, .int .i64 k] w fun e w' => e = .returned (.int .u32 (rotI x n)) ∧ w = w' := by
  have hw : IntKind.u64.wrap k = k + 18446744073709551616 := by
    have e : IntKind.u64.wrap k = k % 18446744073709551616 := by simp [IntKind.wrap, IntKind.signed, IntKind.bits]
    rw [e]; omega
  go_enter Tryz.func159, Tryz.ntmps159
  go_wp2
  go_ret
  exact ⟨rfl, rfl⟩

/-- the eight bytes behind a text: how many bits it has -/
def lenByte (little : Bool) (n i : Nat) : UInt8 := if little then (n / 2 ^ (8 * i) % 256).toUInt8 else (n / 2 ^ (56 - 8 * i) % 256).toUInt8
def lenL (little : Bool) (n : Nat) : List UInt8 := (List.range 8).map (lenByte little n)
def padL (little : Bool) (l : List UInt8) : List UInt8 := l ++ [128] ++ List.replicate ((55 - (l.length : Int) % 64 + 64) % 64).toNat 0 ++ lenL little (l.length * 8)
theorem make8 (w : World) : (Instr.makeSlice 95 (.int .i64 8) (.int .i64 8)).run Tryz.prog w = .ok (.slice (some ⟨w.heap.size, 0, none⟩) 8 8) (w.alloc (.cells (u8s (List.replicate 8 0)).toArray 5)) := by
  obtain ⟨i0, hi, hz0, hz1, hz2⟩ := info_parts info_u8
  have h := run_makeSlice w 95 5 i0 (.int .u8 0) Tryz.underlying95 hi hz0 .i64 .i64 8 8 (by decide) (by decide) (by rw [hz1]; decide) (by rw [hz2]; decide) (by decide)
  rw [hz1] at h
  have e : madeCells (Value.int .u8 0).cells (Int.toNat 8 * 1) = (u8s (List.replicate 8 0)).toArray := by kernel_rfl
  rw [e] at h
  exact h
/-- block g is a row of bytes, no more -/
def RowZ (w : World) (g : Nat) (l : List UInt8) : Prop := w.heap[g]? = some (.cells (u8s l).toArray 5 (0, 0))
theorem RowZ.cell {w : World} {g : Nat} {l : List UInt8} (h : RowZ w g l) {j : Nat} {c : UInt8} (hj : l[j]? = some c) : w.cell? ⟨g, j, none⟩ = some (.int .u8 (c.toNat : Int)) := by
  obtain ⟨hl, he⟩ := List.getElem?_eq_some_iff.1 hj
  unfold RowZ at h
  simp only [World.cell?, h]
  simp [u8s, hl, he]
theorem RowZ.free {w : World} {g : Nat} {l : List UInt8} (h : RowZ w g l) (j : Nat) : w.frozen? ⟨g, j, none⟩ = false := by
  unfold RowZ at h
  simp [World.frozen?, h]
theorem RowZ.set {w : World} {g : Nat} {l : List UInt8} (h : RowZ w g l) (j : Nat) (c : UInt8) : RowZ (w.setCell ⟨g, j, none⟩ (.int .u8 (c.toNat : Int))) g (l.set j c) := by
  unfold RowZ at h ⊢
  simp only [World.setCell, Array.getElem?_modify, h]
  simp [u8s, List.map_set]
theorem RowZ.text {w : World} {g : Nat} {l : List UInt8} (h : RowZ w g l) (n c : Nat) (hn : n = l.length) :
    (convert 95 9 (.slice (some ⟨g, 0, none⟩) n c)).run Tryz.prog w = .ok (.string ⟨l.toArray⟩) w := by
  subst hn
  refine run_convert_bytes_back (P := Tryz.prog) w 95 9 5 ⟨g, 0, none⟩ c l Tryz.underlying95 Tryz.underlying5 Tryz.underlying9 ?_
  intro j hj
  have ea : (Addr.add ⟨g, 0, none⟩ j) = ⟨g, j, none⟩ := by unfold Addr.add; split <;> simp_all
  rw [ea]
  exact h.cell (List.getElem?_eq_getElem hj)
theorem lenL_len (little : Bool) (n : Nat) : (lenL little n).length = 8 := by simp [lenL]
def lenTo (little : Bool) (n k : Nat) : List UInt8 := (lenL little n).take k ++ List.replicate (8 - k) 0
theorem lenTo_succ (little : Bool) (n k : Nat) (hk : k < 8) : lenTo little n (k + 1) = (lenTo little n k).set k (lenByte little n k) := by
  have hg : (lenL little n)[k]? = some (lenByte little n k) := by simp [lenL, hk]
  unfold lenTo
  rw [List.take_add_one, hg]
  have e : List.replicate (8 - k) (0 : UInt8) = 0 :: List.replicate (8 - (k + 1)) 0 := by
    rw [show 8 - k = (8 - (k + 1)) + 1 from by omega, List.replicate_succ]
  rw [e, List.set_append, if_neg (by rw [List.length_take, lenL_len]; omega)]
  rw [show k - ((lenL little n).take k).length = 0 from by rw [List.length_take, lenL_len]; omega]
  simp
theorem lenTo_all (little : Bool) (n : Nat) : lenTo little n 8 = lenL little n := by
  unfold lenTo
  rw [List.take_of_length_le (by rw [lenL_len]; omega)]; simp
theorem zeros0_len : ∀ (k : Nat), (Lib.repeatL [0] k).length = k
  | 0 => rfl
  | k + 1 => by
    show (([0] : List UInt8) ++ Lib.repeatL [0] k).length = k + 1
    rw [List.length_append, zeros0_len k]; simp; omega
theorem zeros0_eq : ∀ (k : Nat), Lib.repeatL [0] k = List.replicate k (0 : UInt8)
  | 0 => rfl
  | k + 1 => by
    show ([0] : List UInt8) ++ Lib.repeatL [0] k = _
    rw [zeros0_eq k, List.replicate_succ]; rfl
theorem byte_cast (n e : Nat) : (((n / 2 ^ e % 256).toUInt8.toNat : Nat) : Int) = (n : Int) / 2 ^ e % 256 := by
  rw [show (n / 2 ^ e % 256).toUInt8.toNat = n / 2 ^ e % 256 from by simp [Nat.toUInt8]]
  rw [Int.natCast_emod, Int.natCast_ediv, Int.natCast_pow]; rfl
def PadRel (little : Bool) (n g : Nat) (w : World) (i : Value) (wr : World) : Prop := ∃ k : Nat, k ≤ 8 ∧ i = .int .i64 k ∧ RowZ wr g (lenTo little n k) ∧ Fr noB w wr
set_option maxRecDepth 100000 in
set_option maxHeartbeats 2000000 in
theorem pad_any (s : ByteArray) (little : Bool) (w : World) (hs : s.size < 17592186044416) :
    Calls Tryz.prog 157 #[.string s, .bool little] w fun e w' => e = .returned (.string ⟨(padL little s.data.toList).toArray⟩) ∧ Fr noB w w' := by
  obtain ⟨q, hq⟩ : ∃ q : Nat, (55 - (s.size : Int)) % 64 = (q : Int) := ⟨((55 - (s.size : Int)) % 64).toNat, by omega⟩
  have hq64 : q < 64 := by omega
  have hpad := Lib.hid (show padL little s.data.toList = s.data.toList ++ [128] ++ Lib.repeatL [0] q ++ lenL little (s.size * 8) by
    unfold padL
    rw [zeros0_eq, show s.data.toList.length = s.size from by simp, show ((55 - (s.size : Int) % 64 + 64) % 64).toNat = q from by omega])
  have hrl := zeros0_len q
  have hmk := fun W => make8 W
  go_enter Tryz.func157, Tryz.ntmps157
  go_wp2_with fail
  refine (Tryz.strings_Repeat ⟨#[0]⟩ q w (by omega) (by show 1 * q ≤ _; omega)).mono ?_
  rintro e w1 ⟨rfl, hb1⟩
  have hsum : ¬ 9223372036854775807 < s.size + 1 + (Lib.repeatL [0] q).length := by omega
  have hf1 := Fr.of_below hb1
  have HL := Lib.hid hrl
  clear hrl hb1
  have hrow0 : RowZ (w1.alloc (.cells (u8s (List.replicate 8 0)).toArray 5)) w1.heap.size (lenTo little (s.size * 8) 0) := by
    unfold RowZ
    rw [new_block]; rfl
  have HR0 := Lib.hid hrow0
  have hs1 := hf1.size
  clear hrow0
  cases little
  · go_wp2
    clear hmk
    go_loopw [26] (PadRel false (s.size * 8) w1.heap.size w) (fun i _ => 8 - (intOf i).toNat)
    case atStart => exact ⟨0, by omega, rfl, HR0.out, hf1.alloc _⟩
    case round =>
      obtain ⟨k, hk, rfl, hrow, hfr⟩ := hrel
      by_cases hks : k < 8
      · have hlen : (lenTo false (s.size * 8) k).length = 8 := by unfold lenTo; rw [List.length_append, List.length_take, lenL_len, List.length_replicate]; omega
        have hc := hrow.cell (List.getElem?_eq_getElem (show k < (lenTo false (s.size * 8) k).length by omega))
        have hf := hrow.free k
        have hki : (k : Int) < 8 := by omega
        have hset := Lib.hid (hrow.set k (lenByte false (s.size * 8) k))
        have hsc := Lib.hid (lenTo_succ false (s.size * 8) k hks)
        have hlb := Lib.hid (show ((lenByte false (s.size * 8) k).toNat : Int) = (s.size : Int) * 8 / 2 ^ (56 - 8 * k) % 256 from (byte_cast (s.size * 8) (56 - 8 * k)).trans (by rw [Int.natCast_mul]; rfl))
        go_wp2
        go_roundw
        case rel => exact ⟨k + 1, by omega, by go_num, by rw [hsc.out]; have h := hset.out; rw [hlb.out] at h; exact h, hfr.setNew (p := ⟨w1.heap.size, k, none⟩) hs1 _⟩
        case measure => simp [intOf]; omega
      · have hk8 : k = 8 := by omega
        subst hk8
        rw [lenTo_all] at hrow
        have htext := hrow.text 8 8 (by rw [lenL_len])
        have hlz : (lenL false (s.size * 8)).length = 8 := lenL_len _ _
        have hsum2 : ¬ 9223372036854775807 < s.size + 1 + (Lib.repeatL [0] q).length + (lenL false (s.size * 8)).length := by have := HL.out; omega
        have hfin := Lib.hid (show (s ++ ⟨#[128]⟩ ++ ⟨(Lib.repeatL [0] q).toArray⟩ ++ ⟨(lenL false (s.size * 8)).toArray⟩ : ByteArray) = ⟨(padL false s.data.toList).toArray⟩ from by
          apply Go.WideShapes.bytes_inj
          rw [hpad.out]
          simp [ByteArray.data_append])
        go_wp2
        go_ret
        exact ⟨by rw [← hfin.out]; rfl, hfr⟩
  · go_wp2
    clear hmk
    go_loopw [26] (PadRel true (s.size * 8) w1.heap.size w) (fun i _ => 8 - (intOf i).toNat)
    case atStart => exact ⟨0, by omega, rfl, HR0.out, hf1.alloc _⟩
    case round =>
      obtain ⟨k, hk, rfl, hrow, hfr⟩ := hrel
      by_cases hks : k < 8
      · have hlen : (lenTo true (s.size * 8) k).length = 8 := by unfold lenTo; rw [List.length_append, List.length_take, lenL_len, List.length_replicate]; omega
        have hc := hrow.cell (List.getElem?_eq_getElem (show k < (lenTo true (s.size * 8) k).length by omega))
        have hf := hrow.free k
        have hki : (k : Int) < 8 := by omega
        have hset := Lib.hid (hrow.set k (lenByte true (s.size * 8) k))
        have hsc := Lib.hid (lenTo_succ true (s.size * 8) k hks)
        have hlb := Lib.hid (show ((lenByte true (s.size * 8) k).toNat : Int) = (s.size : Int) * 8 / 2 ^ (8 * k) % 256 from (byte_cast (s.size * 8) (8 * k)).trans (by rw [Int.natCast_mul]; rfl))
        go_wp2
        go_roundw
        case rel => exact ⟨k + 1, by omega, by go_num, by rw [hsc.out]; have h := hset.out; rw [hlb.out] at h; exact h, hfr.setNew (p := ⟨w1.heap.size, k, none⟩) hs1 _⟩
        case measure => simp [intOf]; omega
      · have hk8 : k = 8 := by omega
        subst hk8
        rw [lenTo_all] at hrow
        have htext := hrow.text 8 8 (by rw [lenL_len])
        have hlz : (lenL true (s.size * 8)).length = 8 := lenL_len _ _
        have hsum2 : ¬ 9223372036854775807 < s.size + 1 + (Lib.repeatL [0] q).length + (lenL true (s.size * 8)).length := by have := HL.out; omega
        have hfin := Lib.hid (show (s ++ ⟨#[128]⟩ ++ ⟨(Lib.repeatL [0] q).toArray⟩ ++ ⟨(lenL true (s.size * 8)).toArray⟩ : ByteArray) = ⟨(padL true s.data.toList).toArray⟩ from by
          apply Go.WideShapes.bytes_inj
          rw [hpad.out]
          simp [ByteArray.data_append])
        go_wp2
        go_ret
        exact ⟨by rw [← hfin.out]; rfl, hfr⟩
end Go.Proofs.YtkoobhgedoanhaaGreatDoor
