/- Walks: coding.Unbase64. -/
import Derived.Test.YtegbacpenolehaaDoorBase64
namespace Go.Proofs.YtegbacpenolehaaDoor
open Go.RowKit

/-- the number that a letter of base 64 is -/
def letN (c : UInt8) : Option Nat := if 65 ≤ c ∧ c ≤ 90 then some (c.toNat - 65) else if 97 ≤ c ∧ c ≤ 122 then some (c.toNat - 71) else if 48 ≤ c ∧ c ≤ 57 then some (c.toNat + 4) else if c = 43 then some 62 else if c = 47 then some 63 else none
def lettersL : List UInt8 := [65, 66, 67, 68, 69, 70, 71, 72, 73, 74, 75, 76, 77, 78, 79, 80, 81, 82, 83, 84, 85, 86, 87, 88, 89, 90, 97, 98, 99, 100, 101, 102, 103, 104, 105, 106, 107, 108, 109, 110, 111, 112, 113, 114, 115, 116, 117, 118, 119, 120, 121, 122, 48, 49, 50, 51, 52, 53, 54, 55, 56, 57, 43, 47]
def letZ (c : UInt8) : Int := match letN c with | some n => (n : Int) | none => -1
set_option maxRecDepth 100000 in
theorem let_all : ∀ n : Fin 256, Lib.indexByte lettersL n.val.toUInt8 = letZ n.val.toUInt8 := by decide +kernel
theorem let_at (c : UInt8) : Lib.indexByte lettersL c = letZ c := by
  have h := let_all ⟨c.toNat, c.toNat_lt⟩
  simpa using h
theorem let_lt_all : ∀ n : Fin 256, ∀ m, letN n.val.toUInt8 = some m → m < 64 := by
  intro n m h
  have hk : ∀ n : Fin 256, (letN n.val.toUInt8).all (· < 64) = true := by decide +kernel
  have := hk n
  rw [h] at this
  simpa using this
theorem let_lt {c : UInt8} {m : Nat} (h : letN c = some m) : m < 64 := let_lt_all ⟨c.toNat, c.toNat_lt⟩ m (by simpa using h)
theorem letZ_none {c : UInt8} (h : letN c = none) : letZ c = -1 := by unfold letZ; rw [h]
theorem letZ_some {c : UInt8} {m : Nat} (h : letN c = some m) : letZ c = (m : Int) := by unfold letZ; rw [h]
theorem LetIdx_any (c : UInt8) (w : World) :
    Calls Tryd.prog 164 #[.string ⟨#[65, 66, 67, 68, 69, 70, 71, 72, 73, 74, 75, 76, 77, 78, 79, 80, 81, 82, 83, 84, 85, 86, 87, 88, 89, 90, 97, 98, 99, 100, 101, 102, 103, 104, 105, 106, 107, 108, 109, 110, 111, 112, 113, 114, 115, 116, 117, 118, 119, 120, 121, 122, 48, 49, 50, 51, 52, 53, 54, 55, 56, 57, 43, 47]⟩, .int .u8 c.toNat] w fun e w' => e = .returned (.int .i64 (letZ c)) ∧ w = w' :=
  (Tryd.strings_IndexByte _ c.toNat w).mono fun e w' ⟨he, hw⟩ => ⟨by
    have hc : ((c.toNat : Int).toNat.toUInt8) = c := by simp
    rw [hc] at he
    rw [he, ← let_at]; rfl, hw.symm⟩

/-- of up to four letters: the number, noughts behind -/
def qv (l : List UInt8) : Nat → Nat
  | 0 => 0
  | j + 1 => qv l j * 64 + (match l[j]? with | some c => (letN c).getD 0 | none => 0)
theorem qv_lt (l : List UInt8) : ∀ j, qv l j < 64 ^ j
  | 0 => by simp [qv]
  | j + 1 => by
    have h := qv_lt l j
    rw [qv, Nat.pow_succ]
    have h2 : (match l[j]? with | some c => (letN c).getD 0 | none => 0) < 64 := by
      cases e : l[j]? with
      | none => simp
      | some c =>
        cases e2 : letN c with
        | none => simp [e2]
        | some m => simpa [e2] using let_lt e2
    omega
def outQ (v m : Nat) : List UInt8 := (List.range m).map fun k => (v / 2 ^ (16 - 8 * k)).toUInt8
/-- the first j of l are letters -/
def allLet (l : List UInt8) (j : Nat) : Bool := (l.take j).all fun c => (letN c).isSome
def quad (l : List UInt8) : Option (List UInt8) := if allLet l 4 then some (outQ (qv l 4) (min 4 l.length - 1)) else none
def unbGo : Nat → List UInt8 → Option (List UInt8)
  | 0, _ => some []
  | q + 1, t => match quad t with
    | none => none
    | some out => (unbGo q (t.drop 4)).map (out ++ ·)
def unb64 (l : List UInt8) : Option (List UInt8) :=
  if l.length % 4 ≠ 0 then none else match unbGo (l.length / 4) (Lib.trimRightB l 61) with
    | none => none
    | some out => if b64L out = l then some out else none
def Unb64Post (s : ByteArray) (w : World) (e : Ending) (w' : World) : Prop :=
  Fr noB w w' ∧ match unb64 s.data.toList with
    | some l => e = .returned (.tuple #[.string ⟨l.toArray⟩, .nilIface])
    | none => e = .returned (.tuple #[.string ⟨#[]⟩, .iface 46 (.int .i64 3)])

def URel (w : World) (s : ByteArray) (t : ByteArray) (i : Value) (wr : World) : Prop :=
  ∃ (q : Nat) (acc : List UInt8), 4 * q ≤ s.size ∧ i = .int .i64 ((4 * q : Nat) : Int) ∧ acc.length ≤ 3 * q ∧ unbGo (s.size / 4) t.data.toList = (unbGo (s.size / 4 - q) (t.data.toList.drop (4 * q))).map (acc ++ ·) ∧ Bld w.heap.size w.heap.size acc wr ∧ Fr noB w wr ∧ w.heap.size ≤ wr.heap.size

theorem udrop_at (t : ByteArray) (i j : Nat) (h : i + j < t.size) : (t.data.toList.drop i)[j]? = some t[i + j] := by
  rw [List.getElem?_drop]; exact byte_at t (i + j) h
theorem udrop_off (t : ByteArray) (i j : Nat) (h : ¬ i + j < t.size) : (t.data.toList.drop i)[j]? = none := by
  rw [List.getElem?_drop]; exact byte_off t (i + j) h
theorem quad_none {l : List UInt8} {j : Nat} {c : UInt8} (h : l[j]? = some c) (hj : j < 4) (hc : letN c = none) : quad l = none := by
  unfold quad
  rw [if_neg]
  intro ha
  have hm : c ∈ l.take 4 := by
    apply List.mem_of_getElem? (i := j)
    rw [List.getElem?_take_of_lt hj]; exact h
  have := List.all_eq_true.1 ha c hm
  rw [hc] at this
  cases this
theorem quad_some {l : List UInt8} (h : allLet l 4 = true) : quad l = some (outQ (qv l 4) (min 4 l.length - 1)) := by unfold quad; rw [if_pos h]
theorem unbGo_step {p : Nat} {l : List UInt8} (hp : 0 < p) : unbGo p l = match quad l with
    | none => none
    | some out => (unbGo (p - 1) (l.drop 4)).map (out ++ ·) := by
  cases p with
  | zero => exact absurd hp (by omega)
  | succ p => rfl
theorem qv_at {l : List UInt8} {j m : Nat} {c : UInt8} (h : l[j]? = some c) (hc : letN c = some m) : qv l (j + 1) = qv l j * 64 + m := by rw [qv, h]; simp [hc]
theorem qv_off {l : List UInt8} {j : Nat} (h : l[j]? = none) : qv l (j + 1) = qv l j * 64 := by rw [qv, h]; exact Nat.add_zero _
theorem allLet_at {l : List UInt8} {j m : Nat} {c : UInt8} (h : l[j]? = some c) (hc : letN c = some m) (ha : allLet l j = true) : allLet l (j + 1) = true := by
  unfold allLet at ha ⊢
  rw [List.take_add_one, h, List.all_append, ha]
  simp [hc]
theorem allLet_off {l : List UInt8} {j : Nat} (h : l[j]? = none) (ha : allLet l j = true) : allLet l (j + 1) = true := by
  unfold allLet at ha ⊢
  rw [List.take_add_one, h, List.all_append, ha]
  rfl
theorem or_low6 (v x : Nat) (hv : v < 4294967296) (hx : x < 64) : bits .or .i64 ((v : Int) * 64) (x : Int) = ((v * 64 + x : Nat) : Int) := by
  have hm : ((v : Int) * 64) = ((v * 64 : Nat) : Int) := by omega
  rw [hm]
  have h1 : (BitVec.ofInt 64 ((v * 64 : Nat) : Int)).toNat = v * 64 := by
    rw [BitVec.ofInt_natCast, BitVec.toNat_ofNat]; exact Nat.mod_eq_of_lt (by omega)
  have h2 : (BitVec.ofInt 64 (x : Int)).toNat = x := by
    rw [BitVec.ofInt_natCast, BitVec.toNat_ofNat]; exact Nat.mod_eq_of_lt (by omega)
  show IntKind.i64.wrap ((BitVec.ofInt 64 ((v * 64 : Nat) : Int) ||| BitVec.ofInt 64 (x : Int)).toNat : Int) = _
  have h3 : v * 64 ||| x = v * 64 + x := by
    have h := Nat.shiftLeft_add_eq_or_of_lt (show x < 2 ^ 6 from hx) v
    rw [Nat.shiftLeft_eq] at h
    exact h.symm
  rw [BitVec.toNat_or, h1, h2, h3, IntWalk.i64_left]
  exact IntWalk.wrap64_in _ (by omega)
theorem outQ_at (v : Nat) {k m : Nat} (h : k < m) : (outQ v m)[k]? = some (v / 2 ^ (16 - 8 * k)).toUInt8 := by
  unfold outQ
  rw [List.getElem?_map, List.getElem?_range h]; rfl
theorem unb64_none {l : List UInt8} (h : unbGo (l.length / 4) (Lib.trimRightB l 61) = none) : unb64 l = none := by
  unfold unb64; split
  · rfl
  · rw [h]
theorem unb64_some {l out : List UInt8} (h4 : l.length % 4 = 0) (h : unbGo (l.length / 4) (Lib.trimRightB l 61) = some out) : unb64 l = if b64L out = l then some out else none := by
  unfold unb64; rw [if_neg (by omega), h]
def O3Rel (w : World) (acc : List UInt8) (v m : Nat) (i : Value) (wr : World) : Prop :=
  ∃ k : Nat, k ≤ m ∧ i = .int .i64 k ∧ Bld w.heap.size w.heap.size (acc ++ (outQ v m).take k) wr ∧ Fr noB w wr ∧ w.heap.size ≤ wr.heap.size
def IRel (t : ByteArray) (i : Nat) (w0 : World) (v n k : Value) (wr : World) : Prop :=
  ∃ j kk : Nat, j ≤ 4 ∧ kk = i + j ∧ k = .int .i64 kk ∧ v = .int .i64 (qv (t.data.toList.drop i) j) ∧ n = .int .i64 ((min j (t.size - i) : Nat) : Int) ∧ allLet (t.data.toList.drop i) j = true ∧ wr = w0

set_option maxRecDepth 100000 in
set_option maxHeartbeats 4000000 in
theorem Unbase64_any (s : ByteArray) (w : World) (hs : s.size < 4398046511104) :
    Calls Tryd.prog 120 #[.string s] w (Unb64Post s w) := by
  by_cases h4 : s.size % 4 = 0
  · have ho : ((s.size : Int) % 4 == 0) = true := by rw [beq_iff_eq]; omega
    go_enter Tryd.func120, Tryd.ntmps120
    go_wp2_with fail
    refine (Tryd.strings_TrimRight_one s 61 (by decide) _ (by omega)).mono ?_
    rintro e w1 ⟨rfl, rfl⟩
    generalize ht : (⟨(Lib.trimRightB s.data.toList 61).toArray⟩ : ByteArray) = t
    have HT := Lib.hid ht
    clear ht
    go_wp2
    go_loopw [6] (URel w s t) (fun i _ => s.size - (intOf i).toNat)
    case atStart => exact ⟨0, [], by omega, rfl, by simp, by simp, Bld.new w, (Fr.refl _ _).alloc _, by simp⟩
    case round =>
      obtain ⟨q, acc, hq, hi, hal, hun, hb, hf, hz⟩ := hrel
      obtain ⟨i, hiq⟩ : ∃ i, i = 4 * q := ⟨_, rfl⟩
      rw [← hiq] at hi hun hq
      subst hi
      have HUN := Lib.hid hun
      clear hun
      have HIQ := Lib.hid hiq
      clear hiq
      by_cases his : i < s.size
      · have hii : (i : Int) < (s.size : Int) := by omega
        go_wp2_with fail
        go_loopw [7, 8, 9] (IRel t i wr) (fun _ _ k _ => i + 4 - (intOf k).toNat)
        case atStart => exact ⟨0, i, by omega, by omega, rfl, rfl, by simp, by simp [allLet], rfl⟩
        case round =>
          obtain ⟨j, kk, hj, hkk, rfl, rfl, hn, hall, rfl⟩ := hrel
          obtain ⟨nn, hnn⟩ : ∃ nn, nn = min j (t.size - i) := ⟨_, rfl⟩
          rw [← hnn] at hn
          subst hn
          have HNN := Lib.hid hnn
          have HKK := Lib.hid hkk
          have HALL := Lib.hid hall
          clear hnn hkk hall
          by_cases hj4 : j < 4
          · have hkj : (kk : Int) < (i : Int) + 4 := by have := HKK.out; omega
            have hvb : qv (t.data.toList.drop i) j < 262144 := Nat.lt_of_lt_of_le (qv_lt _ j) (Nat.le_trans (Nat.pow_le_pow_right (by omega) (show j ≤ 3 by omega)) (by decide))
            have hshl : ¬ (9223372036854775807 : Int) < (qv (t.data.toList.drop i) j : Int) * 64 := by omega
            by_cases hkt : kk < t.size
            · have hkt' : (kk : Int) < (t.size : Int) := by omega
              go_wp2_with fail
              refine (LetIdx_any t[kk] wr).mono ?_
              rintro e w2 ⟨rfl, rfl⟩
              cases hx : letN t[kk] with
              | none =>
                rw [letZ_none hx]
                go_wp2_with fail
                go_ret2
                have hat := udrop_at t i j (by have := HKK.out; omega)
                have hg : unbGo (s.size / 4) t.data.toList = none := by
                  rw [HUN.out, unbGo_step (by have := HIQ.out; omega), quad_none hat hj4 (by rw [← hx]; congr 1; congr 1; exact HKK.out.symm)]; rfl
                unfold Unb64Post
                rw [unb64_none (by rw [← hg, ← HT.out]; rfl)]
                exact ⟨hf, rfl⟩
              | some m =>
                rw [letZ_some hx]
                have hm := let_lt hx
                have hm0 : ¬ (m : Int) < 0 := by omega
                have hn4 : nn ≤ 4 := by have := HNN.out; omega
                have hat := Lib.hid (udrop_at t i j (by have := HKK.out; omega))
                have hx2 : letN (t[i + j]'(by have := HKK.out; omega)) = some m := by rw [← hx]; congr 1; congr 1; exact HKK.out.symm
                have HX2 := Lib.hid hx2
                clear hx2
                go_wp2_with fail
                refine ⟨⟨j + 1, kk + 1, by omega, by have := HKK.out; omega, by go_num, ?_, ?_, allLet_at hat.out HX2.out HALL.out, rfl⟩, by simp [intOf]; have := HKK.out; omega⟩
                · rw [or_low6 _ _ (Nat.lt_trans hvb (by decide)) hm, qv_at hat.out HX2.out]
                · have h1 : min (j + 1) (t.size - i) = nn + 1 := by have := HNN.out; have := HKK.out; omega
                  rw [h1]; rfl
            · have hkt' : ¬ (kk : Int) < (t.size : Int) := by omega
              have hoff := Lib.hid (udrop_off t i j (by have := HKK.out; omega))
              go_wp2_with fail
              refine ⟨⟨j + 1, kk + 1, by omega, by have := HKK.out; omega, by go_num, ?_, ?_, allLet_off hoff.out HALL.out, rfl⟩, by simp [intOf]; have := HKK.out; omega⟩
              · rw [qv_off hoff.out]; rfl
              · have h1 : min (j + 1) (t.size - i) = nn := by have := HNN.out; have := HKK.out; omega
                rw [h1]
          · have hkj : ¬ (kk : Int) < (i : Int) + 4 := by have := HKK.out; omega
            obtain rfl : j = 4 := by omega
            have hvb : qv (t.data.toList.drop i) 4 < 16777216 := qv_lt _ 4
            obtain ⟨m, hm, hmax⟩ : ∃ m : Nat, m = nn - 1 ∧ max ((nn : Int) - 1) 0 = (m : Int) := ⟨nn - 1, rfl, by omega⟩
            have hm3 : m ≤ 3 := by have := HNN.out; omega
            have hquad := quad_some HALL.out
            have hml : min 4 (t.data.toList.drop i).length - 1 = m := by rw [List.length_drop]; show min 4 (t.size - i) - 1 = m; have := HNN.out; omega
            rw [hml] at hquad
            have HQ := Lib.hid hquad
            have HM := Lib.hid hm
            clear hm hquad hml
            generalize qv (t.data.toList.drop i) 4 = v at hvb HQ
            go_wp2_with fail
            go_loopw [54] (O3Rel w acc v m) (fun i _ => m - (intOf i).toNat)
            case atStart => exact ⟨0, by omega, rfl, by simpa using hb, hf, hz⟩
            case round =>
              obtain ⟨k, hk, rfl, hb1, hf1, hz1⟩ := hrel
              have hlo : ∀ j, (acc ++ (outQ v m).take j).length + 1 ≤ 140737488355328 := by
                intro j
                have h1 : (outQ v m).length = m := by simp [outQ]
                rw [List.length_append, List.length_take, h1]
                have := HIQ.out
                omega
              by_cases hkm : k < m
              · match k, hk, hb1, hkm with
                | 0, _, hb1, hkm =>
                  have hkm' : (0 : Int) < (m : Int) := by omega
                  have hel : (outQ v m)[0]? = some (v / 2 ^ (16 - 8 * 0)).toUInt8 := outQ_at v (by omega)
                  have HEL := Lib.hid hel
                  clear hel
                  go_wp2_with fail
                  rw [show ((v : Int) / 65536 : Int) = (((v / 2 ^ (16 - 8 * 0)).toUInt8.toNat : Nat) : Int) by simp; omega]
                  refine (WriteByte_any _ _ _ _ wr hb1 (hlo 0) hz1).mono ?_
                  rintro e w2 ⟨rfl, hb2, hf2⟩
                  have hz2 : w.heap.size ≤ w2.heap.size := Nat.le_trans hz1 hf2.size
                  have HB2 : Bld w.heap.size w.heap.size (acc ++ (outQ v m).take (0 + 1)) w2 := by
                    rw [List.take_add_one, HEL.out, ← List.append_assoc]; exact hb2
                  clear hb1 hb2
                  go_wp2
                  go_roundw
                  case rel => exact ⟨0 + 1, by omega, by go_num, HB2, hf1.thenBelow hf2, hz2⟩
                  case measure => simp [intOf] <;> omega
                | 1, _, hb1, hkm =>
                  have hkm' : (1 : Int) < (m : Int) := by omega
                  have hel : (outQ v m)[1]? = some (v / 2 ^ (16 - 8 * 1)).toUInt8 := outQ_at v (by omega)
                  have HEL := Lib.hid hel
                  clear hel
                  go_wp2_with fail
                  rw [show ((v : Int) / 256 % 256 : Int) = (((v / 2 ^ (16 - 8 * 1)).toUInt8.toNat : Nat) : Int) by simp]
                  refine (WriteByte_any _ _ _ _ wr hb1 (hlo 1) hz1).mono ?_
                  rintro e w2 ⟨rfl, hb2, hf2⟩
                  have hz2 : w.heap.size ≤ w2.heap.size := Nat.le_trans hz1 hf2.size
                  have HB2 : Bld w.heap.size w.heap.size (acc ++ (outQ v m).take (1 + 1)) w2 := by
                    rw [List.take_add_one, HEL.out, ← List.append_assoc]; exact hb2
                  clear hb1 hb2
                  go_wp2
                  go_roundw
                  case rel => exact ⟨1 + 1, by omega, by go_num, HB2, hf1.thenBelow hf2, hz2⟩
                  case measure => simp [intOf] <;> omega
                | 2, _, hb1, hkm =>
                  have hkm' : (2 : Int) < (m : Int) := by omega
                  have hel : (outQ v m)[2]? = some (v / 2 ^ (16 - 8 * 2)).toUInt8 := outQ_at v (by omega)
                  have HEL := Lib.hid hel
                  clear hel
                  go_wp2_with fail
                  rw [show ((v : Int) % 256 : Int) = (((v / 2 ^ (16 - 8 * 2)).toUInt8.toNat : Nat) : Int) by simp]
                  refine (WriteByte_any _ _ _ _ wr hb1 (hlo 2) hz1).mono ?_
                  rintro e w2 ⟨rfl, hb2, hf2⟩
                  have hz2 : w.heap.size ≤ w2.heap.size := Nat.le_trans hz1 hf2.size
                  have HB2 : Bld w.heap.size w.heap.size (acc ++ (outQ v m).take (2 + 1)) w2 := by
                    rw [List.take_add_one, HEL.out, ← List.append_assoc]; exact hb2
                  clear hb1 hb2
                  go_wp2
                  go_roundw
                  case rel => exact ⟨2 + 1, by omega, by go_num, HB2, hf1.thenBelow hf2, hz2⟩
                  case measure => simp [intOf] <;> omega
                | k + 3, _, _, hkm => exact absurd hkm (by omega)
              · have hkm' : ¬ (k : Int) < (m : Int) := by omega
                obtain rfl : k = m := by omega
                have htk : (outQ v k).take k = outQ v k := List.take_of_length_le (by simp [outQ])
                rw [htk] at hb1
                clear htk
                have hlen : (acc ++ outQ v k).length ≤ 3 * (q + 1) := by rw [List.length_append]; have : (outQ v k).length = k := (by simp [outQ]); omega
                have hst : unbGo (s.size / 4) t.data.toList = (unbGo (s.size / 4 - (q + 1)) (t.data.toList.drop (i + 4))).map ((acc ++ outQ v k) ++ ·) := by
                  rw [HUN.out, unbGo_step (by have := HIQ.out; omega), HQ.out, List.drop_drop, Nat.sub_sub]
                  simp only [Option.map_map]
                  congr 1; funext x; simp
                have HST := Lib.hid hst
                clear hst
                go_wp2
                have hi4 := HIQ.out
                refine ⟨⟨q + 1, acc ++ outQ v k, by omega, ?_, hlen, ?_, hb1, hf1, hz1⟩, by simp [intOf]; omega⟩
                · rw [show ((i : Int) + 4) = ((4 * (q + 1) : Nat) : Int) by omega]
                · rw [show 4 * (q + 1) = i + 4 by omega]; exact HST.out
      · have hii : ¬ (i : Int) < (s.size : Int) := by omega
        go_wp2_with fail
        refine (BString_any _ _ _ wr hb hz).mono ?_
        rintro e w1 ⟨rfl, hf1⟩
        have HF1 := hf.thenBelow hf1
        have hs0 : s.size / 4 - q = 0 := by have := HIQ.out; omega
        have hg : unbGo (s.data.toList.length / 4) (Lib.trimRightB s.data.toList 61) = some acc := by
          have h := HUN.out
          rw [hs0, ← HT.out] at h
          simpa [unbGo] using h
        have HU := Lib.hid (unb64_some h4 hg)
        have haz : (⟨acc.toArray⟩ : ByteArray).size < 4398046511104 := by show acc.toArray.size < _; simp; have := HIQ.out; omega
        clear hg hs0
        go_wp2_with fail
        refine (Base64_any ⟨acc.toArray⟩ w1 haz).mono ?_
        rintro e w2 ⟨rfl, hf2⟩
        have HF2 := HF1.trans hf2
        by_cases heq : b64L acc = s.data.toList
        · have hbq : (b64L acc == s.toList) = true := by rw [Go.ByteArray.toList_eq, beq_iff_eq, heq]
          have hU2 : unb64 s.data.toList = some acc := by rw [HU.out, if_pos heq]
          have HU2 := Lib.hid hU2
          clear hU2 heq
          go_wp2_with fail
          go_ret2
          unfold Unb64Post
          rw [HU2.out]
          exact ⟨HF2, rfl⟩
        · have hbq : (b64L acc == s.toList) = false := by rw [Go.ByteArray.toList_eq, beq_eq_false_iff_ne]; exact heq
          have hU2 : unb64 s.data.toList = none := by rw [HU.out, if_neg heq]
          have HU2 := Lib.hid hU2
          clear hU2 heq
          go_wp2_with fail
          go_ret2
          unfold Unb64Post
          rw [HU2.out]
          exact ⟨HF2, rfl⟩
  · have ho : ((s.size : Int) % 4 == 0) = false := by rw [beq_eq_false_iff_ne]; omega
    have hn : unb64 s.data.toList = none := by unfold unb64; rw [if_pos (show s.data.toList.length % 4 ≠ 0 from h4)]
    go_enter Tryd.func120, Tryd.ntmps120
    go_wp2
    go_ret2
    unfold Unb64Post
    rw [hn]
    exact ⟨Fr.refl _ _, rfl⟩
end Go.Proofs.YtegbacpenolehaaDoor
