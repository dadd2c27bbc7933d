/- Package sum: SHA256. Package proof: hash by SHA256. The law ResponseBlind: its walk. -/
import Derived.Test.YtkoobhgedoanhaaGreatDoorDigestKnownB7
import Derived.Great.BuildSlice
import Derived.Test.YtkoobhgedoanhaaGreatDoorDigestKnownB11
namespace Go.Proofs.YtkoobhgedoanhaaGreatDoor
open Go.RowKit

theorem WsAt.cell {w : World} {g : Nat} {l : List Int} (h : WsAt w g l) {j : Nat} (hj : j < l.length) : w.cell? ⟨g, j, none⟩ = some (.int .u32 (l.getD j 0)) := by
  unfold WsAt at h
  simp only [World.cell?, h]
  simp [List.getElem?_append_left, hj, List.getD_eq_getElem?_getD]
theorem WsAt.zero {w : World} {g : Nat} {l : List Int} (h : WsAt w g l) (hj : l.length < 64) : w.cell? ⟨g, l.length, none⟩ = some (.int .u32 0) := by
  unfold WsAt at h
  have e : ((l ++ List.replicate (64 - l.length) 0).map (Value.int IntKind.u32))[l.length]? = some (Value.int IntKind.u32 0) := by
    rw [List.getElem?_map, List.getElem?_append_right (Nat.le_refl _), Nat.sub_self, List.getElem?_replicate]
    rw [if_pos (by omega)]; rfl
  simp only [World.cell?, h]
  simpa using e
theorem WsAt.free {w : World} {g : Nat} {l : List Int} (h : WsAt w g l) (j : Nat) : w.frozen? ⟨g, j, none⟩ = false := by
  unfold WsAt at h
  simp [World.frozen?, h]
theorem WsAt.set {w : World} {g : Nat} {l : List Int} (h : WsAt w g l) (hj : l.length < 64) (x : Int) : WsAt (w.setCell ⟨g, l.length, none⟩ (.int .u32 x)) g (l ++ [x]) := by
  unfold WsAt at h ⊢
  rw [set_heap h]
  congr 2
  have e : List.replicate (64 - l.length) (0 : Int) = 0 :: List.replicate (64 - (l ++ [x]).length) 0 := by
    rw [List.length_append, show 64 - l.length = (64 - (l.length + [x].length)) + 1 from by simp; omega, List.replicate_succ]
  rw [e]
  simp
theorem wrap3 (a b c d : Int) : IntKind.u32.wrap (IntKind.u32.wrap (IntKind.u32.wrap (a + b) + c) + d) = (a + b + c + d) % 4294967296 := by
  have e : ∀ x : Int, IntKind.u32.wrap x = x % 4294967296 := fun x => by simp [IntKind.wrap, IntKind.signed, IntKind.bits]
  rw [e, e, e]; omega
theorem wrap1 (x : Int) : IntKind.u32.wrap x = x % 4294967296 := by simp [IntKind.wrap, IntKind.signed, IntKind.bits]
theorem wrap4 (a b c d e : Int) : IntKind.u32.wrap (IntKind.u32.wrap (IntKind.u32.wrap (IntKind.u32.wrap (a + b) + c) + d) + e) = (a + b + c + d + e) % 4294967296 := by
  rw [wrap1, wrap1, wrap1, wrap1]; omega
theorem build8 (a0 a1 a2 a3 a4 a5 a6 a7 : Int) : Tryz.prog.built 186 [(0, .int .u32 a0), (1, .int .u32 a1), (2, .int .u32 a2), (3, .int .u32 a3), (4, .int .u32 a4), (5, .int .u32 a5), (6, .int .u32 a6), (7, .int .u32 a7)] = some #[.int .u32 a0, .int .u32 a1, .int .u32 a2, .int .u32 a3, .int .u32 a4, .int .u32 a5, .int .u32 a6, .int .u32 a7] := by kernel_rfl
theorem wpList_build8 {ops : Array Oper} {rest : List Oper} {o : Oper} {a : Act} {w : World} {Q : Exit → Act → World → Prop} (hg : o.guard = none) (x0 x1 x2 x3 x4 x5 x6 x7 : Operand)
    (ho : o.op = .build 186 #[(0, x0), (1, x1), (2, x2), (3, x3), (4, x4), (5, x5), (6, x6), (7, x7)]) (d : Option Tmp) (hd : o.dst = d) (v0 v1 v2 v3 v4 v5 v6 v7 : Int)
    (h0 : a.eval x0 = .int .u32 v0) (h1 : a.eval x1 = .int .u32 v1) (h2 : a.eval x2 = .int .u32 v2) (h3 : a.eval x3 = .int .u32 v3) (h4 : a.eval x4 = .int .u32 v4) (h5 : a.eval x5 = .int .u32 v5) (h6 : a.eval x6 = .int .u32 v6) (h7 : a.eval x7 = .int .u32 v7)
    (h : wpList Tryz.prog ops Q rest (a.put d (.agg #[.int .u32 v0, .int .u32 v1, .int .u32 v2, .int .u32 v3, .int .u32 v4, .int .u32 v5, .int .u32 v6, .int .u32 v7])) w) : wpList Tryz.prog ops Q (o :: rest) a w := by
  refine wpList_buildTo hg 186 _ ho d hd _ ?_ h
  simp only [List.map_toArray, List.map_cons, List.map_nil, h0, h1, h2, h3, h4, h5, h6, h7]
  exact build8 _ _ _ _ _ _ _ _
theorem shRow_other {w : World} {g k : Nat} (h : k ≠ g) (cs : Array Value) : (w.setRow g cs).heap[k]? = w.heap[k]? := by
  simp [World.setRow, Array.getElem?_modify, Ne.symm h]
theorem shRow_fr {a w : World} (h : Fr noB a w) {g : Nat} (hg : a.heap.size ≤ g) (cs : Array Value) : Fr noB a (w.setRow g cs) :=
  ⟨h.os, h.tape, h.output, by show a.heap.size ≤ (w.setRow g cs).heap.size; rw [World.setRow]; simp only [Array.size_modify]; exact h.size, fun k hk hn => (shRow_other (by omega) cs).trans (h.block k hk hn)⟩
theorem cells8 (v0 v1 v2 v3 v4 v5 v6 v7 : Int) : (#[.int .u32 v0, .int .u32 v1, .int .u32 v2, .int .u32 v3, .int .u32 v4, .int .u32 v5, .int .u32 v6, .int .u32 v7] : Array Value).all (·.oneCell') = true := by simp [Value.oneCell']
theorem quiet_same2 {P : Program} {f : FuncId} {args : Array Value} {w : World} {q n : Nat} {v : Value}
    (h : Calls P f args (w.drewN (q + n)) fun e w' => e = .returned v ∧ w' = w.drewN (q + n)) : Calls P f args (w.drewN (q + n)) fun e w'' => e = .returned v ∧ ∃ m, w'' = w.drewN (q + m) :=
  h.mono fun _ _ ⟨he, hm⟩ => ⟨he, n, hm⟩
/-- block g: eight words -/
def ZsAt (w : World) (g : Nat) (l : List Int) : Prop := w.heap[g]? = some (.cells (l.map (Value.int .u32)).toArray 186 (0, 0))
theorem ZsAt.cell {w : World} {g : Nat} {l : List Int} (h : ZsAt w g l) {j : Nat} (hj : j < l.length) : w.cell? ⟨g, j, none⟩ = some (.int .u32 (l.getD j 0)) := by
  unfold ZsAt at h
  simp only [World.cell?, h]
  simp [hj, List.getD_eq_getElem?_getD]
theorem ZsAt.free {w : World} {g : Nat} {l : List Int} (h : ZsAt w g l) (j : Nat) : w.frozen? ⟨g, j, none⟩ = false := by
  unfold ZsAt at h
  simp [World.frozen?, h]
theorem ZsAt.set {w : World} {g : Nat} {l : List Int} (h : ZsAt w g l) (j : Nat) (x : Int) : ZsAt (w.setCell ⟨g, j, none⟩ (.int .u32 x)) g (l.set j x) := by
  unfold ZsAt at h ⊢
  rw [set_heap h]
  simp [List.map_set]
def mixL (a b : List Int) : Nat → List Int
  | 0 => a
  | k + 1 => (mixL a b k).set k ((a.getD k 0 + b.getD k 0) % 4294967296)
theorem mixL_len (a b : List Int) : ∀ k, (mixL a b k).length = a.length
  | 0 => rfl
  | k + 1 => by rw [mixL, List.length_set, mixL_len a b k]
theorem mixL_get (a b : List Int) : ∀ k j, k ≤ j → (mixL a b k).getD j 0 = a.getD j 0
  | 0, _, _ => rfl
  | k + 1, j, h => by
    rw [mixL, List.getD_eq_getElem?_getD, List.getElem?_set, if_neg (by omega), ← List.getD_eq_getElem?_getD, mixL_get a b k j (by omega)]
theorem mixL_all (H V : Sh) : mixL H.list V.list 8 = (shSum H V).list := rfl
theorem shTo_ok (T : List UInt8) : ∀ k, ∀ x ∈ (shTo T k).list, 0 ≤ x ∧ x < 4294967296
  | 0 => by
    intro x hx
    simp only [shTo, Sh.list, sh0, List.mem_cons, List.not_mem_nil, or_false] at hx
    rcases hx with rfl | rfl | rfl | rfl | rfl | rfl | rfl | rfl <;> decide
  | k + 1 => by
    intro x hx
    simp only [shTo, shBlock, shSum, Sh.list, List.mem_cons, List.not_mem_nil, or_false] at hx
    rcases hx with rfl | rfl | rfl | rfl | rfl | rfl | rfl | rfl <;> exact mod_ok _
def ShAd (H V : Sh) (g g1 : Nat) (w : World) (i : Value) (wr : World) : Prop :=
  ∃ k : Nat, k ≤ 8 ∧ i = .int .i64 k ∧ ZsAt wr g (mixL H.list V.list k) ∧ ZsAt wr g1 V.list ∧ Fr noB w wr
def ShIn (tr : Nat → Sh) (ws : List Int) (H : Sh) (g g1 gw : Nat) (w : World) (i : Value) (wr : World) : Prop :=
  ∃ k : Nat, k ≤ 64 ∧ i = .int .i64 k ∧ ShIs wr g (tr k) ∧ ShIs wr g1 H ∧ WsAt wr gw ws ∧ Fr noB w wr
theorem ShIs.cells {w : World} {g : Nat} {h : Sh} (hm : ShIs w g h) : w.cell? ⟨g, 0, none⟩ = some (.int .u32 h.v0) ∧ w.cell? ⟨g, 1, none⟩ = some (.int .u32 h.v1) ∧ w.cell? ⟨g, 2, none⟩ = some (.int .u32 h.v2) ∧ w.cell? ⟨g, 3, none⟩ = some (.int .u32 h.v3) ∧
    w.cell? ⟨g, 4, none⟩ = some (.int .u32 h.v4) ∧ w.cell? ⟨g, 5, none⟩ = some (.int .u32 h.v5) ∧ w.cell? ⟨g, 6, none⟩ = some (.int .u32 h.v6) ∧ w.cell? ⟨g, 7, none⟩ = some (.int .u32 h.v7) := by
  unfold ShIs at hm
  simp [World.cell?, hm]
def WsRel (X : List UInt8) (g : Nat) (w : World) (i : Value) (wr : World) : Prop := ∃ k : Nat, k ≤ 64 ∧ i = .int .i64 k ∧ WsAt wr g (shW X k) ∧ Fr noB w wr

set_option maxRecDepth 100000 in
set_option pp.deepTerms true in
set_option pp.maxSteps 1000000 in
set_option maxHeartbeats 16000000 in
theorem SHA256_any (s : ByteArray) (w : World) (hs : s.size < 4398046511104) (ht : ShTabs w) :
    Calls Tryz.prog 117 #[.string s] w fun e w' => e = .returned (.string ⟨(shaL s.data.toList).toArray⟩) ∧ Fr noB w w' := by
  have c0 := ht.b.2 0 _ rfl
  have c1 := ht.b.2 1 _ rfl
  have c2 := ht.b.2 2 _ rfl
  have c3 := ht.b.2 3 _ rfl
  have c4 := ht.b.2 4 _ rfl
  have c5 := ht.b.2 5 _ rfl
  have c6 := ht.b.2 6 _ rfl
  have c7 := ht.b.2 7 _ rfl
  have hfa : Fr noB w (w.alloc (.cells #[.int .u32 1779033703, .int .u32 3144134277, .int .u32 1013904242, .int .u32 2773480762, .int .u32 1359893119, .int .u32 2600822924, .int .u32 528734635, .int .u32 1541459225] 186)) := (Fr.refl noB w).alloc _
  have hm0 : ShIs (w.alloc (.cells #[.int .u32 1779033703, .int .u32 3144134277, .int .u32 1013904242, .int .u32 2773480762, .int .u32 1359893119, .int .u32 2600822924, .int .u32 528734635, .int .u32 1541459225] 186)) w.heap.size sh0 := new_block _ _
  have HM0 := Lib.hid hm0
  clear hm0
  go_enter Tryz.func117, Tryz.ntmps117
  go_wp2_with fail
  clear c0 c1 c2 c3 c4 c5 c6 c7
  refine (pad_any s false _ (by omega)).mono ?_
  rintro e w1 ⟨rfl, hf1⟩
  obtain ⟨T, hT⟩ : ∃ T, T = (⟨(padL false s.data.toList).toArray⟩ : ByteArray) := ⟨_, rfl⟩
  rw [← hT]
  have hTl : T.data.toList = padL false s.data.toList := by rw [hT]
  have hTs : T.size = (padL false s.data.toList).length := by rw [← hTl]; simp
  obtain ⟨hp64, hple⟩ := padL_len false s.data.toList
  rw [← hTs] at hp64 hple
  have hsl : s.data.toList.length = s.size := by simp
  rw [hsl] at hple
  have HFIN := Lib.hid (show shaL s.data.toList = sumTextL false (shTo T.data.toList (T.size / 64)).list by unfold shaL; rw [hTl, hTs])
  have HM1 := Lib.hid (show ShIs w1 w.heap.size sh0 from hf1.keep HM0.out (fun h => h))
  have HF1 := Lib.hid (hfa.trans hf1)
  clear hT hTl hTs HM0 hfa hf1 hsl
  go_wp2
  go_loopw [4] (ShOut T w.heap.size w) (fun t _ => match t with | .string x => x.size | _ => 0)
  case atStart => exact ⟨0, by omega, by rw [Nat.mul_zero]; congr 1; apply Go.WideShapes.bytes_inj; rw [cut_list]; rfl, HM1.out, HF1.out⟩
  case round =>
    obtain ⟨n, hn, rfl, hm, hfr⟩ := hrel
    generalize wr = wo at *
    by_cases hne : 64 * n < T.size
    · have hXs : 64 ≤ (T.extract (64 * n) T.size).size := by rw [cut_size]; omega
      have hXs2 : (T.extract (64 * n) T.size).size < 17592186044416 := by rw [cut_size]; omega
      have hnx := Lib.hid (cut_cut T (64 * n) 64)
      have hXl := Lib.hid (cut_list T (64 * n))
      generalize T.extract (64 * n) T.size = X at *
      have HM := Lib.hid hm
      have hblk := Lib.hid (show shTo T.data.toList (n + 1) = shBlock X.data.toList (shTo T.data.toList n) by rw [hXl.out]; rfl)
      generalize shTo T.data.toList n = H at *
      clear hm
      have hx : X.toList.isEmpty = false := by
        rw [ByteArray.toList_eq]
        cases hq : X.data.toList with
        | nil => rw [byteArray_nil.1 hq] at hXs; omega
        | cons a l => rfl
      have hx' : ¬ X.toList = [] := by rw [ByteArray.toList_eq]; intro h; rw [byteArray_nil.1 h] at hXs; omega
      go_wp2
      go_loopw [23] (WsRel X.data.toList wo.heap.size wo) (fun i _ => 64 - (intOf i).toNat)
      case atStart => exact ⟨0, by omega, rfl, by unfold WsAt; rw [new_block]; kernel_rfl, (Fr.refl _ _).alloc _⟩
      case round =>
        obtain ⟨k, hk, rfl, hws, hfr2⟩ := hrel
        have hlen := Lib.hid (shW_len X.data.toList k)
        have hsn := Lib.hid (show shW X.data.toList (k + 1) = shAdd X.data.toList (shW X.data.toList k) k from rfl)
        have H64 := Lib.hid (show k = 64 → shW X.data.toList k = shW X.data.toList 64 from fun h => by rw [h])
        generalize shW X.data.toList k = l at *
        by_cases hk4 : k < 64
        · have hki : (k : Int) < 64 := by omega
          have hz := hws.zero (by rw [hlen.out]; exact hk4)
          have hf := hws.free k
          rw [hlen.out] at hz
          have hset := Lib.hid (hws.set (by rw [hlen.out]; exact hk4) (shNew X.data.toList l k))
          by_cases hk16 : k < 16
          · have hk16i : (k : Int) < 16 := by omega
            obtain ⟨wv, hwv⟩ : ∃ wv, wv = wordL false (X.extract (4 * k) X.size).data.toList := ⟨_, rfl⟩
            have HWORD := Lib.hid (fun W => word_any (X.extract (4 * k) X.size) false W (by rw [cut_size]; omega) (by rw [cut_size]; omega))
            rw [← hwv] at HWORD
            have HN := Lib.hid (show shNew X.data.toList l k = wv by unfold shNew; rw [if_pos hk16, hwv, cut_list])
            clear hwv
            have q2 : 4 * (k : Int) ≤ (X.size : Int) := by omega
            go_wp2_with fail
            refine (HWORD.out _).mono ?_
            rintro e w5 ⟨rfl, nq, rfl⟩
            have HW5 := Lib.hid (show WsAt (wr.drewN nq) wo.heap.size l from hws)
            have hz5 : (wr.drewN nq).cell? ⟨wo.heap.size, k, none⟩ = some (.int .u32 0) := hz
            have hf5 : (wr.drewN nq).frozen? ⟨wo.heap.size, k, none⟩ = false := hf
            have hset5 := Lib.hid (show WsAt ((wr.drewN nq).setCell ⟨wo.heap.size, k, none⟩ (.int .u32 wv)) wo.heap.size (shAdd X.data.toList l k) from by
              have h := hws.set (by rw [hlen.out]; exact hk4) wv
              rw [hlen.out] at h
              unfold shAdd
              rw [HN.out]
              exact h)
            have hfr5 := hfr2.drewN nq
            clear hz hf
            generalize wr.drewN nq = wd at *
            go_wp2
            go_roundw
            case rel => exact ⟨k + 1, by omega, by go_num, by rw [hsn.out]; exact hset5.out, hfr5.setNew (p := ⟨wo.heap.size, k, none⟩) (Nat.le_refl _) _⟩
            case measure => simp [intOf]; omega
          · have hk16i : ¬ (k : Int) < 16 := by omega
            obtain ⟨j16, e16⟩ : ∃ j : Nat, (k : Int) - 16 = (j : Int) := ⟨k - 16, by omega⟩
            obtain ⟨j15, e15⟩ : ∃ j : Nat, (k : Int) - 15 = (j : Int) := ⟨k - 15, by omega⟩
            obtain ⟨j7, e7⟩ : ∃ j : Nat, (k : Int) - 7 = (j : Int) := ⟨k - 7, by omega⟩
            obtain ⟨j2, e2⟩ : ∃ j : Nat, (k : Int) - 2 = (j : Int) := ⟨k - 2, by omega⟩
            have x16 := hws.cell (j := j16) (by rw [hlen.out]; omega)
            have x15 := hws.cell (j := j15) (by rw [hlen.out]; omega)
            have x7 := hws.cell (j := j7) (by rw [hlen.out]; omega)
            have x2 := hws.cell (j := j2) (by rw [hlen.out]; omega)
            have HN := Lib.hid (show shNew X.data.toList l k = (l.getD j16 0 + l.getD j7 0 + sig0 (l.getD j15 0) + sig1 (l.getD j2 0)) % 4294967296 by
              unfold shNew; rw [if_neg hk16, show k - 16 = j16 by omega, show k - 15 = j15 by omega, show k - 7 = j7 by omega, show k - 2 = j2 by omega])
            generalize l.getD j16 0 = v16 at *
            generalize l.getD j15 0 = v15 at *
            generalize l.getD j7 0 = v7 at *
            generalize l.getD j2 0 = v2 at *
            have w16 : IntKind.i64.wrap ((k : Int) - 16) = (j16 : Int) := by rw [← e16]; exact IntWalk.i64_in _ (by omega)
            have w15 : IntKind.i64.wrap ((k : Int) - 15) = (j15 : Int) := by rw [← e15]; exact IntWalk.i64_in _ (by omega)
            have w7 : IntKind.i64.wrap ((k : Int) - 7) = (j7 : Int) := by rw [← e7]; exact IntWalk.i64_in _ (by omega)
            have w2 : IntKind.i64.wrap ((k : Int) - 2) = (j2 : Int) := by rw [← e2]; exact IntWalk.i64_in _ (by omega)
            have b16 : (j16 : Int) < 64 := by omega
            have b15 : (j15 : Int) < 64 := by omega
            have b7 : (j7 : Int) < 64 := by omega
            have b2 : (j2 : Int) < 64 := by omega
            have n16 : j16 < 64 := by omega
            have n15 : j15 < 64 := by omega
            have n7 : j7 < 64 := by omega
            have n2 : j2 < 64 := by omega
            go_wp2
            go_quiet (fail)
            have X16 : (wr.drewN nq).cell? ⟨wo.heap.size, j16, none⟩ = some (.int .u32 v16) := x16
            have X7 : (wr.drewN nq).cell? ⟨wo.heap.size, j7, none⟩ = some (.int .u32 v7) := x7
            have hz5 : (wr.drewN nq).cell? ⟨wo.heap.size, k, none⟩ = some (.int .u32 0) := hz
            have hf5 : (wr.drewN nq).frozen? ⟨wo.heap.size, k, none⟩ = false := hf
            have HW5 := Lib.hid (show WsAt (wr.drewN nq) wo.heap.size l from hws)
            have hfr5 := hfr2.drewN nq
            clear x16 x7 hz hf hws hset hfr2
            generalize wr.drewN nq = wd at *
            go_wp2_with fail
            have y16 : IntKind.i64.wrap (j16 : Int) = (j16 : Int) := IntWalk.i64_in _ (by omega)
            have y7 : IntKind.i64.wrap (j7 : Int) = (j7 : Int) := IntWalk.i64_in _ (by omega)
            clear w16 w15 w7 w2
            refine wp_region_still_tail 29 (by kernel_rfl) (by kernel_rfl) ?_
            simp only [List.take_succ_cons, List.take_zero, List.drop_succ_cons, List.drop_zero]
            iterate 11 still_step
            still_call (rot7 v15 _)
            iterate 1 still_step
            still_call (rot18 v15 _)
            iterate 6 still_step
            still_call (rot17 v2 _)
            iterate 1 still_step
            still_call (rot19 v2 _)
            iterate 6 still_step
            refine wpStill_nil ?_
            change wpList _ _ _ _ _ wd.drew
            have HS := Lib.hid (show ∀ x, WsAt (wd.drew.setCell ⟨wo.heap.size, k, none⟩ (.int .u32 x)) wo.heap.size (l ++ [x]) from fun x => by
              have h := (show WsAt wd.drew wo.heap.size l from HW5.out).set (by rw [hlen.out]; exact hk4) x
              rw [hlen.out] at h
              exact h)
            have hz6 : wd.drew.cell? ⟨wo.heap.size, k, none⟩ = some (.int .u32 0) := hz5
            have hf6 : wd.drew.frozen? ⟨wo.heap.size, k, none⟩ = false := hf5
            have hfr6 : Fr noB wo wd.drew := hfr5.drew
            clear hz5 hf5 X16 X7 y16 y7 e16 e15 e7 e2
            generalize wd.drew = we at *
            go_wp2_with fail
            go_wp2
            go_roundw
            case rel => exact ⟨k + 1, by omega, by go_num, by rw [hsn.out]; unfold shAdd; rw [HN.out]; unfold sig0 sig1 xor3; rw [← wrap3]; exact HS.out _, hfr6.setNew (p := ⟨wo.heap.size, k, none⟩) (Nat.le_refl _) _⟩
            case measure => simp [intOf]; omega
        · have hk5 : k = 64 := by omega
          rw [show ((k : Nat) : Int) = 64 from by omega]
          subst hk5
          have HWS := Lib.hid (H64.out rfl)
          have HW := Lib.hid hws
          clear H64
          have hm3 : ShIs wr w.heap.size H := hfr2.keep HM.out (fun h => h)
          obtain ⟨c0, c1, c2, c3, c4, c5, c6, c7⟩ := hm3.cells
          have HM3 := Lib.hid hm3
          obtain ⟨gv, hgv⟩ : ∃ gv, gv = wr.heap.size := ⟨_, rfl⟩
          have hgvw : w.heap.size < gv := by rw [hgv]; exact lt_of_some hm3
          have hgvo : wo.heap.size < gv := by rw [hgv]; exact lt_of_some hws
          have hgwo : w.heap.size < wo.heap.size := lt_of_some HM.out
          clear hm3 hws
          obtain ⟨tr, htr⟩ : ∃ tr, tr = shTurns l H := ⟨_, rfl⟩
          have HSN := Lib.hid (show ∀ k, tr (k + 1) = shMix (tr k) (shP l k (tr k)) (shQ (tr k)) from fun k => by rw [htr]; rfl)
          have HS0 := Lib.hid (show tr 0 = H by rw [htr]; rfl)
          have HSB := Lib.hid (show shBlock X.data.toList H = shSum H (tr 64) by unfold shBlock; rw [htr, HWS.out])
          clear htr
          go_wp2
          clear c0 c1 c2 c3 c4 c5 c6 c7
          have hfv : Fr noB wr (wr.alloc (.cells #[.int .u32 H.v0, .int .u32 H.v1, .int .u32 H.v2, .int .u32 H.v3, .int .u32 H.v4, .int .u32 H.v5, .int .u32 H.v6, .int .u32 H.v7] 186)) := (Fr.refl noB wr).alloc _
          have hfw := hfr.trans (hfr2.trans hfv)
          rw [← hgv]
          have HG := Lib.hid hgv
          clear hgv
          go_loopw [74] (ShIn tr l H gv w.heap.size wo.heap.size w) (fun i _ => 64 - (intOf i).toNat)
          case atStart => exact ⟨0, by omega, rfl, by rw [HS0.out, HG.out]; exact new_block _ _, hfv.keep HM3.out (fun h => h), hfv.keep HW.out (fun h => h), hfw⟩
          case round =>
            clear hfv hfw HM3 HW hfr2
            obtain ⟨k, hk, rfl, hv, hh, hww, hfr3⟩ := hrel
            generalize wr = wi at *
            by_cases hk4 : k < 64
            · have hki : (k : Int) < 64 := by omega
              obtain ⟨z, hz⟩ : ∃ z, rootsL[k]? = some z := ⟨_, List.getElem?_eq_getElem (by show k < 64; omega)⟩
              have hroot : wi.cell? ⟨2, k, none⟩ = some (.int .u32 z) := (ht.fr hfr3).r.2 k z hz
              have hzd := Lib.hid (show rootsL.getD k 0 = z by rw [List.getD_eq_getElem?_getD, hz]; rfl)
              clear hz
              have hwk := hww.cell (j := k) (by rw [hlen.out]; exact hk4)
              obtain ⟨x, hx⟩ : ∃ x, x = l.getD k 0 := ⟨_, rfl⟩
              rw [← hx] at hwk
              have HS1 := Lib.hid (HSN.out k)
              generalize tr k = V at *
              have HP := Lib.hid (show shP l k V = (V.v7 + xor3 (rotI V.v4 26) (rotI V.v4 21) (rotI V.v4 7) + bits .xor .u32 (bits .and .u32 V.v4 V.v5) (bits .and .u32 (notI V.v4) V.v6) + z + x) % 4294967296 by unfold shP; rw [hzd.out, hx])
              obtain ⟨c0, c1, c2, c3, c4, c5, c6, c7⟩ := hv.cells
              have HV := Lib.hid hv
              have HH := Lib.hid hh
              have HWW := Lib.hid hww
              clear hv hh hww hx
              go_wp2
              go_quiet (fail)
              go_wp2_with fail
              have HV2 := Lib.hid (show ShIs (wi.drewN nq) gv V from HV.out)
              have HH2 := Lib.hid (show ShIs (wi.drewN nq) w.heap.size H from HH.out)
              have HWW2 := Lib.hid (show WsAt (wi.drewN nq) wo.heap.size l from HWW.out)
              have hroot2 : (wi.drewN nq).cell? ⟨2, k, none⟩ = some (.int .u32 z) := hroot
              have hwk2 : (wi.drewN nq).cell? ⟨wo.heap.size, k, none⟩ = some (.int .u32 x) := hwk
              have hfr4 := hfr3.drewN nq
              clear HV HH HWW hroot hwk hfr3 c0 c1 c2 c3 c4 c5 c6 c7
              generalize wi.drewN nq = wd at *
              obtain ⟨c0, c1, c2, c3, c4, c5, c6, c7⟩ := HV2.out.cells
              refine wp_region_still_tail 30 (by kernel_rfl) (by kernel_rfl) ?_
              simp only [List.take_succ_cons, List.take_zero, List.drop_succ_cons, List.drop_zero]
              iterate 3 still_step
              still_call (rot6 V.v4 _)
              iterate 1 still_step
              still_call (rot11 V.v4 _)
              iterate 2 still_step
              still_call (rot25 V.v4 _)
              iterate 21 still_step
              refine wpStill_nil ?_
              rw [show (if IntKind.u32.signed = true then (-1 : Int) else IntKind.u32.max) = IntKind.u32.max from rfl]
              rw [show bits .xor .u32 IntKind.u32.max V.v4 = notI V.v4 from rfl]
              generalize hy0 : notI V.v4 = y0
              generalize hy2 : bits .xor .u32 (bits .and .u32 V.v4 V.v5) (bits .and .u32 y0 V.v6) = y2
              generalize bits .and .u32 y0 V.v6 = y3
              generalize hy1 : bits .xor .u32 (bits .xor .u32 (rotI V.v4 26) (rotI V.v4 21)) (rotI V.v4 7) = y1
              generalize hs1 : IntKind.u32.wrap (V.v7 + y1) = s1
              generalize hs2 : IntKind.u32.wrap (s1 + y2) = s2
              generalize hs3 : IntKind.u32.wrap (s2 + z) = s3
              generalize hs4 : IntKind.u32.wrap (s3 + x) = p
              have HP2 := Lib.hid (show shP l k V = p by rw [HP.out, ← hs4, ← hs3, ← hs2, ← hs1, ← hy1, ← hy2, ← hy0, wrap4]; rfl)
              clear hs4 hs3 hs2 hs1 hy1 hy2 hy0 HP hroot2 hwk2
              change wpList _ _ _ _ _ wd.drew
              have HV3 := Lib.hid (show ShIs (wd.drew) gv V from HV2.out)
              have HH3 := Lib.hid (show ShIs (wd.drew) w.heap.size H from HH2.out)
              have HWW3 := Lib.hid (show WsAt (wd.drew) wo.heap.size l from HWW2.out)
              have hfr5 := hfr4.drew
              clear HV2 HH2 HWW2 hfr4 c0 c1 c2 c3 c4 c5 c6 c7
              generalize wd.drew = we at *
              obtain ⟨c0, c1, c2, c3, c4, c5, c6, c7⟩ := HV3.out.cells
              iterate 7 go_step
              refine wp_region_still_tail 24 (by kernel_rfl) (by kernel_rfl) ?_
              simp only [List.take_succ_cons, List.take_zero, List.drop_succ_cons, List.drop_zero]
              iterate 1 still_step
              still_call (rot2 V.v0 _)
              iterate 1 still_step
              still_call (rot13 V.v0 _)
              iterate 2 still_step
              still_call (rot22 V.v0 _)
              iterate 17 still_step
              refine wpStill_nil ?_
              generalize hy4 : bits .xor .u32 (bits .xor .u32 (bits .and .u32 V.v0 V.v1) (bits .and .u32 V.v0 V.v2)) (bits .and .u32 V.v1 V.v2) = y4
              generalize hy5 : bits .xor .u32 (bits .xor .u32 (rotI V.v0 30) (rotI V.v0 19)) (rotI V.v0 10) = y5
              generalize hs5 : IntKind.u32.wrap (y5 + y4) = q
              have HQ2 := Lib.hid (show shQ V = q by rw [← hs5, ← hy5, ← hy4]; unfold shQ xor3; rw [wrap1])
              clear hs5 hy5 hy4
              change wpList _ _ _ _ _ we.drew
              have HV4 := Lib.hid (show ShIs (we.drew) gv V from HV3.out)
              have HH4 := Lib.hid (show ShIs (we.drew) w.heap.size H from HH3.out)
              have HWW4 := Lib.hid (show WsAt (we.drew) wo.heap.size l from HWW3.out)
              have hfr6 := hfr5.drew
              clear HV3 HH3 HWW3 hfr5 c0 c1 c2 c3 c4 c5 c6 c7
              generalize we.drew = wf at *
              obtain ⟨c0, c1, c2, c3, c4, c5, c6, c7⟩ := HV4.out.cells
              have hb : wf.heap[gv]? = some (.cells #[.int .u32 V.v0, .int .u32 V.v1, .int .u32 V.v2, .int .u32 V.v3, .int .u32 V.v4, .int .u32 V.v5, .int .u32 V.v6, .int .u32 V.v7] 186 (0, 0)) := HV4.out
              have HB := Lib.hid hb
              clear hb
              go_wp2_with (first | ((with_reducible refine wpList_at ⟨some 154, _, _, _, _, _⟩ ?_); go_must (refine wpList_build8 rfl (.tmp 137) (.tmp 139) (.tmp 141) (.tmp 143) (.tmp 147) (.tmp 149) (.tmp 151) (.tmp 153) rfl (some 154) rfl ((p + q) % 4294967296) V.v0 V.v1 V.v2 ((V.v3 + p) % 4294967296) V.v4 V.v5 V.v6 rfl rfl rfl rfl rfl rfl rfl rfl ?_)) | ((with_reducible refine wpList_at ⟨none, _, _, _, _, _⟩ ?_); go_must (refine wpList_store_rowTo rfl 186 (.tmp 9) (.tmp 154) rfl rfl gv #[.int .u32 ((p + q) % 4294967296), .int .u32 V.v0, .int .u32 V.v1, .int .u32 V.v2, .int .u32 ((V.v3 + p) % 4294967296), .int .u32 V.v4, .int .u32 V.v5, .int .u32 V.v6] rfl rfl _ _ HB.out (by kernel_rfl) rfl (cells8 _ _ _ _ _ _ _ _) ?_); have HST := Lib.hid (show ShIs (wf.setRow gv #[.int .u32 ((p + q) % 4294967296), .int .u32 V.v0, .int .u32 V.v1, .int .u32 V.v2, .int .u32 ((V.v3 + p) % 4294967296), .int .u32 V.v4, .int .u32 V.v5, .int .u32 V.v6]) gv (shMix V p q) from setRow_heap _ _ _ _ _ _ HB.out); have HH5 := Lib.hid (show ShIs (wf.setRow gv #[.int .u32 ((p + q) % 4294967296), .int .u32 V.v0, .int .u32 V.v1, .int .u32 V.v2, .int .u32 ((V.v3 + p) % 4294967296), .int .u32 V.v4, .int .u32 V.v5, .int .u32 V.v6]) w.heap.size H from (shRow_other (by omega) _).trans HH4.out); have HWW5 := Lib.hid (show WsAt (wf.setRow gv #[.int .u32 ((p + q) % 4294967296), .int .u32 V.v0, .int .u32 V.v1, .int .u32 V.v2, .int .u32 ((V.v3 + p) % 4294967296), .int .u32 V.v4, .int .u32 V.v5, .int .u32 V.v6]) wo.heap.size l from (shRow_other (by omega) _).trans HWW4.out); have HF9 := Lib.hid (show Fr noB w (wf.setRow gv #[.int .u32 ((p + q) % 4294967296), .int .u32 V.v0, .int .u32 V.v1, .int .u32 V.v2, .int .u32 ((V.v3 + p) % 4294967296), .int .u32 V.v4, .int .u32 V.v5, .int .u32 V.v6]) from shRow_fr hfr6 (by omega) _); clear hfr6 c0 c1 c2 c3 c4 c5 c6 c7; generalize wf.setRow gv #[.int .u32 ((p + q) % 4294967296), .int .u32 V.v0, .int .u32 V.v1, .int .u32 V.v2, .int .u32 ((V.v3 + p) % 4294967296), .int .u32 V.v4, .int .u32 V.v5, .int .u32 V.v6] = wg at *))
              go_wp2
              go_roundw
              case rel => exact ⟨k + 1, by omega, by go_num, by rw [HS1.out, HP2.out, HQ2.out]; exact HST.out, HH5.out, HWW5.out, HF9.out⟩
              case measure => simp [intOf]; omega
            · have hk5 : k = 64 := by omega
              rw [show ((k : Nat) : Int) = 64 from by omega]
              subst hk5
              clear hww
              generalize tr 64 = V at *
              have hvz : ZsAt wi gv V.list := hv
              have hhz : ZsAt wi w.heap.size (mixL H.list V.list 0) := hh
              have HVZ := Lib.hid hvz
              have HHZ := Lib.hid hhz
              clear hv hh hvz hhz
              go_wp2
              go_loopw [156] (ShAd H V w.heap.size gv w) (fun i _ => 8 - (intOf i).toNat)
              case atStart => exact ⟨0, by omega, rfl, HHZ.out, HVZ.out, hfr3⟩
              case round =>
                clear HVZ HHZ hfr3
                obtain ⟨k, hk, rfl, hz, hvz, hfr4⟩ := hrel
                generalize wr = wx at *
                have hL1 : H.list.length = 8 := rfl
                have hL2 : V.list.length = 8 := rfl
                by_cases hk4 : k < 8
                · have hki : (k : Int) < 8 := by omega
                  have c0 := hz.cell (j := k) (by rw [mixL_len]; omega)
                  rw [mixL_get _ _ k k (Nat.le_refl _)] at c0
                  have c1 := hvz.cell (j := k) (by omega)
                  have f0 := hz.free k
                  have HST := Lib.hid (show ZsAt (wx.drew.setCell ⟨w.heap.size, k, none⟩ (.int .u32 ((H.list.getD k 0 + V.list.getD k 0) % 4294967296))) w.heap.size (mixL H.list V.list (k + 1)) from (show ZsAt wx.drew w.heap.size (mixL H.list V.list k) from hz).set k _)
                  have HVZ := Lib.hid (show ZsAt (wx.drew.setCell ⟨w.heap.size, k, none⟩ (.int .u32 ((H.list.getD k 0 + V.list.getD k 0) % 4294967296))) gv V.list from by
                    unfold ZsAt
                    rw [Below.heap_setCell _ _ _ _ (show gv ≠ w.heap.size by omega)]
                    exact hvz)
                  have HFR := Lib.hid (hfr4.drew)
                  generalize H.list.getD k 0 = x0 at *
                  generalize V.list.getD k 0 = x1 at *
                  clear hz hvz hfr4
                  go_wp2
                  refine wp_region_still_tail 8 (by kernel_rfl) (by kernel_rfl) ?_
                  simp only [List.take_succ_cons, List.take_zero, List.drop_succ_cons, List.drop_zero]
                  iterate 8 still_step
                  refine wpStill_nil ?_
                  change wpList _ _ _ _ _ wx.drew
                  have c2 : wx.drew.cell? ⟨w.heap.size, k, none⟩ = some (.int .u32 x0) := c0
                  have f2 : wx.drew.frozen? ⟨w.heap.size, k, none⟩ = false := f0
                  clear c0 c1 f0
                  generalize wx.drew = wy at *
                  go_wp2_with fail
                  go_wp2
                  go_roundw
                  case rel => exact ⟨k + 1, by omega, by go_num, by first | exact HST.out | (rw [wrap1]; exact HST.out), by first | exact HVZ.out | (rw [wrap1]; exact HVZ.out), HFR.out.setNew (p := ⟨w.heap.size, k, none⟩) (Nat.le_refl _) _⟩
                  case measure => simp [intOf]; omega
                · have hk8 : k = 8 := by omega
                  subst hk8
                  have hsum : ShIs wx w.heap.size (shSum H V) := hz
                  have HSUM := Lib.hid hsum
                  have hi64 : (64 : Int) ≤ (X.size : Int) := by omega
                  clear hz hvz hsum
                  go_wp2
                  refine ⟨⟨n + 1, by omega, ?_, ?_, hfr4⟩, ?_⟩
                  · rw [hnx.out]; rfl
                  · rw [hblk.out, HSB.out]; exact HSUM.out
                  · show (X.extract 64 X.size).size < X.size
                    rw [cut_size]; omega
    · have hn2 : 64 * n = T.size := by omega
      have he : (T.extract (64 * n) T.size) = ⟨#[]⟩ := by apply Go.WideShapes.bytes_inj; rw [cut_list, List.drop_eq_nil_of_le (by simp; omega)]
      rw [he]
      have hfin2 := Lib.hid (show shTo T.data.toList (T.size / 64) = shTo T.data.toList n by rw [← hn2]; congr 1; omega)
      have hok := shTo_ok T.data.toList n
      generalize shTo T.data.toList n = H at *
      have hz : ZsAt wo w.heap.size H.list := hm
      have TX := Lib.hid (sumText_any w.heap.size H.list false wo (by show 8 ≤ 8; omega) (lt_of_some hm) (fun j x hj => by
        have hl : j < H.list.length := (List.getElem?_eq_some_iff.1 hj).1
        rw [hz.cell hl, List.getD_eq_getElem?_getD, hj]; rfl) hok)
      clear hm hok hz
      go_wp2_with fail
      refine TX.out.mono ?_
      rintro e w5 ⟨rfl, hf5⟩
      go_wp2
      go_ret
      exact ⟨by rw [HFIN.out, hfin2.out]; rfl, hfr.trans hf5⟩
end Go.Proofs.YtkoobhgedoanhaaGreatDoor

namespace Go.Proofs.YtkoobhgedoanhaaGreatDoor
open Go.RowKit

set_option maxHeartbeats 1000000 in
theorem hash_sha (w : World) (hs : ShTabs w) : HashOk 3 w := by
  intro v ss W hW hv hn hlen
  have hT := Lib.hid (hs.fr hW)
  clear hs
  have HJ := Lib.hid (join_any v ss W hv hn hlen)
  clear hv
  have hz : (⟨(textsL ss).toArray⟩ : ByteArray).size < 4398046511104 := by show (textsL ss).toArray.size < _; simp; omega
  have HB := Lib.hid (show hashB (decide ((3 : Int) = 3)) ss = ⟨(shaL (textsL ss)).toArray⟩ from rfl)
  generalize textsL ss = tx at *
  clear hW
  go_enter Tryz.func60, Tryz.ntmps60
  go_wp2_with fail
  refine HJ.out.mono ?_
  rintro e u1 ⟨rfl, hf1⟩
  go_wp2_with fail
  refine (SHA256_any ⟨tx.toArray⟩ u1 hz (hT.out.fr hf1)).mono ?_
  rintro e u2 ⟨rfl, hf2⟩
  go_wp2
  go_ret
  exact ⟨(congrArg (fun b => Ending.returned (.string b)) HB.out).symm, hf1.trans hf2⟩
theorem hash_any (sch : Int) (w : World) (ht : MdTabs w) (hs : ShTabs w) : HashOk sch w := by
  by_cases h : sch = 3
  · subst h; exact hash_sha w hs
  · exact hash_md sch h w ht
end Go.Proofs.YtkoobhgedoanhaaGreatDoor

namespace Go.Proofs.YtkoobhgedoanhaaGreatDoor
open Go.RowKit

def sizes (ss : List ByteArray) : Nat := (ss.map ByteArray.size).sum
theorem sizes_take (ss : List ByteArray) (k : Nat) (h : k < ss.length) : sizes (ss.take (k + 1)) = sizes (ss.take k) + ss[k].size := by
  unfold sizes
  rw [List.take_add_one, List.getElem?_eq_getElem h, List.map_append, List.sum_append]
  simp only [Option.toList, List.map_cons, List.map_nil, List.sum_cons, List.sum_nil, Nat.add_zero]
theorem sizes_le (ss : List ByteArray) (b : Nat) (h : ∀ s ∈ ss, s.size ≤ b) : sizes ss ≤ ss.length * b := by
  induction ss with
  | nil => simp [sizes]
  | cons a l ih =>
    have := ih (fun s hs => h s (List.mem_cons_of_mem _ hs))
    have ha := h a (List.mem_cons_self ..)
    unfold sizes at this ⊢
    rw [List.map_cons, List.sum_cons, List.length_cons, Nat.succ_mul]
    omega
def askSize (realm nonce opaq qop user pass : ByteArray) : Nat := realm.size + nonce.size + opaq.size + qop.size + user.size + pass.size
def SmRel (n0 : Nat) (ss : List ByteArray) (w : World) (n i : Value) (wr : World) : Prop := ∃ k : Nat, k ≤ ss.length ∧ i = .int .i64 k ∧ n = .int .i64 ((n0 + sizes (ss.take k) : Nat) : Int) ∧ Fr noB w wr
set_option maxRecDepth 100000 in
set_option maxHeartbeats 2000000 in
theorem small_any (r : AskOf Value) (user pass : ByteArray) (bk o c : Nat) (ss : List ByteArray) (w : World) (hone : r.dom.oneCell' = true)
    (z1 : r.realm.size ≤ 140737488351232) (z2 : r.nonce.size ≤ 140737488351232) (z3 : r.opaq.size ≤ 140737488351232) (z4 : r.qop.size ≤ 140737488351232) (z5 : user.size ≤ 140737488351232) (z6 : pass.size ≤ 140737488351232)
    (hb : bk < w.heap.size) (hc : ∀ (j : Nat) x, ss[j]? = some x → w.cell? ⟨bk, o + j, none⟩ = some (.string x)) (hl : ss.length ≤ 1000) (hz : ∀ s ∈ ss, s.size ≤ 140737488351232) :
    Calls Tryz.prog 15 #[.agg #[.int .i64 r.scheme, .string r.realm, .string r.nonce, .string r.opaq, .bool r.sess, .string r.qop, .bool r.stale, r.dom], .agg #[.string user, .string pass], .slice (some ⟨bk, o, none⟩) ss.length c] w
      fun e w' => e = .returned (.bool (decide (askSize r.realm r.nonce r.opaq r.qop user pass + sizes ss ≤ 500))) ∧ Fr noB w w' := by
  obtain ⟨sch, realm, nonce, opaq, sess, qop, stale, dom⟩ := r
  simp only at hone z1 z2 z3 z4 ⊢
  have hbd := sizes_le ss 140737488351232 hz
  obtain ⟨wb, hwb⟩ : ∃ wb, wb = (w.alloc (.cells #[.int .i64 sch, .string realm, .string nonce, .string opaq, .bool sess, .string qop, .bool stale, dom] 24)).alloc (.cells #[.string user, .string pass] 26) := ⟨_, rfl⟩
  have hfb : Fr noB w wb := by rw [hwb]; exact ((Fr.refl noB w).alloc _).alloc _
  have HFB := Lib.hid hfb
  have HWB := Lib.hid hwb
  obtain ⟨n0, hn0⟩ : ∃ n0, n0 = askSize realm nonce opaq qop user pass := ⟨_, rfl⟩
  have HN0 := Lib.hid (show n0 = realm.size + nonce.size + opaq.size + qop.size + user.size + pass.size by rw [hn0]; rfl)
  rw [← hn0]
  have hn0b : n0 ≤ 844424930107392 := by rw [HN0.out]; omega
  have HC := Lib.hid hc
  have HZ := Lib.hid hz
  clear hn0 hwb hfb hc hz
  go_enter Tryz.func15, Tryz.ntmps15
  go_wp2
  rw [← HWB.out]
  go_loopw [7, 8] (SmRel n0 ss wb) (fun _ i _ => ss.length - (intOf i).toNat)
  case atStart => exact ⟨0, Nat.zero_le _, rfl, by rw [HN0.out]; simp [sizes]; try omega, Fr.refl _ _⟩
  case round =>
    obtain ⟨k, hk, rfl, rfl, hfr⟩ := hrel
    by_cases hk2 : k < ss.length
    · have hki : (k : Int) < (ss.length : Int) := by omega
      have hat := List.getElem?_eq_getElem hk2
      have hcell : wr.cell? ⟨bk, o + k, none⟩ = some (.string ss[k]) := ((HFB.out.trans hfr).cell (p := ⟨bk, o + k, none⟩) hb (fun h => h)).trans (HC.out k _ hat)
      have hst := Lib.hid (sizes_take ss k hk2)
      have hzk := HZ.out _ (List.getElem_mem hk2)
      have hsb := sizes_le (ss.take k) 140737488351232 (fun s hs => HZ.out s (List.mem_of_mem_take hs))
      rw [List.length_take] at hsb
      have hsb2 : sizes (ss.take k) ≤ 140737488351232000 := by omega
      clear hat hsb
      generalize ss[k] = x at *
      generalize sizes (ss.take k) = y at *
      go_wp2
      go_roundw
      case rel => exact ⟨k + 1, by omega, by go_num, by rw [hst.out]; congr 1; push_cast; omega, hfr⟩
      case measure => simp [intOf]; omega
    · have hki : ¬ (k : Int) < (ss.length : Int) := by omega
      have hfin := Lib.hid (show sizes (ss.take k) = sizes ss by rw [List.take_of_length_le (by omega)])
      rw [hfin.out]
      obtain ⟨y, hy⟩ : ∃ y, y = sizes ss := ⟨_, rfl⟩
      rw [← hy] at hbd ⊢
      have HY := Lib.hid hy
      clear hy
      have hdec : decide (n0 + y ≤ 500) = decide ((n0 : Int) + (y : Int) ≤ 500) := by
        by_cases h : n0 + y ≤ 500
        · rw [decide_eq_true h, decide_eq_true (by omega)]
        · rw [decide_eq_false h, decide_eq_false (by omega)]
      have HD := Lib.hid hdec
      clear hdec
      go_wp2
      go_ret
      exact ⟨by rw [← HY.out]; exact congrArg (fun b => Ending.returned (.bool b)) HD.out.symm, HFB.out.trans hfr⟩
theorem resp_body {x : RespIn} (b : ByteArray) (h : ¬ x.qop = authInt) : respB { x with body := b } = respB x := by
  unfold respB oneB twoB
  simp [h]
theorem resp_none {x : RespIn} (c : ByteArray) (n : Nat) (h : x.qop = .empty) (hs : x.sess = false) : respB { x with cnonce := c, n := n } = respB x := by
  unfold respB oneB twoB
  simp [h, hs]
end Go.Proofs.YtkoobhgedoanhaaGreatDoor
