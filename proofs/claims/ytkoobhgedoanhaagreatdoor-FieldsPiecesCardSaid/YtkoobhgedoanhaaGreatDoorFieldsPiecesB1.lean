/- Package cors: what Fields gives is small. No program in sight. slices.Grow at nil, an append of rows to own rows, slices.Concat of two slices: at []api.Param. slices.Equal at params: what reads the same. The law FieldsPieces: its walk. -/
import Derived.Test.YtkoobhgedoanhaaGreatDoorCB11
import Derived.Test.YtkoobhgedoanhaaGreatDoorCB3
import Derived.Test.YtkoobhgedoanhaaGreatDoorCB12
import Derived.Test.YtkoobhgedoanhaaGreatDoorCB5
import Derived.Test.YtkoobhgedoanhaaGreatDoorShelf
import Derived.Test.YtkoobhgedoanhaaGreatDoorShelf2
import Derived.Laws.AppendOwnNone
import Derived.Test.YtkoobhgedoanhaaGreatDoorCB7
import Derived.BigQuiet
namespace Go.Proofs.YtkoobhgedoanhaaGreatDoor
open Go.RowKit

theorem cutF_len (c : UInt8) (l : Bs) : (cutL c l).1.length ≤ l.length ∧ (cutL c l).2.1.length ≤ l.length := by
  rcases (cutL_is c l).2 with ⟨_, e⟩ | ⟨_, e, e2⟩
  · have h := congrArg List.length e
    rw [List.length_append, List.length_cons] at h
    exact ⟨by omega, by omega⟩
  · exact ⟨by have h := congrArg List.length e; omega, by rw [e2]; exact Nat.zero_le _⟩
theorem lineR_small {l : Bs} {p : Par} (h : lineR l = some (some p)) : p.1.length ≤ l.length ∧ p.2.length ≤ l.length := by
  unfold lineR at h
  split at h
  · cases h
  · split at h
    · cases h
    · cases h
      have h1 := cutF_len 58 (endCR l)
      have h2 := endCR_len l
      have h3 := trimS_le (cutL 58 (endCR l)).2.1 [32, 9]
      refine ⟨by show (cutL 58 (endCR l)).1.length ≤ _; omega, ?_⟩
      show (trimB _).length ≤ _
      unfold trimB
      omega
theorem fieldsN_small (N : Nat) : ∀ (ls : List Bs) (acc out : List Par), fieldsN ls acc = .ok out → acc.length ≤ 40 → (∀ l ∈ ls, l.length ≤ N) → (∀ p ∈ acc, p.1.length ≤ N ∧ p.2.length ≤ N) → out.length ≤ 40 ∧ ∀ p ∈ out, p.1.length ≤ N ∧ p.2.length ≤ N
  | [], acc, out, h, ha, _, hp => by rw [fieldsN] at h; cases h; exact ⟨ha, hp⟩
  | l :: ls, acc, out, h, ha, hl, hp => by
    rw [fieldsN] at h
    cases hr : lineR l with
    | none => rw [hr] at h; cases h
    | some q =>
      rw [hr] at h
      cases q with
      | none => exact fieldsN_small N ls acc out h ha (fun m hm => hl m (List.mem_cons_of_mem _ hm)) hp
      | some p =>
        simp only at h
        split at h
        · cases h
        · rename_i hn
          refine fieldsN_small N ls (acc ++ [p]) out h (by rw [List.length_append]; simp only [List.length_cons, List.length_nil]; omega) (fun m hm => hl m (List.mem_cons_of_mem _ hm)) (fun x hx => ?_)
          rcases List.mem_append.1 hx with hx | hx
          · exact hp x hx
          · rw [List.mem_singleton.1 hx]
            have h1 := lineR_small hr
            have h2 := hl l (List.mem_cons_self ..)
            exact ⟨by omega, by omega⟩
theorem fields_small {s : Bs} {x : List Par} (h : fieldsL s = .ok x) : ParsSmall x := by
  unfold fieldsL at h
  split at h
  · cases h
  · have h1 := fieldsN_small 3000 _ _ _ h (Nat.zero_le _) (fun l hl => by have := (splitF_le 10 s).2 l hl; omega) (fun _ hp => by cases hp)
    exact ⟨by omega, fun p hp => by have := h1.2 p hp; omega⟩
end Go.Proofs.YtkoobhgedoanhaaGreatDoor

namespace Go.Proofs.YtkoobhgedoanhaaGreatDoor
open Go.RowKit

theorem info_catP : (Tryz.prog.info? 79).map (fun i => (i.zero, i.size, i.bytes)) = some (some (.agg #[.string ⟨#[]⟩, .string ⟨#[]⟩]), 2, 32) := by kernel_rfl
theorem GrowP_nil (n : Nat) (w : World) (hn : n < 1000000000) :
    Calls Tryz.prog 104 #[.slice none 0 0, .int .i64 n] w fun e w' => ∃ v, e = .returned v ∧ OwnRows w.heap.size 79 2 w' v [] ∧ Fr noB w w' := by
  by_cases h0 : n = 0
  · subst h0
    exact (Any8.slices_Grow_room Tryz.growP none 0 0 0 w (Nat.le_refl _) (by decide) (by decide) (Nat.le_refl _)).mono fun e w' ⟨he, hw⟩ => ⟨_, he, OwnRows.nil _ _ _ _, hw ▸ Fr.refl _ _⟩
  · obtain ⟨i0, hi, hz0, hz1, hz2⟩ := info_parts info_catP
    have h := Any8.slices_Grow_grow Tryz.growP i0 (.agg #[.string ⟨#[]⟩, .string ⟨#[]⟩]) hi hz0 (by rw [hz1]; decide) none 0 0 n [] w (Nat.le_refl _) (by omega) (by rw [hz2]; omega) (by omega) (by simp) (fun _ => rfl) (fun a ha => by cases ha)
    refine h.mono fun e w' ⟨he, hw⟩ => ⟨_, he, ⟨fun x hx => (by cases hx), ?_⟩, ?_⟩
    · rw [hw]
      refine ⟨rfl, Or.inr ⟨w.heap.size, _, _, rfl, Nat.le_refl _, new_block w.drew _, Nat.zero_le _, ?_, ?_, by simp⟩⟩
      · exact grownCap_le_maxLen w _ _ _ (by unfold maxLen; omega)
      · show _ = grownCap w (0 + n) 0 79 * 2
        have hg := grownCap_ge w (0 + n) 0 79
        rw [Nat.zero_add] at hg ⊢
        have e1 : (Value.cells (.agg #[.string ⟨#[]⟩, .string ⟨#[]⟩])).size = 2 := rfl
        show (#[] ++ _ ++ Builtin.zeroCells _ (grownCap w n 0 79 - n)).size = _
        simp [Builtin.zeroCells, e1]
        omega
    · rw [hw]; exact ((Fr.refl _ w).drew).alloc _
set_option maxRecDepth 100000 in
theorem wpList_rowsP {ops : Array Oper} {rest : List Oper} {o : Oper} {a : Act} {Q : Exit → Act → World → Prop} {w : World} (hgd : o.guard = none) (s x : Operand)
    (ho : o.op = .call { callee := .builtin .append, args := #[s, x], argTypes := #[36, 36] }) (base : Nat) (v : Value) (l : List (List Value)) (hs : a.eval s = v) (hown : OwnRows base 79 2 w v l)
    (vx : Value) (m : List (List Value)) (hx : a.eval x = vx) (hm : RowsAt 2 w vx m) (hlen : l.length + m.length < 1000000000) (hbase : base ≤ w.heap.size)
    (h : ∀ v' w', OwnRows base 79 2 w' v' (l ++ m) → w.grownBy w' v.ownBlock → wpList Tryz.prog ops Q rest (a.put o.dst v') w') : wpList Tryz.prog ops Q (o :: rest) a w := by
  obtain ⟨i0, hi, hz0, hz1, hz2⟩ := info_parts info_catP
  obtain ⟨ax, cx, hform⟩ := hm.form
  have HM := hm.1
  cases ax with
  | none =>
    obtain ⟨hm0, h2⟩ : m = [] ∧ cx = 0 := by
      rcases hm.2 with ⟨a', c', hv, hs, hc⟩ | ⟨bk, o', c, hf, _⟩
      · rw [hform] at hv
        injection hv with e1 e2 e3
        exact ⟨hs, e3.trans (hc e1.symm)⟩
      · rw [hform] at hf; injection hf with e1; cases e1
    subst hm0
    have hx' : a.eval x = .slice none 0 0 := by rw [hx, hform, h2]; rfl
    refine wpList_append_own_none hgd s x 36 ho base 79 i0 2 Tryz.underlying36 hi v l.length l.flatten hs hown.2 hx' ?_
    exact h v w (by rw [List.append_nil]; exact hown) ⟨rfl, rfl, rfl, Nat.le_refl _, fun _ _ _ => rfl⟩
  | some ad =>
    have hfl : m.flatten.length = m.length * 2 := flatten_len (fun x hx => (HM x hx).1)
    refine wpList_append_own w hgd s x 36 ho base 79 i0 (.agg #[.string ⟨#[]⟩, .string ⟨#[]⟩]) 2 32 Tryz.underlying36 hi hz0 hz1 hz2 rfl (by decide) v l.length l.flatten hs hown.2 ad m.length cx m.flatten (hx.trans hform) hfl ?_ ?_ ?_ ?_ hbase ?_
    · intro j u hj
      rcases hm.2 with ⟨_, _, _, e, _⟩ | ⟨bk, o', c, hf, g1, g2, g3, g4⟩
      · subst e; simp at hj
      · rw [hf] at hform; cases hform
        have hjl := (List.getElem?_eq_some_iff.1 hj).1
        have hd : j / 2 < m.length := by omega
        have hmo : j % 2 < 2 := by omega
        have hxl : (m[j / 2]).length = 2 := (HM _ (List.getElem_mem hd)).1
        have e1 := flatten_at (k := 2) (xs := m) (fun x hx => (HM x hx).1) (j := j / 2) (List.getElem?_eq_getElem hd) (i := j % 2) (List.getElem?_eq_getElem (by rw [hxl]; exact hmo))
        rw [Nat.div_add_mod'] at e1
        rw [e1] at hj
        cases hj
        have := g4 (j / 2) _ (List.getElem?_eq_getElem hd) (j % 2) _ (List.getElem?_eq_getElem (by rw [hxl]; exact hmo))
        have ea : (Addr.add ⟨bk, o', none⟩ j) = ⟨bk, o' + j, none⟩ := by unfold Addr.add; split <;> simp_all
        rw [ea, ← this]
        congr 2
        omega
    · intro u hu
      obtain ⟨y, hy, huy⟩ := List.mem_flatten.1 hu
      exact (HM y hy).2 u huy
    · unfold maxLen; omega
    · omega
    · intro v' w' h1 h2 _
      refine h v' w' ⟨fun y hy => ?_, by simpa using h1⟩ h2
      rcases List.mem_append.1 hy with hy | hy
      · exact hown.1 y hy
      · exact HM y hy
set_option maxRecDepth 100000 in
set_option maxHeartbeats 2000000 in
theorem Concat_P (g : Nat) (x y : Value) (xs ys : List (List Value)) (w : World) (hg : w.heap[g]? = some (.cells #[x, y] 36 (0, 0))) (hx : RowsAt 2 w x xs) (hy : RowsAt 2 w y ys) (hl : xs.length + ys.length < 1000000000) :
    Calls Tryz.prog 41 #[.slice (some ⟨g, 0, none⟩) 2 2] w fun e w' => ∃ v, e = .returned v ∧ OwnRows w.heap.size 79 2 w' v (xs ++ ys) ∧ Fr noB w w' := by
  obtain ⟨ax, cx, fx⟩ := hx.form
  obtain ⟨ay, cy, fy⟩ := hy.form
  subst fx
  subst fy
  have c0 : w.cell? ⟨g, 0, none⟩ = some (.slice ax xs.length cx) := by simp [World.cell?, hg]
  have c1 : w.cell? ⟨g, 1, none⟩ = some (.slice ay ys.length cy) := by simp [World.cell?, hg]
  have hgl : g < w.heap.size := lt_of_some hg
  go_enter Tryz.func41, Tryz.ntmps41
  go_wp2
  refine wp_loop_rounds 3 ?_
  rw [rounds_succ]
  go_wp2_with fail
  rw [rounds_succ]
  go_wp2_with fail
  rw [rounds_succ]
  go_wp2_with fail
  refine (GrowP_nil (xs.length + ys.length) w hl).mono ?_
  rintro e w1 ⟨v, rfl, ho1, hf1⟩
  have c0' : w1.cell? ⟨g, 0, none⟩ = some (.slice ax xs.length cx) := by rw [hf1.cell hgl (fun h => h)]; exact c0
  have c1' : w1.cell? ⟨g, 1, none⟩ = some (.slice ay ys.length cy) := by rw [hf1.cell hgl (fun h => h)]; exact c1
  have hx1 := RowsAt.frNone hx hf1
  have hs1 := hf1.size
  obtain ⟨va, vc, hvf⟩ := ho1.form
  subst hvf
  go_wp2
  refine wp_loop_rounds 3 ?_
  rw [rounds_succ]
  go_wp2_with (at_builtin; refine wpList_rowsP rfl _ _ rfl w.heap.size _ [] rfl ho1 (.slice ax xs.length cx) xs rfl hx1 (by simp; omega) (by omega) ?_; intro v2 w2 ho2 hg2)
  have hf2 := hf1.grownNew hg2 (fun k hk => ho1.block k hk)
  have c1'' : w2.cell? ⟨g, 1, none⟩ = some (.slice ay ys.length cy) := by rw [hf2.cell hgl (fun h => h)]; exact c1
  have hy2 := RowsAt.frNone hy hf2
  have hs2 := hf2.size
  obtain ⟨va2, vc2, hvf⟩ := ho2.form
  subst hvf
  go_wp2
  rw [rounds_succ]
  go_wp2_with (at_builtin; refine wpList_rowsP rfl _ _ rfl w.heap.size _ ([] ++ xs) rfl ho2 (.slice ay ys.length cy) ys rfl hy2 (by simp; omega) (by omega) ?_; intro v3 w3 ho3 hg3)
  have hf3 := hf2.grownNew hg3 (fun k hk => ho2.block k hk)
  obtain ⟨va3, vc3, hvf⟩ := ho3.form
  subst hvf
  go_wp2
  rw [rounds_succ]
  go_wp2
  go_ret
  rw [List.nil_append] at ho3
  exact ⟨_, rfl, ho3, hf3⟩
end Go.Proofs.YtkoobhgedoanhaaGreatDoor

namespace Go.Proofs.YtkoobhgedoanhaaGreatDoor
open Go.RowKit

theorem run_neq_prm (q : Par) (w : World) : (binOp .neq 79 (.agg #[.string (bA q.1), .string (bA q.2)]) (.agg #[.string (bA q.1), .string (bA q.2)])).run Tryz.prog w = .ok (.bool false) w := by
  go_simp
def EqRRel (w : World) (n : Nat) (i : Value) (wr : World) : Prop := ∃ k : Nat, k ≤ n ∧ i = .int .i64 k ∧ Fr noB w wr
set_option maxRecDepth 100000 in
set_option maxHeartbeats 2000000 in
theorem EqualPr_same (v v' : Value) (ps : List Par) (w : World) (h : ParsAt w v ps) (h' : ParsAt w v' ps) :
    Calls Tryz.prog 40 #[v, v'] w fun e w' => e = .returned (.bool true) ∧ Fr noB w w' := by
  obtain ⟨av, cv, hv⟩ := RowsAt.form h
  obtain ⟨av', cv', hv'⟩ := RowsAt.form h'
  rw [List.length_map] at hv hv'
  subst hv hv'
  have HL := Lib.hid (fun U (hU : Fr noB w U) => RowsAt.frNone h hU)
  have HL' := Lib.hid (fun U (hU : Fr noB w U) => RowsAt.frNone h' hU)
  have HQ := Lib.hid (run_neq_prm)
  clear h h'
  go_enter Tryz.func40, Tryz.ntmps40
  go_wp2
  go_loopw [13] (EqRRel w ps.length) (fun i _ => ps.length - (intOf i).toNat)
  case atStart => exact ⟨0, Nat.zero_le _, rfl, Fr.refl _ _⟩
  case round =>
    obtain ⟨k, hk, rfl, hfr⟩ := hrel
    by_cases hks : k < ps.length
    · have hki : (k : Int) < (ps.length : Int) := by omega
      have hki0 : (0 : Int) ≤ (k : Int) := by omega
      have hat := Lib.hid (List.getElem?_eq_getElem hks)
      generalize ps[k] = q at hat
      rcases (HL.out wr hfr).2 with ⟨_, _, _, e, _⟩ | ⟨bk, of, c, hf, g1, g2, g3, g4⟩
      · have : ps.length = 0 := by have := congrArg List.length e; simpa using this
        omega
      rcases (HL'.out wr hfr).2 with ⟨_, _, _, e, _⟩ | ⟨bk', of', c', hf', g1', g2', g3', g4'⟩
      · have : ps.length = 0 := by have := congrArg List.length e; simpa using this
        omega
      rw [List.length_map] at hf g1 hf' g1'
      cases hf
      cases hf'
      unfold maxLen at g2 g2'
      have hc := g4 k (parC q) (by rw [List.getElem?_map, hat.out]; rfl)
      have hd := g4' k (parC q) (by rw [List.getElem?_map, hat.out]; rfl)
      have c0 : wr.cell? ⟨bk, of + k * 2, none⟩ = some (.string (bA q.1)) := hc 0 _ rfl
      have c1 : wr.cell? ⟨bk, of + k * 2 + 1, none⟩ = some (.string (bA q.2)) := hc 1 _ rfl
      have d0 : wr.cell? ⟨bk', of' + k * 2, none⟩ = some (.string (bA q.1)) := hd 0 _ rfl
      have d1 : wr.cell? ⟨bk', of' + k * 2 + 1, none⟩ = some (.string (bA q.2)) := hd 1 _ rfl
      have heq := HQ.out q
      clear g4 g4' hc hd g3 g3'
      go_wp2
      go_quiet (fail)
      go_wp2
      go_roundw
      case rel => exact ⟨k + 1, by omega, by go_num, hfr.drewN _⟩
      case measure => simp [intOf]; omega
    · have hki : ¬ (k : Int) < (ps.length : Int) := by omega
      go_wp2
      go_ret
      exact ⟨rfl, hfr⟩
end Go.Proofs.YtkoobhgedoanhaaGreatDoor

namespace Go.Proofs.YtkoobhgedoanhaaGreatDoor
open Go.RowKit

theorem cat3 (a b : ByteArray) : (a ++ ⟨#[10]⟩ ++ b).data.toList = a.data.toList ++ 10 :: b.data.toList := by
  simp [ByteArray.data_append]
def FOut (s : ByteArray) (w : World) (e : Ending) (w' : World) : Prop := FieldsPost s w e w'
set_option maxHeartbeats 4000000 in
set_option maxRecDepth 100000 in
theorem FieldsPieces_walk (a b n : ByteArray) (z0 : a.size ≤ 140737488351232) (z1 : b.size ≤ 140737488351232) (z2 : n.size ≤ 140737488351232) (w : World) (ht : PwTab w) :
    Calls Tryz.prog 11 #[.string a, .string b, .string n] w fun e w' => e = .returned (.bool true) ∧ Below w.heap.size w w' := by
  have HG := Lib.hid (granted_any w ht)
  clear ht
  have hwr : IntKind.i64.wrap ((a.size : Int) + (b.size : Int)) = (a.size : Int) + (b.size : Int) := by rw [IntWalk.i64_left]; exact IntWalk.wrap64_in _ (by omega)
  go_enter Tryz.func11, Tryz.ntmps11
  go_wp2_with fail
  refine HG.out.mono ?_
  rintro e u1 ⟨rfl, hu1⟩
  have HU1 := Lib.hid hu1
  clear hu1 HG
  by_cases h6 : 600 < a.size + b.size
  · have i6 : (600 : Int) < (a.size : Int) + (b.size : Int) := by omega
    go_wp2
    go_ret
    exact ⟨rfl, HU1.out.none_below⟩
  have i6 : ¬ (600 : Int) < (a.size : Int) + (b.size : Int) := by omega
  by_cases h7 : 60 < n.size
  · have i7 : (60 : Int) < (n.size : Int) := by omega
    go_wp2
    go_ret
    exact ⟨rfl, HU1.out.none_below⟩
  have i7 : ¬ (60 : Int) < (n.size : Int) := by omega
  go_wp2_with fail
  refine (Fields_any a u1 (by omega)).mono ?_
  intro e u2 hpa
  unfold FieldsPost at hpa
  obtain ⟨hu2, hpa⟩ := hpa
  have HU2 := Lib.hid (HU1.out.trans hu2)
  clear hu2
  have HFB := Lib.hid (fun U => Fields_any b U (by omega))
  cases hfa : fieldsL a.data.toList with
  | error k =>
    rw [hfa] at hpa
    obtain ⟨er, rfl, her⟩ := hpa
    clear hfa
    have hne : (∃ T v, er = .iface T v) := by
      rcases her with rfl | ⟨g, p, rfl, _⟩
      · exact ⟨_, _, rfl⟩
      · exact ⟨_, _, rfl⟩
    clear her
    obtain ⟨T, v, rfl⟩ := hne
    go_wp2_with fail
    refine (HFB.out u2).mono ?_
    intro e u3 hpb
    unfold FieldsPost at hpb
    obtain ⟨hu3, hpb⟩ := hpb
    have HU3 := Lib.hid (HU2.out.trans hu3)
    clear hu3
    obtain ⟨vb, eb, rfl⟩ : ∃ vb eb, e = .returned (.tuple #[vb, eb]) := by
      cases hfb : fieldsL b.data.toList with
      | error k => rw [hfb] at hpb; obtain ⟨er, rfl, _⟩ := hpb; exact ⟨_, _, rfl⟩
      | ok y => rw [hfb] at hpb; obtain ⟨vy, rfl, _⟩ := hpb; exact ⟨_, _, rfl⟩
    clear hpb
    go_wp2
    go_ret
    exact ⟨rfl, HU3.out.none_below⟩
  | ok x =>
    rw [hfa] at hpa
    obtain ⟨vx, rfl, hox⟩ := hpa
    obtain ⟨ax, cx, hvx⟩ := hox.form
    rw [List.length_map] at hvx
    subst hvx
    have HSX := Lib.hid (fields_small hfa)
    have HFA := Lib.hid hfa
    have HX := Lib.hid (show ∀ U, Fr noB u2 U → ParsAt U (.slice ax x.length cx) x from fun U hU => RowsAt.frNone hox.at hU)
    clear hfa hox
    go_wp2_with fail
    refine (HFB.out u2).mono ?_
    intro e u3 hpb
    unfold FieldsPost at hpb
    obtain ⟨hu3, hpb⟩ := hpb
    have HU3 := Lib.hid (HU2.out.trans hu3)
    have HX3 := Lib.hid (show ∀ U, Fr noB u3 U → ParsAt U (.slice ax x.length cx) x from fun U hU => HX.out U (hu3.trans hU))
    clear hu3 HX
    cases hfb : fieldsL b.data.toList with
    | error k =>
      rw [hfb] at hpb
      obtain ⟨er, rfl, her⟩ := hpb
      clear hfb
      have hne : (∃ T v, er = .iface T v) := by
        rcases her with rfl | ⟨g, p, rfl, _⟩
        · exact ⟨_, _, rfl⟩
        · exact ⟨_, _, rfl⟩
      clear her
      obtain ⟨T, v, rfl⟩ := hne
      go_wp2
      go_ret
      exact ⟨rfl, HU3.out.none_below⟩
    | ok y =>
      rw [hfb] at hpb
      obtain ⟨vy, rfl, hoy⟩ := hpb
      obtain ⟨ay, cy, hvy⟩ := hoy.form
      rw [List.length_map] at hvy
      subst hvy
      have HSY := Lib.hid (fields_small hfb)
      have HFY := Lib.hid hfb
      have HY := Lib.hid (show ∀ U, Fr noB u3 U → ParsAt U (.slice ay y.length cy) y from fun U hU => RowsAt.frNone hoy.at hU)
      clear hfb hoy
      have hlx := HSX.out.1
      have hly := HSY.out.1
      have hwl : IntKind.i64.wrap ((x.length : Int) + (y.length : Int)) = (x.length : Int) + (y.length : Int) := by rw [IntWalk.i64_left]; exact IntWalk.wrap64_in _ (by omega)
      by_cases h4 : 40 < x.length + y.length
      · have i4 : (40 : Int) < (x.length : Int) + (y.length : Int) := by omega
        go_wp2
        go_ret
        exact ⟨rfl, HU3.out.none_below⟩
      have i4 : ¬ (40 : Int) < (x.length : Int) + (y.length : Int) := by omega
      go_wp2_with fail
      have HXY := Lib.hid (show fieldsL (a ++ ⟨#[10]⟩ ++ b).data.toList = .ok (x ++ y) from by
        rw [cat3]; exact fields_two HFA.out HFY.out (by show a.size + b.size < 3000; omega) (by omega))
      refine (Fields_any _ u3 (by simp only [ByteArray.size_append]; show a.size + 1 + b.size < 100000; omega)).mono ?_
      intro e u4 hpc
      unfold FieldsPost at hpc
      obtain ⟨hu4, hpc⟩ := hpc
      rw [HXY.out] at hpc
      obtain ⟨vz, rfl, hoz⟩ := hpc
      obtain ⟨az, cz, hvz⟩ := hoz.form
      rw [List.length_map] at hvz
      subst hvz
      have HU4 := Lib.hid (HU3.out.trans hu4)
      have HZ := Lib.hid (show ∀ U, Fr noB u4 U → ParsAt U (.slice az (x ++ y).length cz) (x ++ y) from fun U hU => RowsAt.frNone hoz.at hU)
      have HX4 := Lib.hid (show ∀ U, Fr noB u4 U → ParsAt U (.slice ax x.length cx) x from fun U hU => HX3.out U (hu4.trans hU))
      have HY4 := Lib.hid (show ∀ U, Fr noB u4 U → ParsAt U (.slice ay y.length cy) y from fun U hU => HY.out U (hu4.trans hU))
      have HSZ := Lib.hid (fields_small HXY.out)
      clear hu4 hoz HXY HX3 HY HFA HFY HFB hwr
      generalize (x ++ y).length = N at *
      obtain ⟨w5, hw5⟩ : ∃ w5, w5 = u4.alloc (.cells #[.slice ax x.length cx, .slice ay y.length cy] 36) := ⟨_, rfl⟩
      have hf5 : Fr noB u4 w5 := by rw [hw5]; exact (Fr.refl _ _).alloc _
      have hg5 : w5.heap[u4.heap.size]? = some (.cells #[.slice ax x.length cx, .slice ay y.length cy] 36 (0, 0)) := by rw [hw5]; exact new_block _ _
      have hcc := Concat_P u4.heap.size _ _ _ _ w5 hg5 (HX4.out w5 hf5) (HY4.out w5 hf5) (by simp; omega)
      have HF5 := Lib.hid hf5
      have HW5 := Lib.hid hw5
      clear hf5 hg5 hw5
      go_wp2_with fail
      rw [← HW5.out]
      refine hcc.mono ?_
      clear hcc HW5
      rintro e u6 ⟨v6, rfl, ho6, hf6⟩
      rw [← List.map_append] at ho6
      have HF6 := Lib.hid (HF5.out.trans hf6)
      have heq := EqualPr_same _ v6 _ u6 (HZ.out u6 HF6.out) ho6.at
      clear ho6 hf6
      go_wp2_with fail
      refine heq.mono ?_
      rintro e u7 ⟨rfl, hu7⟩
      have HF7 := Lib.hid (HF6.out.trans hu7)
      clear heq hu7
      have GX := Lib.hid (fun U (hU : Fr noB u4 U) => Field_any _ x n U (HX4.out U hU) HSX.out (by omega))
      have GY := Lib.hid (fun U (hU : Fr noB u4 U) => Field_any _ y n U (HY4.out U hU) HSY.out (by omega))
      have GZ := Lib.hid (fun U (hU : Fr noB u4 U) => Field_any _ (x ++ y) n U (HZ.out U hU) HSZ.out (by omega))
      have FT := field_two x y n.data.toList
      have B1 := field_len n.data.toList HSX.out
      have B2 := field_len n.data.toList HSY.out
      unfold FieldV at GX GY GZ
      rw [FT.1, FT.2] at GZ
      clear FT HX4 HY4 HZ HSZ HSX HSY
      generalize fieldT x n.data.toList = s1 at *
      generalize fieldT y n.data.toList = s2 at *
      generalize fieldB x n.data.toList = b1 at *
      generalize fieldB y n.data.toList = b2 at *
      have E1 : bA (s1 ++ [44, 32] ++ s2) = bA s1 ++ ⟨#[44, 32]⟩ ++ bA s2 := by apply ByteArray.ext; simp [bA, ByteArray.data_append]
      have E2 : bA (s1 ++ s2) = bA s1 ++ bA s2 := by apply ByteArray.ext; simp [bA, ByteArray.data_append]
      have B1' : (bA s1).size ≤ 100002000 := B1
      have B2' : (bA s2).size ≤ 100002000 := B2
      clear B1 B2
      cases b1 <;> cases b2
      all_goals
        simp only [Bool.and_self, Bool.and_false, Bool.false_and, Bool.or_self, Bool.or_true, Bool.true_or, Bool.false_eq_true, ↓reduceIte, E1, E2] at GZ
      all_goals clear E1 E2
      all_goals generalize bA s1 = t1 at *
      all_goals generalize bA s2 = t2 at *
      all_goals go_wp2_with fail
      all_goals
        refine (GX.out u7 HF7.out).mono ?_
        rintro e u8 ⟨rfl, hu8⟩
        have HF8 := Lib.hid (HF7.out.trans hu8)
        clear hu8
      all_goals go_wp2_with fail
      all_goals
        refine (GY.out u8 HF8.out).mono ?_
        rintro e u9 ⟨rfl, hu9⟩
        have HF9 := Lib.hid (HF8.out.trans hu9)
        clear hu9
      all_goals go_wp2_with fail
      all_goals
        refine (GZ.out u9 HF9.out).mono ?_
        rintro e u10 ⟨rfl, hu10⟩
      all_goals go_wp2
      all_goals go_ret
      all_goals exact ⟨by simp, (HU4.out.trans (HF9.out.trans hu10)).none_below⟩
end Go.Proofs.YtkoobhgedoanhaaGreatDoor
