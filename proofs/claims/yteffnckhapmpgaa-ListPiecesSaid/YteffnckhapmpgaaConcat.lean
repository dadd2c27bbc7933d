/- Walks: slices.Grow at nil, slices.Concat of two slices of strings. -/
import Derived.Test.YteffnckhapmpgaaListLaws
import Derived.Laws.AppendOwnNone
namespace Go.Proofs.Yteffnckhapmpgaa
open Go.RowKit

/-- slices.Grow(nil, n): nothing, with room -/
theorem GrowS_nil (n : Nat) (w : World) (hn : n < 4398046511104) :
    Calls Try.prog 85 #[.slice none 0 0, .int .i64 n] w fun e w' => ∃ v, e = .returned v ∧ Strs w.heap.size w' v [] ∧ Fr noB w w' := by
  by_cases h0 : n = 0
  · subst h0
    exact (Any8.slices_Grow_room Try.growS none 0 0 0 w (Nat.le_refl _) (by decide) (by decide) (Nat.le_refl _)).mono fun e w' ⟨he, hw⟩ => ⟨_, he, Strs.nil _ _, hw ▸ Fr.refl _ _⟩
  · obtain ⟨i0, hi, hz0, hz1, hz2⟩ := info_parts info_str
    have h := Any8.slices_Grow_grow Try.growS i0 (.string ⟨#[]⟩) hi hz0 (by rw [hz1]; decide) none 0 0 n [] w (Nat.le_refl _) (by omega) (by rw [hz2]; omega) (by omega) (by simp) (fun _ => rfl) (fun a ha => by cases ha)
    refine h.mono fun e w' ⟨he, hw⟩ => ⟨_, he, ?_, ?_⟩
    · rw [hw]
      refine ⟨rfl, Or.inr ⟨w.heap.size, _, _, rfl, Nat.le_refl _, new_block w.drew _, Nat.zero_le _, ?_, ?_, by simp⟩⟩
      · exact grownCap_le_maxLen w _ _ _ (by unfold maxLen; omega)
      · show _ = grownCap w (0 + n) 0 9 * 1
        have hg := grownCap_ge w (0 + n) 0 9
        rw [Nat.zero_add] at hg ⊢
        have e1 : (Value.string ⟨#[]⟩).cells.size = 1 := rfl
        show (#[] ++ _ ++ Builtin.zeroCells _ (grownCap w n 0 9 - n)).size = _
        simp [Builtin.zeroCells, e1]
        omega
    · rw [hw]; exact ((Fr.refl _ w).drew).alloc _

/-- l = append(l, xs...): strings -/
theorem wpList_strs {ops : Array Oper} {rest : List Oper} {o : Oper} {a : Act} {Q : Exit → Act → World → Prop} {w : World} (hgd : o.guard = none) (s x : Operand)
    (ho : o.op = .call { callee := .builtin .append, args := #[s, x], argTypes := #[44, 44] }) (base : Nat) (v : Value) (l : List ByteArray) (hs : a.eval s = v) (hown : Strs base w v l)
    (vx : Value) (m : List ByteArray) (hx : a.eval x = vx) (hm : StrsAt w vx m) (hlen : l.length + m.length < 4398046511104) (hbase : base ≤ w.heap.size)
    (h : ∀ v' w', Strs base w' v' (l ++ m) → w.grownBy w' v.ownBlock → wpList Try.prog ops Q rest (a.put o.dst v') w') : wpList Try.prog ops Q (o :: rest) a w := by
  obtain ⟨i0, hi, hz0, hz1, hz2⟩ := info_parts info_str
  obtain ⟨ax, cx, hform⟩ := hm.form
  cases ax with
  | none =>
    obtain ⟨hm0, h2⟩ : m = [] ∧ cx = 0 := by
      rcases hm with ⟨a', c', hv, hs, hc⟩ | ⟨bk, o', c, hf, _⟩
      · rw [hform] at hv
        injection hv with e1 e2 e3
        exact ⟨hs, e3.trans (hc e1.symm)⟩
      · rw [hform] at hf; injection hf with e1; cases e1
    subst hm0
    have hx' : a.eval x = .slice none 0 0 := by rw [hx, hform, h2]; rfl
    refine wpList_append_own_none hgd s x 44 ho base 9 i0 1 Try.underlying44 hi v l.length (l.map Value.string) hs hown hx' ?_
    exact h v w (by rw [List.append_nil]; exact hown) ⟨rfl, rfl, rfl, Nat.le_refl _, fun _ _ _ => rfl⟩
  | some ad =>
    refine wpList_append_own w hgd s x 44 ho base 9 i0 (.string ⟨#[]⟩) 1 16 Try.underlying44 hi hz0 hz1 hz2 rfl (by decide) v l.length (l.map Value.string) hs hown ad m.length cx (m.map Value.string) (hx.trans hform) (by simp) ?_ ?_ ?_ ?_ hbase ?_
    · intro j u hj
      rcases hm with ⟨_, _, _, e, _⟩ | ⟨bk, o', c, hf, g1, g2, g3, g4⟩
      · subst e; simp at hj
      · rw [hf] at hform; cases hform
        obtain ⟨y, hy, rfl⟩ : ∃ y, m[j]? = some y ∧ Value.string y = u := by
          rw [List.getElem?_map] at hj
          cases hmj : m[j]? with
          | none => rw [hmj] at hj; cases hj
          | some y => rw [hmj] at hj; exact ⟨y, rfl, by simpa using hj⟩
        have ea : (Addr.add ⟨bk, o', none⟩ j) = ⟨bk, o' + j, none⟩ := by unfold Addr.add; split <;> simp_all
        rw [ea]; exact g4 j y hy
    · intro u hu; obtain ⟨y, _, rfl⟩ := List.mem_map.1 hu; rfl
    · unfold maxLen; omega
    · omega
    · intro v' w' h1 h2 _
      exact h v' w' (by unfold Strs; simpa using h1) h2
/-- []T{x, y}: two slices in a new block -/
def TwoAt (w : World) (g : Nat) (x y : Value) : Prop := w.heap[g]? = some (.cells #[x, y] 44 (0, 0))
set_option maxRecDepth 100000 in
set_option maxHeartbeats 2000000 in
theorem Concat2_any (g : Nat) (x y : Value) (xs ys : List ByteArray) (w : World) (hg : TwoAt w g x y) (hx : StrsAt w x xs) (hy : StrsAt w y ys) (hl : xs.length + ys.length < 4398046511104) :
    Calls Try.prog 53 #[.slice (some ⟨g, 0, none⟩) 2 2] w fun e w' => ∃ v, e = .returned v ∧ Strs w.heap.size w' v (xs ++ ys) ∧ Fr noB w w' := by
  obtain ⟨ax, cx, fx⟩ := hx.form
  obtain ⟨ay, cy, fy⟩ := hy.form
  subst fx
  subst fy
  have c0 : w.cell? ⟨g, 0, none⟩ = some (.slice ax xs.length cx) := by simp [World.cell?, show w.heap[g]? = _ from hg]
  have c1 : w.cell? ⟨g, 1, none⟩ = some (.slice ay ys.length cy) := by simp [World.cell?, show w.heap[g]? = _ from hg]
  have hgl : g < w.heap.size := lt_of_some hg
  go_enter Try.func53, Try.ntmps53
  go_wp2
  refine wp_loop_rounds 3 ?_
  rw [rounds_succ]
  go_wp2_with fail
  rw [rounds_succ]
  go_wp2_with fail
  rw [rounds_succ]
  go_wp2_with fail
  refine (GrowS_nil (xs.length + ys.length) w hl).mono ?_
  rintro e w1 ⟨v, rfl, ho1, hf1⟩
  have c0' : w1.cell? ⟨g, 0, none⟩ = some (.slice ax xs.length cx) := by rw [hf1.cell hgl (fun h => h)]; exact c0
  have c1' : w1.cell? ⟨g, 1, none⟩ = some (.slice ay ys.length cy) := by rw [hf1.cell hgl (fun h => h)]; exact c1
  have hx1 := hx.frNone hf1
  have hs1 := hf1.size
  obtain ⟨va, vc, hvf⟩ := ho1.form
  subst hvf
  go_wp2
  refine wp_loop_rounds 3 ?_
  rw [rounds_succ]
  go_wp2_with (at_builtin; refine wpList_strs rfl _ _ rfl w.heap.size _ [] rfl ho1 (.slice ax xs.length cx) xs rfl hx1 (by simp; omega) (by omega) ?_; intro v2 w2 ho2 hg2)
  have hf2 := hf1.grownNew hg2 (fun k hk => ho1.block k hk)
  have c1'' : w2.cell? ⟨g, 1, none⟩ = some (.slice ay ys.length cy) := by rw [hf2.cell hgl (fun h => h)]; exact c1
  have hy2 := hy.frNone hf2
  have hs2 := hf2.size
  obtain ⟨va2, vc2, hvf⟩ := ho2.form
  subst hvf
  go_wp2
  rw [rounds_succ]
  go_wp2_with (at_builtin; refine wpList_strs rfl _ _ rfl w.heap.size _ ([] ++ xs) rfl ho2 (.slice ay ys.length cy) ys rfl hy2 (by simp; omega) (by omega) ?_; intro v3 w3 ho3 hg3)
  have hf3 := hf2.grownNew hg3 (fun k hk => ho2.block k hk)
  obtain ⟨va3, vc3, hvf⟩ := ho3.form
  subst hvf
  go_wp2
  rw [rounds_succ]
  go_wp2
  go_ret
  rw [List.nil_append] at ho3
  exact ⟨_, rfl, ho3, hf3⟩
end Go.Proofs.Yteffnckhapmpgaa
