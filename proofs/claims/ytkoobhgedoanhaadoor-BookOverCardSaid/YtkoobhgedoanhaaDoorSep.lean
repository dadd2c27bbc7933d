/- append to a row of the call's own: the row lies where it lay, or in a new block. No function of the program in sight. -/
import Derived.Test.YtkoobhgedoanhaaDoorStrs
import Derived.Laws.AppendOwnNone
namespace Go.Proofs.YtkoobhgedoanhaaDoor
open Go.RowKit

/-- v' lies where v lay, or in a block that is new since w -/
def Sep (w : World) (v v' : Value) : Prop := v'.ownBlock = v.ownBlock ∨ ∀ k, v'.ownBlock = some k → w.heap.size ≤ k
theorem run_append_sep {P : Program} (w : World) (base : Nat) (t ty e : TypeId) (i : TypeInfo) (z : Value) (size bytes : Nat) (ht : P.underlying t = some (.slice e)) (hi : P.info? e = some i) (hz : i.zero = some z)
    (hsize : i.size = size) (hby : i.bytes = bytes) (hzs : z.cells.size = size) (hsz : 0 < size)
    (v : Value) (n : Nat) (xs : List Value) (hown : w.ownsRow base e size v n xs)
    (a : Addr) (m c : Nat) (news : List Value) (hl : news.length = m * size) (hnews : ∀ j u, news[j]? = some u → w.cell? (a.add j) = some u) (h1 : ∀ u ∈ news, u.oneCell' = true)
    (h63 : n + m ≤ maxLen) (hbytes : (n + m) * bytes ≤ 140737488355328) (hbase : base ≤ w.heap.size) :
    ∃ v' w', (Builtin.append_ #[t, t] ty #[v, .slice (some a) m c]).run P w = .ok v' w' ∧ w'.ownsRow base e size v' (n + m) (xs ++ news) ∧ w.grownBy w' v.ownBlock ∧ Sep w v v' := by
  obtain ⟨v', w', hr, h2, h3, _⟩ := run_append_own (P := P) w base t ty e i z size bytes ht hi hz hsize hby hzs hsz v n xs hown a m c news hl hnews h1 h63 hbytes hbase
  refine ⟨v', w', hr, h2, h3, ?_⟩
  rcases hown.2 with ⟨rfl, rfl⟩ | ⟨g, cap, cur, rfl, hbg, hg, hnc, hcm, hcs, htake⟩
  · have hx : xs = [] := List.eq_nil_of_length_eq_zero (by simpa using hown.1)
    subst hx
    obtain ⟨v2, w2, hr2, h22, _, _⟩ := run_append_own (P := P) w w.heap.size t ty e i z size bytes ht hi hz hsize hby hzs hsz (.slice none 0 0) 0 [] (World.ownsRow_nil _ _ _ _) a m c news hl hnews h1 h63 hbytes (Nat.le_refl _)
    rw [hr] at hr2
    injection hr2 with e1 e2
    subst e1
    exact Or.inr fun k hk => (h22.lt k hk).1
  · by_cases hroom : n + m ≤ cap
    · subst hsize
      have hfit : n * i.size + news.length ≤ cur.size := by rw [hl, hcs, ← Nat.add_mul]; exact Nat.mul_le_mul_right _ hroom
      have hr2 := run_append_room (P := P) w t ty e i ht hi g n cap cur hg a m c news hl hnews h1 hroom hfit
      rw [hr] at hr2
      injection hr2 with e1 e2
      subst e1
      exact Or.inl rfl
    · subst hsize
      subst hby
      have hsmall : n + m ≤ 9223372036854775807 := by simp only [maxLen] at h63; omega
      have holds : ∀ j u, xs[j]? = some u → w.cell? ((⟨g, 0, none⟩ : Addr).add j) = some u := hown.cells (g := g) rfl
      have hr2 := run_append_grow (P := P) w t ty e i z ht hi hz ⟨g, 0, none⟩ n cap xs hown.1 holds a m c news hl hnews (by omega) (by omega) (growslice_fits (by omega) hbytes)
      rw [hr] at hr2
      injection hr2 with e1 e2
      subst e1
      exact Or.inr fun k hk => by simp [Value.ownBlock] at hk; omega

theorem wpList_append_sep {P : Program} {w : World} {ops : Array Oper} {rest : List Oper} {o : Oper} {a : Act} {Q : Exit → Act → World → Prop} (hgd : o.guard = none) (s x : Operand) (t : TypeId)
    (ho : o.op = .call { callee := .builtin .append, args := #[s, x], argTypes := #[t, t] })
    (base : Nat) (e : TypeId) (i : TypeInfo) (z : Value) (size bytes : Nat) (ht : P.underlying t = some (.slice e)) (hi : P.info? e = some i) (hz : i.zero = some z)
    (hsize : i.size = size) (hby : i.bytes = bytes) (hzs : z.cells.size = size) (hsz : 0 < size)
    (v : Value) (n : Nat) (xs : List Value) (hs : a.eval s = v) (hown : w.ownsRow base e size v n xs)
    (ad : Addr) (m c : Nat) (news : List Value) (hx : a.eval x = .slice (some ad) m c) (hl : news.length = m * size) (hnews : ∀ j u, news[j]? = some u → w.cell? (ad.add j) = some u) (h1 : ∀ u ∈ news, u.oneCell' = true)
    (h63 : n + m ≤ maxLen) (hbytes : (n + m) * bytes ≤ 140737488355328) (hbase : base ≤ w.heap.size)
    (h : ∀ v' w', w'.ownsRow base e size v' (n + m) (xs ++ news) → w.grownBy w' v.ownBlock → Sep w v v' → wpList P ops Q rest (a.put o.dst v') w') : wpList P ops Q (o :: rest) a w :=
  wpList_plain hgd fun _ hK => by
    obtain ⟨v', w', hr, h2, h3, h4⟩ := run_append_sep (P := P) w base t o.type e i z size bytes ht hi hz hsize hby hzs hsz v n xs hown ad m c news hl hnews h1 h63 hbytes hbase
    unfold Oper.wp execOp
    simp only [ho, resolve, invoke, builtin, Sem.run_bind, Sem.run_pure, Result.andThen_ok, List.map_toArray, List.map_cons, List.map_nil, hs, hx, hr]
    exact hK _ _ (h v' w' h2 h3 h4)

/-- l = append(l, x): one string; where the row lies behind it -/
theorem wpList_str2 {ops : Array Oper} {rest : List Oper} {o : Oper} {a : Act} {Q : Exit → Act → World → Prop} {w : World} (hgd : o.guard = none) (s x : Operand)
    (ho : o.op = .call { callee := .builtin .append, args := #[s, x], argTypes := #[30, 30] }) (base : Nat) (v : Value) (l : List ByteArray) (hs : a.eval s = v) (hown : Strs base w v l)
    (ad : Addr) (c : Nat) (y : ByteArray) (hx : a.eval x = .slice (some ad) 1 c) (hy : w.cell? ad = some (.string y)) (hlen : l.length < 4398046511104) (hbase : base ≤ w.heap.size)
    (h : ∀ v' w', Strs base w' v' (l ++ [y]) → w.grownBy w' v.ownBlock → Sep w v v' → wpList Tryd.prog ops Q rest (a.put o.dst v') w') : wpList Tryd.prog ops Q (o :: rest) a w := by
  obtain ⟨i0, hi, hz0, hz1, hz2⟩ := info_parts info_str
  refine wpList_append_sep hgd s x 30 ho base 9 i0 (.string ⟨#[]⟩) 1 16 Tryd.underlying30 hi hz0 hz1 hz2 rfl (by decide) v l.length (l.map Value.string) hs hown ad 1 c [.string y] hx rfl ?_ ?_ ?_ ?_ hbase ?_
  · intro j u hj
    match j, hj with
    | 0, hj => simp at hj; subst hj; simpa [Addr.add] using hy
  · intro u hu; simp at hu; subst hu; rfl
  · unfold maxLen; omega
  · omega
  · intro v' w' h1 h2 h3
    exact h v' w' (by unfold Strs; simpa using h1) h2 h3
/-- l = append(l, xs...): strings -/
theorem wpList_strs {ops : Array Oper} {rest : List Oper} {o : Oper} {a : Act} {Q : Exit → Act → World → Prop} {w : World} (hgd : o.guard = none) (s x : Operand)
    (ho : o.op = .call { callee := .builtin .append, args := #[s, x], argTypes := #[30, 30] }) (base : Nat) (v : Value) (l : List ByteArray) (hs : a.eval s = v) (hown : Strs base w v l)
    (vx : Value) (m : List ByteArray) (hx : a.eval x = vx) (hm : StrsAt w vx m) (hlen : l.length + m.length < 4398046511104) (hbase : base ≤ w.heap.size)
    (h : ∀ v' w', Strs base w' v' (l ++ m) → w.grownBy w' v.ownBlock → wpList Tryd.prog ops Q rest (a.put o.dst v') w') : wpList Tryd.prog ops Q (o :: rest) a w := by
  obtain ⟨i0, hi, hz0, hz1, hz2⟩ := info_parts info_str
  obtain ⟨ax, cx, hform⟩ := hm.form
  cases ax with
  | none =>
    obtain ⟨hm0, h2⟩ : m = [] ∧ cx = 0 := by
      rcases hm with ⟨a', c', hv, hs, hc⟩ | ⟨bk, o', c, hf, _⟩
      · rw [hform] at hv
        injection hv with e1 e2 e3
        exact ⟨hs, e3.trans (hc e1.symm)⟩
      · rw [hform] at hf; injection hf with e1; cases e1
    subst hm0
    have hx' : a.eval x = .slice none 0 0 := by rw [hx, hform, h2]; rfl
    refine wpList_append_own_none hgd s x 30 ho base 9 i0 1 Tryd.underlying30 hi v l.length (l.map Value.string) hs hown hx' ?_
    exact h v w (by rw [List.append_nil]; exact hown) ⟨rfl, rfl, rfl, Nat.le_refl _, fun _ _ _ => rfl⟩
  | some ad =>
    refine wpList_append_own w hgd s x 30 ho base 9 i0 (.string ⟨#[]⟩) 1 16 Tryd.underlying30 hi hz0 hz1 hz2 rfl (by decide) v l.length (l.map Value.string) hs hown ad m.length cx (m.map Value.string) (hx.trans hform) (by simp) ?_ ?_ ?_ ?_ hbase ?_
    · intro j u hj
      rcases hm with ⟨_, _, _, e, _⟩ | ⟨bk, o', c, hf, g1, g2, g3, g4⟩
      · subst e; simp at hj
      · rw [hf] at hform; cases hform
        obtain ⟨y, hy, rfl⟩ : ∃ y, m[j]? = some y ∧ Value.string y = u := by
          rw [List.getElem?_map] at hj
          cases hmj : m[j]? with
          | none => rw [hmj] at hj; cases hj
          | some y => rw [hmj] at hj; exact ⟨y, rfl, by simpa using hj⟩
        have ea : (Addr.add ⟨bk, o', none⟩ j) = ⟨bk, o' + j, none⟩ := by unfold Addr.add; split <;> simp_all
        rw [ea]; exact g4 j y hy
    · intro u hu; obtain ⟨y, _, rfl⟩ := List.mem_map.1 hu; rfl
    · unfold maxLen; omega
    · omega
    · intro v' w' h1 h2 _
      exact h v' w' (by unfold Strs; simpa using h1) h2
end Go.Proofs.YtkoobhgedoanhaaDoor
