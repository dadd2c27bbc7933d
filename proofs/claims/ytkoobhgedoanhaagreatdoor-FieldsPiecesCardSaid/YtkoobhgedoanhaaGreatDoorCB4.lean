/- Slices of elements of k cells: read, and made by the call itself. No program in sight. append to a row of the call's own: the row lies where it lay, or in a new block. No function of the program in sight. Package fetch: Asked. Plain laws of Lower and Same. The names that must be asked for: order, and one header more: plain laws. No program in sight. Passes and books of passes: plain forms and laws. No program in sight. What answers say of requests: plain forms. No program in sight. -/
import Derived.Test.YtkoobhgedoanhaaGreatDoorCB1
import Derived.Shelf.SlicesQ.Load
import Derived.Laws.AppendOwnNone
import Derived.Test.YtkoobhgedoanhaaGreatDoorCB3
import Derived.Test.YtkoobhgedoanhaaGreatDoorCB2
namespace Go.Proofs.YtkoobhgedoanhaaGreatDoor
open Go.RowKit

/-- v reads as the elements xs, each of k cells -/
def RowsAt (k : Nat) (w : World) (v : Value) (xs : List (List Value)) : Prop :=
  (∀ x ∈ xs, x.length = k ∧ ∀ u ∈ x, u.oneCell' = true) ∧
  ((∃ a c, v = .slice a 0 c ∧ xs = [] ∧ (a = none → c = 0)) ∨
   ∃ bk o c, v = .slice (some ⟨bk, o, none⟩) xs.length c ∧ xs.length ≤ c ∧ c ≤ maxLen ∧ bk < w.heap.size ∧
     ∀ (j : Nat) x, xs[j]? = some x → ∀ (i : Nat) u, x[i]? = some u → w.cell? ⟨bk, o + j * k + i, none⟩ = some u)
section
variable {k : Nat} {w w' : World} {v : Value} {xs : List (List Value)}
theorem RowsAt.nil (k : Nat) (w : World) : RowsAt k w (.slice none 0 0) [] := ⟨by simp, Or.inl ⟨_, _, rfl, rfl, fun _ => rfl⟩⟩
theorem RowsAt.form (h : RowsAt k w v xs) : ∃ a c, v = .slice a xs.length c := by
  rcases h.2 with ⟨a, c, hv, hs, _⟩ | ⟨bk, o, c, hv, _⟩
  · exact ⟨a, c, by rw [hv, hs]; rfl⟩
  · exact ⟨_, _, hv⟩
theorem RowsAt.fr {S : Nat → Prop} (h : RowsAt k w v xs) (hf : Fr S w w') (hn : ∀ b, v.ownBlock = some b → ¬ S b) : RowsAt k w' v xs := by
  refine ⟨h.1, ?_⟩
  rcases h.2 with h | ⟨bk, o, c, hv, h1, h2, h3, h4⟩
  · exact Or.inl h
  · refine Or.inr ⟨bk, o, c, hv, h1, h2, Nat.lt_of_lt_of_le h3 hf.size, fun j x hj i u hi => ?_⟩
    rw [hf.cell (p := ⟨bk, o + j * k + i, none⟩) h3 (hn bk (by rw [hv]; rfl))]
    exact h4 j x hj i u hi
theorem RowsAt.frNone (h : RowsAt k w v xs) (hf : Fr noB w w') : RowsAt k w' v xs := h.fr hf (fun _ _ h => h)
end

/-- the cells of one element, loaded at once -/
theorem load_cells {P : Program} {w : World} {b o k : Nat} {x : List Value} (hk : x.length = k) (h : ∀ (i : Nat) u, x[i]? = some u → w.cell? ⟨b, o + i, none⟩ = some u) :
    Sem.run P (loadCellsFrom ⟨b, o, none⟩ 0 k #[]) w = .ok x.toArray w :=
  run_loadCellsFrom_list P w ⟨b, o, none⟩ x k hk (fun j v hj => by
    have ea : (Addr.add ⟨b, o, none⟩ j) = ⟨b, o + j, none⟩ := by unfold Addr.add; split <;> simp_all
    rw [ea]; exact h j v hj)

/-- v is a slice of the call's own (blocks from base on, elements of type e, k cells each) that holds xs -/
def OwnRows (base : Nat) (e : TypeId) (k : Nat) (w : World) (v : Value) (xs : List (List Value)) : Prop :=
  (∀ x ∈ xs, x.length = k ∧ ∀ u ∈ x, u.oneCell' = true) ∧ w.ownsRow base e k v xs.length xs.flatten
theorem flatten_at : ∀ {k : Nat} {xs : List (List Value)} (_ : ∀ x ∈ xs, x.length = k) {j : Nat} {x : List Value} (_ : xs[j]? = some x) {i : Nat} {u : Value} (_ : x[i]? = some u), xs.flatten[j * k + i]? = some u
  | k, [], _, j, x, hj, i, u, hi => by simp at hj
  | k, y :: ys, hl, 0, x, hj, i, u, hi => by
    simp at hj; subst hj
    have := (List.getElem?_eq_some_iff.1 hi).1
    simp only [List.flatten_cons, Nat.zero_mul, Nat.zero_add]
    rw [List.getElem?_append_left this]; exact hi
  | k, y :: ys, hl, j + 1, x, hj, i, u, hi => by
    have hy := hl y (by simp)
    have ih := flatten_at (k := k) (xs := ys) (fun z hz => hl z (List.mem_cons_of_mem _ hz)) (j := j) (by simpa using hj) hi
    simp only [List.flatten_cons]
    rw [List.getElem?_append_right (by rw [hy, Nat.succ_mul]; omega), hy, show (j + 1) * k + i - k = j * k + i from by rw [Nat.succ_mul]; omega]
    exact ih
theorem flatten_len : ∀ {k : Nat} {xs : List (List Value)} (_ : ∀ x ∈ xs, x.length = k), xs.flatten.length = xs.length * k
  | k, [], _ => by simp
  | k, y :: ys, hl => by
    have := flatten_len (k := k) (xs := ys) (fun z hz => hl z (List.mem_cons_of_mem _ hz))
    simp only [List.flatten_cons, List.length_append, this, hl y (by simp), List.length_cons, Nat.succ_mul]; omega
section
variable {base k : Nat} {e : TypeId} {w w' : World} {v : Value} {xs : List (List Value)}
theorem OwnRows.nil (base : Nat) (e : TypeId) (k : Nat) (w : World) : OwnRows base e k w (.slice none 0 0) [] := ⟨by simp, World.ownsRow_nil _ _ _ _⟩
theorem OwnRows.alloc (h : OwnRows base e k w v xs) (o : Obj) : OwnRows base e k (w.alloc o) v xs := ⟨h.1, World.ownsRow.alloc h.2 o⟩
theorem OwnRows.drewN {n : Nat} (h : OwnRows base e k w v xs) : OwnRows base e k (w.drewN n) v xs := h
theorem OwnRows.drew (h : OwnRows base e k w v xs) : OwnRows base e k w.drew v xs := h
theorem OwnRows.form (h : OwnRows base e k w v xs) : ∃ a c, v = .slice a xs.length c := by
  rcases h.2.2 with ⟨hv, hn⟩ | ⟨g, cap, cur, hv, _⟩
  · exact ⟨none, 0, by rw [hv, hn]⟩
  · exact ⟨_, _, hv⟩
theorem OwnRows.up {b' : Nat} (h : OwnRows b' e k w v xs) (hb : base ≤ b') : OwnRows base e k w v xs := by
  obtain ⟨h0, h1, h2⟩ := h
  refine ⟨h0, h1, ?_⟩
  rcases h2 with h2 | ⟨g, cap, cur, hv, hg, r⟩
  · exact Or.inl h2
  · exact Or.inr ⟨g, cap, cur, hv, Nat.le_trans hb hg, r⟩
theorem OwnRows.fr {S : Nat → Prop} (h : OwnRows base e k w v xs) (hf : Fr S w w') (hn : ∀ b, v.ownBlock = some b → ¬ S b) : OwnRows base e k w' v xs := by
  obtain ⟨h0, h1, h2⟩ := h
  refine ⟨h0, h1, ?_⟩
  rcases h2 with h2 | ⟨g, cap, cur, hv, hg, hh, r⟩
  · exact Or.inl h2
  · exact Or.inr ⟨g, cap, cur, hv, hg, hf.keep hh (hn g (by rw [hv]; rfl)), r⟩
theorem OwnRows.block (h : OwnRows base e k w v xs) : ∀ b, v.ownBlock = some b → base ≤ b := by
  intro b hb
  rcases h.2.2 with ⟨hv, _⟩ | ⟨g, cap, cur, hv, hg, _⟩
  · rw [hv] at hb; simp [Value.ownBlock] at hb
  · rw [hv] at hb; simp [Value.ownBlock] at hb; omega
theorem OwnRows.lt (h : OwnRows base e k w v xs) : ∀ b, v.ownBlock = some b → b < w.heap.size := by
  intro b hb
  rcases h.2.2 with ⟨hv, _⟩ | ⟨g, cap, cur, hv, hg, hh, _⟩
  · rw [hv] at hb; simp [Value.ownBlock] at hb
  · rw [hv] at hb; simp [Value.ownBlock] at hb; subst hb; exact lt_of_some hh
theorem OwnRows.at (h : OwnRows base e k w v xs) : RowsAt k w v xs := by
  obtain ⟨h0, h1, h2⟩ := h
  refine ⟨h0, ?_⟩
  rcases h2 with ⟨hv, hn⟩ | ⟨g, cap, cur, hv, hg, hh, h3, h4, h5, h6⟩
  · exact Or.inl ⟨none, 0, hv, List.eq_nil_of_length_eq_zero hn, fun _ => rfl⟩
  · refine Or.inr ⟨g, 0, cap, hv, h3, h4, lt_of_some hh, fun j x hj i u hi => ?_⟩
    have hlx := h0 x (List.mem_of_getElem? hj)
    have hji : j * k + i < xs.length * k := by
      have hj' := (List.getElem?_eq_some_iff.1 hj).1
      have hi' := (List.getElem?_eq_some_iff.1 hi).1
      have : (j + 1) * k ≤ xs.length * k := Nat.mul_le_mul_right _ hj'
      rw [Nat.succ_mul] at this; omega
    have e1 : (cur.toList.take (xs.length * k))[j * k + i]? = some u := by rw [h6]; exact flatten_at (fun z hz => (h0 z hz).1) hj hi
    rw [List.getElem?_take_of_lt hji] at e1
    have e2 : cur[j * k + i]? = some u := by simpa using e1
    simp [World.cell?, hh, e2]
end

/-- l = append(l, x): one element of k cells -/
theorem wpList_row {P : Program} {ops : Array Oper} {rest : List Oper} {o : Oper} {a : Act} {Q : Exit → Act → World → Prop} {w : World} (hgd : o.guard = none) (s x : Operand) (t e : TypeId)
    (ho : o.op = .call { callee := .builtin .append, args := #[s, x], argTypes := #[t, t] }) (k bytes : Nat) (z : Value) (ht : P.underlying t = some (.slice e))
    (hinf : (P.info? e).map (fun i => (i.zero, i.size, i.bytes)) = some (some z, k, bytes)) (hz : z.cells.size = k) (hk : 0 < k) (hb : bytes ≤ 1024)
    (base : Nat) (v : Value) (l : List (List Value)) (hs : a.eval s = v) (hown : OwnRows base e k w v l)
    (ad : Nat) (c : Nat) (y : List Value) (hx : a.eval x = .slice (some ⟨ad, 0, none⟩) 1 c) (hyk : y.length = k) (hy1 : ∀ u ∈ y, u.oneCell' = true) (hy : ∀ (i : Nat) u, y[i]? = some u → w.cell? ⟨ad, i, none⟩ = some u)
    (hlen : l.length < 68719476736) (hbase : base ≤ w.heap.size)
    (h : ∀ v' w', OwnRows base e k w' v' (l ++ [y]) → w.grownBy w' v.ownBlock → wpList P ops Q rest (a.put o.dst v') w') : wpList P ops Q (o :: rest) a w := by
  obtain ⟨i0, hi, hz0, hz1, hz2⟩ := info_parts hinf
  refine wpList_append_own w hgd s x t ho base e i0 z k bytes ht hi hz0 hz1 hz2 hz hk v l.length l.flatten hs hown.2 ⟨ad, 0, none⟩ 1 c y hx (by rw [hyk, Nat.one_mul]) ?_ hy1 ?_ ?_ hbase ?_
  · intro j u hj
    have ea : (Addr.add ⟨ad, 0, none⟩ j) = ⟨ad, j, none⟩ := by unfold Addr.add; split <;> simp_all
    rw [ea]; exact hy j u hj
  · unfold maxLen; omega
  · have : (l.length + 1) * bytes ≤ 68719476736 * 1024 := Nat.mul_le_mul (by omega) hb
    omega
  · intro v' w' h1 h2 _
    refine h v' w' ⟨?_, ?_⟩ h2
    · intro q hq
      rcases List.mem_append.1 hq with g | g
      · exact hown.1 q g
      · simp at g; subst g; exact ⟨hyk, hy1⟩
    · simpa using h1
end Go.Proofs.YtkoobhgedoanhaaGreatDoor

namespace Go.Proofs.YtkoobhgedoanhaaGreatDoor
open Go.RowKit

/-- v' lies where v lay, or in a block that is new since w -/
def Sep (w : World) (v v' : Value) : Prop := v'.ownBlock = v.ownBlock ∨ ∀ k, v'.ownBlock = some k → w.heap.size ≤ k
theorem run_append_sep {P : Program} (w : World) (base : Nat) (t ty e : TypeId) (i : TypeInfo) (z : Value) (size bytes : Nat) (ht : P.underlying t = some (.slice e)) (hi : P.info? e = some i) (hz : i.zero = some z)
    (hsize : i.size = size) (hby : i.bytes = bytes) (hzs : z.cells.size = size) (hsz : 0 < size)
    (v : Value) (n : Nat) (xs : List Value) (hown : w.ownsRow base e size v n xs)
    (a : Addr) (m c : Nat) (news : List Value) (hl : news.length = m * size) (hnews : ∀ j u, news[j]? = some u → w.cell? (a.add j) = some u) (h1 : ∀ u ∈ news, u.oneCell' = true)
    (h63 : n + m ≤ maxLen) (hbytes : (n + m) * bytes ≤ 140737488355328) (hbase : base ≤ w.heap.size) :
    ∃ v' w', (Builtin.append_ #[t, t] ty #[v, .slice (some a) m c]).run P w = .ok v' w' ∧ w'.ownsRow base e size v' (n + m) (xs ++ news) ∧ w.grownBy w' v.ownBlock ∧ Sep w v v' := by
  obtain ⟨v', w', hr, h2, h3, _⟩ := run_append_own (P := P) w base t ty e i z size bytes ht hi hz hsize hby hzs hsz v n xs hown a m c news hl hnews h1 h63 hbytes hbase
  refine ⟨v', w', hr, h2, h3, ?_⟩
  rcases hown.2 with ⟨rfl, rfl⟩ | ⟨g, cap, cur, rfl, hbg, hg, hnc, hcm, hcs, htake⟩
  · have hx : xs = [] := List.eq_nil_of_length_eq_zero (by simpa using hown.1)
    subst hx
    obtain ⟨v2, w2, hr2, h22, _, _⟩ := run_append_own (P := P) w w.heap.size t ty e i z size bytes ht hi hz hsize hby hzs hsz (.slice none 0 0) 0 [] (World.ownsRow_nil _ _ _ _) a m c news hl hnews h1 h63 hbytes (Nat.le_refl _)
    rw [hr] at hr2
    injection hr2 with e1 e2
    subst e1
    exact Or.inr fun k hk => (h22.lt k hk).1
  · by_cases hroom : n + m ≤ cap
    · subst hsize
      have hfit : n * i.size + news.length ≤ cur.size := by rw [hl, hcs, ← Nat.add_mul]; exact Nat.mul_le_mul_right _ hroom
      have hr2 := run_append_room (P := P) w t ty e i ht hi g n cap cur hg a m c news hl hnews h1 hroom hfit
      rw [hr] at hr2
      injection hr2 with e1 e2
      subst e1
      exact Or.inl rfl
    · subst hsize
      subst hby
      have hsmall : n + m ≤ 9223372036854775807 := by simp only [maxLen] at h63; omega
      have holds : ∀ j u, xs[j]? = some u → w.cell? ((⟨g, 0, none⟩ : Addr).add j) = some u := hown.cells (g := g) rfl
      have hr2 := run_append_grow (P := P) w t ty e i z ht hi hz ⟨g, 0, none⟩ n cap xs hown.1 holds a m c news hl hnews (by omega) (by omega) (growslice_fits (by omega) hbytes)
      rw [hr] at hr2
      injection hr2 with e1 e2
      subst e1
      exact Or.inr fun k hk => by simp [Value.ownBlock] at hk; omega

theorem wpList_append_sep {P : Program} {w : World} {ops : Array Oper} {rest : List Oper} {o : Oper} {a : Act} {Q : Exit → Act → World → Prop} (hgd : o.guard = none) (s x : Operand) (t : TypeId)
    (ho : o.op = .call { callee := .builtin .append, args := #[s, x], argTypes := #[t, t] })
    (base : Nat) (e : TypeId) (i : TypeInfo) (z : Value) (size bytes : Nat) (ht : P.underlying t = some (.slice e)) (hi : P.info? e = some i) (hz : i.zero = some z)
    (hsize : i.size = size) (hby : i.bytes = bytes) (hzs : z.cells.size = size) (hsz : 0 < size)
    (v : Value) (n : Nat) (xs : List Value) (hs : a.eval s = v) (hown : w.ownsRow base e size v n xs)
    (ad : Addr) (m c : Nat) (news : List Value) (hx : a.eval x = .slice (some ad) m c) (hl : news.length = m * size) (hnews : ∀ j u, news[j]? = some u → w.cell? (ad.add j) = some u) (h1 : ∀ u ∈ news, u.oneCell' = true)
    (h63 : n + m ≤ maxLen) (hbytes : (n + m) * bytes ≤ 140737488355328) (hbase : base ≤ w.heap.size)
    (h : ∀ v' w', w'.ownsRow base e size v' (n + m) (xs ++ news) → w.grownBy w' v.ownBlock → Sep w v v' → wpList P ops Q rest (a.put o.dst v') w') : wpList P ops Q (o :: rest) a w :=
  wpList_plain hgd fun _ hK => by
    obtain ⟨v', w', hr, h2, h3, h4⟩ := run_append_sep (P := P) w base t o.type e i z size bytes ht hi hz hsize hby hzs hsz v n xs hown ad m c news hl hnews h1 h63 hbytes hbase
    unfold Oper.wp execOp
    simp only [ho, resolve, invoke, builtin, Sem.run_bind, Sem.run_pure, Result.andThen_ok, List.map_toArray, List.map_cons, List.map_nil, hs, hx, hr]
    exact hK _ _ (h v' w' h2 h3 h4)

/-- l = append(l, x): one string; where the row lies behind it -/
theorem wpList_str2 {ops : Array Oper} {rest : List Oper} {o : Oper} {a : Act} {Q : Exit → Act → World → Prop} {w : World} (hgd : o.guard = none) (s x : Operand)
    (ho : o.op = .call { callee := .builtin .append, args := #[s, x], argTypes := #[22, 22] }) (base : Nat) (v : Value) (l : List ByteArray) (hs : a.eval s = v) (hown : Strs base w v l)
    (ad : Addr) (c : Nat) (y : ByteArray) (hx : a.eval x = .slice (some ad) 1 c) (hy : w.cell? ad = some (.string y)) (hlen : l.length < 4398046511104) (hbase : base ≤ w.heap.size)
    (h : ∀ v' w', Strs base w' v' (l ++ [y]) → w.grownBy w' v.ownBlock → Sep w v v' → wpList Tryz.prog ops Q rest (a.put o.dst v') w') : wpList Tryz.prog ops Q (o :: rest) a w := by
  obtain ⟨i0, hi, hz0, hz1, hz2⟩ := info_parts info_str
  refine wpList_append_sep hgd s x 22 ho base 9 i0 (.string ⟨#[]⟩) 1 16 Tryz.underlying22 hi hz0 hz1 hz2 rfl (by decide) v l.length (l.map Value.string) hs hown ad 1 c [.string y] hx rfl ?_ ?_ ?_ ?_ hbase ?_
  · intro j u hj
    match j, hj with
    | 0, hj => simp at hj; subst hj; simpa [Addr.add] using hy
  · intro u hu; simp at hu; subst hu; rfl
  · unfold maxLen; omega
  · omega
  · intro v' w' h1 h2 h3
    exact h v' w' (by unfold Strs; simpa using h1) h2 h3
/-- l = append(l, xs...): strings -/
theorem wpList_strs {ops : Array Oper} {rest : List Oper} {o : Oper} {a : Act} {Q : Exit → Act → World → Prop} {w : World} (hgd : o.guard = none) (s x : Operand)
    (ho : o.op = .call { callee := .builtin .append, args := #[s, x], argTypes := #[22, 22] }) (base : Nat) (v : Value) (l : List ByteArray) (hs : a.eval s = v) (hown : Strs base w v l)
    (vx : Value) (m : List ByteArray) (hx : a.eval x = vx) (hm : StrsAt w vx m) (hlen : l.length + m.length < 4398046511104) (hbase : base ≤ w.heap.size)
    (h : ∀ v' w', Strs base w' v' (l ++ m) → w.grownBy w' v.ownBlock → wpList Tryz.prog ops Q rest (a.put o.dst v') w') : wpList Tryz.prog ops Q (o :: rest) a w := by
  obtain ⟨i0, hi, hz0, hz1, hz2⟩ := info_parts info_str
  obtain ⟨ax, cx, hform⟩ := hm.form
  cases ax with
  | none =>
    obtain ⟨hm0, h2⟩ : m = [] ∧ cx = 0 := by
      rcases hm with ⟨a', c', hv, hs, hc⟩ | ⟨bk, o', c, hf, _⟩
      · rw [hform] at hv
        injection hv with e1 e2 e3
        exact ⟨hs, e3.trans (hc e1.symm)⟩
      · rw [hform] at hf; injection hf with e1; cases e1
    subst hm0
    have hx' : a.eval x = .slice none 0 0 := by rw [hx, hform, h2]; rfl
    refine wpList_append_own_none hgd s x 22 ho base 9 i0 1 Tryz.underlying22 hi v l.length (l.map Value.string) hs hown hx' ?_
    exact h v w (by rw [List.append_nil]; exact hown) ⟨rfl, rfl, rfl, Nat.le_refl _, fun _ _ _ => rfl⟩
  | some ad =>
    refine wpList_append_own w hgd s x 22 ho base 9 i0 (.string ⟨#[]⟩) 1 16 Tryz.underlying22 hi hz0 hz1 hz2 rfl (by decide) v l.length (l.map Value.string) hs hown ad m.length cx (m.map Value.string) (hx.trans hform) (by simp) ?_ ?_ ?_ ?_ hbase ?_
    · intro j u hj
      rcases hm with ⟨_, _, _, e, _⟩ | ⟨bk, o', c, hf, g1, g2, g3, g4⟩
      · subst e; simp at hj
      · rw [hf] at hform; cases hform
        obtain ⟨y, hy, rfl⟩ : ∃ y, m[j]? = some y ∧ Value.string y = u := by
          rw [List.getElem?_map] at hj
          cases hmj : m[j]? with
          | none => rw [hmj] at hj; cases hj
          | some y => rw [hmj] at hj; exact ⟨y, rfl, by simpa using hj⟩
        have ea : (Addr.add ⟨bk, o', none⟩ j) = ⟨bk, o' + j, none⟩ := by unfold Addr.add; split <;> simp_all
        rw [ea]; exact g4 j y hy
    · intro u hu; obtain ⟨y, _, rfl⟩ := List.mem_map.1 hu; rfl
    · unfold maxLen; omega
    · omega
    · intro v' w' h1 h2 _
      exact h v' w' (by unfold Strs; simpa using h1) h2
end Go.Proofs.YtkoobhgedoanhaaGreatDoor

namespace Go.Proofs.YtkoobhgedoanhaaGreatDoor
open Go.RowKit Go.Sort

abbrev Prm := ByteArray × ByteArray
def Prm.cells (p : Prm) : List Value := [.string p.1, .string p.2]
/-- v reads as the params ps -/
def PrmsAt (w : World) (v : Value) (ps : List Prm) : Prop := RowsAt 2 w v (ps.map Prm.cells)
def lowA (s : ByteArray) : ByteArray := ⟨(lowL s.data.toList).toArray⟩
/-- the names of those that are not plain -/
def outB (ps : List Prm) : List ByteArray := (ps.filter fun p => !plainB p.1 p.2).map fun p => lowA p.1
def plB (ps : List Prm) : List ByteArray := (ps.filter fun p => plainB p.1 p.2).map fun p => lowA p.1
def nB (ps : List Prm) : Nat := ((ps.filter fun p => plainB p.1 p.2).map fun p => p.2.size).sum
def rawB (ps : List Prm) : List ByteArray := outB ps ++ (if 1024 < nB ps then plB ps else [])
/-- fetch.Asked -/
def askedL (ps : List Prm) : List (List UInt8) := Lib.compact (sortLs ((rawB ps).map fun s => s.data.toList))
def askedB (ps : List Prm) : List ByteArray := (askedL ps).map fun l => ⟨l.toArray⟩

theorem outB_snoc_no (ps : List Prm) (p : Prm) (h : plainB p.1 p.2 = false) : outB (ps ++ [p]) = outB ps ++ [lowA p.1] ∧ plB (ps ++ [p]) = plB ps ∧ nB (ps ++ [p]) = nB ps := by
  unfold outB plB nB; simp [List.filter_append, h]
theorem outB_snoc_yes (ps : List Prm) (p : Prm) (h : plainB p.1 p.2 = true) : outB (ps ++ [p]) = outB ps ∧ plB (ps ++ [p]) = plB ps ++ [lowA p.1] ∧ nB (ps ++ [p]) = nB ps + p.2.size := by
  unfold outB plB nB; simp [List.filter_append, h]
theorem outB_le (ps : List Prm) : (outB ps).length ≤ ps.length := by unfold outB; rw [List.length_map]; exact List.length_filter_le _ _
theorem plB_le (ps : List Prm) : (plB ps).length ≤ ps.length := by unfold plB; rw [List.length_map]; exact List.length_filter_le _ _
theorem plain_le {a b : ByteArray} (h : plainB a b = true) : b.size ≤ 128 := by
  unfold plainB at h
  split at h
  · cases h
  · omega
theorem nB_le : ∀ ps : List Prm, nB ps ≤ 128 * ps.length
  | [] => by simp [nB]
  | p :: ps => by
    have ih := nB_le ps
    unfold nB at ih ⊢
    rw [List.filter_cons]
    split
    · rename_i h
      have := plain_le h
      simp only [List.map_cons, List.sum_cons, List.length_cons]
      omega
    · simp only [List.length_cons]; omega
theorem take_step {α : Type} {l : List α} {k : Nat} {x : α} (h : l[k]? = some x) : l.take (k + 1) = l.take k ++ [x] := by
  rw [List.take_add_one, h]; rfl

/-- the rows of out and of plain lie apart -/
def Apart (u v : Value) : Prop := ∀ k, u.ownBlock = some k → v.ownBlock ≠ some k
def AsRel (ps : List Prm) (w : World) (out plain n i : Value) (wr : World) : Prop :=
  ∃ k : Nat, k ≤ ps.length ∧ i = .int .i64 k ∧ n = .int .i64 (nB (ps.take k)) ∧ Strs w.heap.size wr out (outB (ps.take k)) ∧ Strs w.heap.size wr plain (plB (ps.take k)) ∧ Apart out plain ∧ Fr noB w wr
theorem Strs.lt {base : Nat} {w : World} {v : Value} {ss : List ByteArray} (h : Strs base w v ss) : ∀ k, v.ownBlock = some k → base ≤ k ∧ k < w.heap.size := World.ownsRow.lt h
theorem Strs.kept {base : Nat} {w w' : World} {v : Value} {ss : List ByteArray} {row : Option Nat} (h : Strs base w v ss) (hg : w.grownBy w' row) (hne : ∀ k, row = some k → v.ownBlock ≠ some k) : Strs base w' v ss := by
  refine World.ownsRow.kept h hg ?_
  cases hv : v.ownBlock with
  | none => exact Or.inl rfl
  | some k => exact Or.inr fun e => hne k e.symm hv
/-- the row of v is apart from v2's behind an append as before -/
theorem Apart.sep {base : Nat} {w : World} {u v v2 : Value} {ss : List ByteArray} (h : Apart u v) (hs : Sep w v v2) (hu : Strs base w u ss) : Apart u v2 := by
  intro k hk e
  rcases hs with hs | hs
  · rw [hs] at e; exact h k hk e
  · have h1 := hs k e
    have h2 := (hu.lt k hk).2
    omega
theorem Apart.symm {u v : Value} (h : Apart u v) : Apart v u := fun k hv hu => h k hu hv
theorem strs_enc (ss : List ByteArray) : ss.map Value.string = (ss.map fun s => s.data.toList).map encStr := by
  rw [List.map_map]; rfl
def ofL (ls : List (List UInt8)) : List ByteArray := ls.map fun l => ⟨l.toArray⟩
theorem ofL_enc (ls : List (List UInt8)) : (ofL ls).map Value.string = ls.map encStr := by unfold ofL; rw [List.map_map]; rfl
theorem SortS_any (base : Nat) (v : Value) (ss : List ByteArray) (w : World) (h : Strs base w v ss) (hl : ss.length < 1000000) :
    Calls Tryz.prog 130 #[v] w fun e w' => e = .returned (.tuple #[]) ∧ Strs base w' v (ofL (sortLs (ss.map fun s => s.data.toList))) ∧ w.grownBy w' v.ownBlock := by
  have h2 : w.ownsRow base 9 1 v (ss.map fun s => s.data.toList).length ((ss.map fun s => s.data.toList).map encStr) := by
    rw [← strs_enc, List.length_map]; exact h
  refine (Sort_any base v _ w h2 (by rw [List.length_map]; exact hl)).mono ?_
  rintro e w' ⟨he, ho, hg⟩
  refine ⟨he, ?_, hg⟩
  unfold Strs
  rw [ofL_enc, show (ofL (sortLs (ss.map fun s => s.data.toList))).length = (ss.map fun s => s.data.toList).length from by unfold ofL sortLs; simp]
  exact ho
theorem CompactS_any (base : Nat) (v : Value) (ls : List (List UInt8)) (w : World) (h : Strs base w v (ofL ls)) (hl : ls.length < 1000000) :
    Calls Tryz.prog 131 #[v] w fun e w' => ∃ u, e = .returned u ∧ Strs base w' u (ofL (Lib.compact ls)) ∧ w.grownBy w' v.ownBlock := by
  have e1 : (ofL ls).length = ls.length := by unfold ofL; simp
  have h2 : w.ownsRow base 9 1 v ls.length (ls.map encStr) := by
    rw [← ofL_enc, ← e1]; exact h
  refine (compact_any base v ls w h2 hl).mono ?_
  rintro e w' ⟨u, he, ho, hg⟩
  refine ⟨u, he, ?_, hg⟩
  unfold Strs
  rw [ofL_enc, show (ofL (Lib.compact ls)).length = (Lib.compact ls).length from by unfold ofL; simp]
  exact ho
set_option maxRecDepth 100000 in
set_option maxHeartbeats 4000000 in
theorem Asked_any (ps : List Prm) (v : Value) (w : World) (h : PrmsAt w v ps) (hl : ps.length < 100000) (hz : ∀ p ∈ ps, p.1.size < 100000 ∧ p.2.size < 100000) :
    Calls Tryz.prog 83 #[v] w fun e w' => ∃ u, e = .returned u ∧ Strs w.heap.size w' u (askedB ps) ∧ Fr noB w w' := by
  obtain ⟨av, cv, hv⟩ := h.form
  rw [List.length_map] at hv
  have HZ := Lib.hid hz
  clear hz
  subst hv
  go_enter Tryz.func83, Tryz.ntmps83
  go_wp2
  go_loopw [3, 4, 5, 11] (AsRel ps w) (fun _ _ _ i _ => ps.length - (intOf i).toNat)
  case atStart => exact ⟨0, Nat.zero_le _, rfl, rfl, Strs.nil _ _, Strs.nil _ _, fun k e => by simp [Value.ownBlock] at e, Fr.refl _ _⟩
  case round =>
    obtain ⟨k, hk, rfl, rfl, ho, hp, hap, hfr⟩ := hrel
    obtain ⟨ao, co, hoe⟩ := ho.form
    obtain ⟨ap, cp, hpe⟩ := hp.form
    have hn := nB_le (ps.take k)
    rw [List.length_take] at hn
    have hol := outB_le (ps.take k)
    have hpl := plB_le (ps.take k)
    rw [List.length_take] at hol hpl
    by_cases hks : k < ps.length
    · have hki : (k : Int) < (ps.length : Int) := by omega
      have hat := Lib.hid (List.getElem?_eq_getElem hks)
      have hsz := HZ.out _ (List.getElem_mem hks)
      generalize ps[k] = p at hat hsz
      obtain ⟨nm, vl⟩ := p
      obtain ⟨hz1, hz2⟩ := hsz
      have HTK := Lib.hid (take_step hat.out)
      have hrow : RowsAt 2 wr (.slice av ps.length cv) (ps.map Prm.cells) := RowsAt.frNone h hfr
      rcases hrow.2 with ⟨_, _, _, e, _⟩ | ⟨bk, of, c, hf1, h1, h2, h3, h4⟩
      · have : ps.length = 0 := by have := congrArg List.length e; simpa using this
        omega
      rw [List.length_map] at hf1 h1
      cases hf1
      unfold maxLen at h2
      have hcell := h4 k (Prm.cells (nm, vl)) (by rw [List.getElem?_map, hat.out]; rfl)
      have c0 : wr.cell? ⟨bk, of + k * 2, none⟩ = some (.string nm) := hcell 0 (.string nm) rfl
      have c1 := hcell 1 (.string vl) rfl
      clear hcell h4 hrow
      obtain ⟨wb, hwb⟩ : ∃ wb, wb = wr.alloc (.cells #[.string nm, .string vl] 79) := ⟨_, rfl⟩
      have hfb : Fr noB wr wb := by rw [hwb]; exact (Fr.refl noB wr).alloc _
      have hk1 : wb.heap[wr.heap.size]? = some (.cells #[.string nm, .string vl] 79 (0, 0)) := by rw [hwb]; exact new_block _ _
      have HC := Lib.hid (show ∀ U, Fr noB wb U → U.cell? ⟨wr.heap.size, 0, none⟩ = some (.string nm) ∧ U.cell? ⟨wr.heap.size, 1, none⟩ = some (.string vl) from fun U hU => by
        have j1 := hU.keep hk1 (fun h => h)
        simp [World.cell?, j1])
      have HWB := Lib.hid hwb
      have HFB := Lib.hid (hfr.trans hfb)
      have HO := Lib.hid (ho.fr hfb (fun _ h => h.elim))
      have HP := Lib.hid (hp.fr hfb (fun _ h => h.elim))
      have HAPL := Lib.hid (show ∀ j, (Value.slice ap (plB (ps.take k)).length cp).ownBlock = some j → j < wr.heap.size from fun j hj => (hp.lt j (by rw [hpe]; exact hj)).2)
      clear hwb hfb hk1 ho hp hfr
      go_wp2_with fail
      rw [← HWB.out]
      refine (Lower_any nm wb (by omega)).mono ?_
      rintro e u1 ⟨rfl, hf1⟩
      obtain ⟨k0, k1⟩ := HC.out u1 hf1
      have HF1 := Lib.hid hf1
      clear hf1 c0 c1
      go_wp2_with fail
      refine (Plain_any nm vl u1 (by omega) (by omega)).mono ?_
      rintro e u2 ⟨rfl, hf2⟩
      obtain ⟨k2, k3⟩ := HC.out u2 (HF1.out.trans hf2)
      have HF2 := Lib.hid ((HFB.out.trans HF1.out).trans hf2)
      have hf12 := HF1.out.trans hf2
      have K3A := Lib.hid (show ∀ o : Obj, (u2.alloc o).cell? ⟨wr.heap.size, 1, none⟩ = some (.string vl) from fun o => (HC.out _ (hf12.alloc o)).2)
      have ho2 := HO.out.fr hf12 (fun _ h => h.elim)
      have hp2 := HP.out.fr hf12 (fun _ h => h.elim)
      have hsz2 : w.heap.size ≤ u2.heap.size := HF2.out.size
      rw [hoe] at ho2 hap
      rw [hpe] at hp2 hap
      clear hf2 hf12 k0 k1
      have HLA := Lib.hid (show (⟨(lowL nm.data.toList).toArray⟩ : ByteArray) = lowA nm from rfl)
      rw [HLA.out]
      generalize hla : lowA nm = la at *
      have HE := Lib.hid hla
      clear hla
      cases hpl2 : plainB nm vl
      · obtain ⟨s1, s2, s3⟩ := outB_snoc_no (ps.take k) (nm, vl) hpl2
        rw [← HTK.out, HE.out] at s1
        rw [← HTK.out] at s2 s3
        have S1 := Lib.hid s1
        have S2 := Lib.hid s2
        have S3 := Lib.hid s3
        clear s1 s2 s3 hpl2
        go_wp2_with (at_builtin; refine wpList_str2 rfl _ _ rfl w.heap.size (.slice ao _ co) (outB (ps.take k)) rfl (by apply Strs.alloc; exact ho2) ⟨u2.heap.size, 0, none⟩ 1 la rfl (new_cell _ _ _ _) (by omega) (by simp; omega) ?_; intro v' w3 hown3 hg3 hsep3)
        have hp3 : Strs w.heap.size w3 (.slice ap (plB (ps.take k)).length cp) (plB (ps.take k)) := (hp2.alloc _).kept hg3 (fun j hj => hap j hj)
        have hap3 : Apart v' (.slice ap (plB (ps.take k)).length cp) := (Apart.sep hap.symm hsep3 (hp2.alloc _)).symm
        have HF3 := Lib.hid ((HF2.out.alloc (.cells #[.string la] 9)).grownNew hg3 (fun j hj => (ho2.block j hj)))
        go_roundw
        case rel => exact ⟨k + 1, by omega, by go_num, by rw [S3.out], by rw [S1.out]; exact hown3, by rw [S2.out]; exact hp3, hap3, HF3.out⟩
        case measure => simp [intOf]; omega
      · obtain ⟨s1, s2, s3⟩ := outB_snoc_yes (ps.take k) (nm, vl) hpl2
        have hvl := plain_le hpl2
        rw [← HTK.out, HE.out] at s2
        rw [← HTK.out] at s1 s3
        have S1 := Lib.hid s1
        have S2 := Lib.hid s2
        have S3 := Lib.hid s3
        clear s1 s2 s3 hpl2
        go_wp2_with (at_builtin; refine wpList_str2 rfl _ _ rfl w.heap.size (.slice ap _ cp) (plB (ps.take k)) rfl (by apply Strs.alloc; exact hp2) ⟨u2.heap.size, 0, none⟩ 1 la rfl (new_cell _ _ _ _) (by omega) (by simp; omega) ?_; intro v' w3 hown3 hg3 hsep3; have k4 : w3.cell? ⟨wr.heap.size, 1, none⟩ = some (.string vl) := hg3.cell (K3A.out _) (fun e => absurd (HAPL.out _ e.symm) (Nat.lt_irrefl _)))
        have ho3 : Strs w.heap.size w3 (.slice ao (outB (ps.take k)).length co) (outB (ps.take k)) := (ho2.alloc _).kept hg3 (fun j hj hj2 => hap j hj2 hj)
        have hap3 : Apart (.slice ao (outB (ps.take k)).length co) v' := Apart.sep hap hsep3 (ho2.alloc _)
        have HF3 := Lib.hid ((HF2.out.alloc (.cells #[.string la] 9)).grownNew hg3 (fun j hj => (hp2.block j hj)))
        go_roundw
        case rel => exact ⟨k + 1, by omega, by go_num, by rw [S3.out]; go_num, by rw [S1.out]; exact ho3, by rw [S2.out]; exact hown3, hap3, HF3.out⟩
        case measure => simp [intOf]; omega
    · have hki : ¬ (k : Int) < (ps.length : Int) := by omega
      have htl : ps.take k = ps := List.take_of_length_le (by omega)
      rw [htl] at ho hp hoe hpe hn hol hpl ⊢
      clear htl
      subst hoe hpe
      have hs0 : w.heap.size ≤ wr.heap.size := hfr.size
      obtain ⟨N, hN⟩ : ∃ N, N = nB ps := ⟨_, rfl⟩
      have HR1 := Lib.hid (show 1024 < N → rawB ps = outB ps ++ plB ps from fun e => by unfold rawB; rw [← hN, if_pos e])
      have HR2 := Lib.hid (show ¬ 1024 < N → rawB ps = outB ps from fun e => by unfold rawB; rw [← hN, if_neg e, List.append_nil])
      rw [← hN] at hn ⊢
      clear hN
      by_cases hnb : 1024 < N
      · have HR := Lib.hid (HR1.out hnb)
        have hnb' : (1024 : Int) < (N : Int) := by omega
        go_wp2_with (at_builtin; refine wpList_strs rfl _ _ rfl w.heap.size _ (outB ps) rfl ho (.slice ap (plB ps).length cp) (plB ps) rfl hp.at (by omega) (by omega) ?_; intro v2 w2 ho2 hg2)
        rw [← HR.out] at ho2
        have HF2 := Lib.hid (hfr.grownNew hg2 (fun j hj => ho.block j hj))
        have hrl : (rawB ps).length < 1000000 := by rw [HR.out, List.length_append]; omega
        clear hg2 ho hp hap
        go_wp2_with fail
        refine (SortS_any w.heap.size v2 (rawB ps) w2 ho2 hrl).mono ?_
        rintro e w3 ⟨rfl, ho3, hg3⟩
        have HF3 := Lib.hid (HF2.out.grownNew hg3 (fun j hj => ho2.block j hj))
        go_wp2_with fail
        refine (CompactS_any w.heap.size v2 _ w3 ho3 (by unfold sortLs; simpa using hrl)).mono ?_
        rintro e w4 ⟨u, rfl, ho4, hg4⟩
        have HF4 := Lib.hid (HF3.out.grownNew hg4 (fun j hj => ho3.block j hj))
        go_wp2
        go_ret
        exact ⟨u, rfl, ho4, HF4.out⟩
      · have HR := Lib.hid (HR2.out hnb)
        have hnb' : ¬ (1024 : Int) < (N : Int) := by omega
        rw [← HR.out] at ho
        have hrl : (rawB ps).length < 1000000 := by rw [HR.out]; omega
        rw [← HR.out]
        go_wp2_with fail
        refine (SortS_any w.heap.size _ (rawB ps) wr ho hrl).mono ?_
        rintro e w3 ⟨rfl, ho3, hg3⟩
        have HF3 := Lib.hid (hfr.grownNew hg3 (fun j hj => ho.block j hj))
        go_wp2_with fail
        refine (CompactS_any w.heap.size _ _ w3 ho3 (by unfold sortLs; simpa using hrl)).mono ?_
        rintro e w4 ⟨u, rfl, ho4, hg4⟩
        have HF4 := Lib.hid (HF3.out.grownNew hg4 (fun j hj => ho3.block j hj))
        go_wp2
        go_ret
        exact ⟨u, rfl, ho4, HF4.out⟩
end Go.Proofs.YtkoobhgedoanhaaGreatDoor

namespace Go.Proofs.YtkoobhgedoanhaaGreatDoor
open Go.RowKit

theorem lowB_all : ∀ n : Fin 256, lowB (lowB n.val.toUInt8) = lowB n.val.toUInt8 := by decide +kernel
theorem lowB_lowB (c : UInt8) : lowB (lowB c) = lowB c := by
  have h := lowB_all ⟨c.toNat, c.toNat_lt⟩
  simpa using h
theorem lowL_lowL (l : List UInt8) : lowL (lowL l) = lowL l := by
  unfold lowL
  rw [List.map_map]
  apply List.map_congr_left
  intro c _
  exact lowB_lowB c
theorem lowL_len (l : List UInt8) : (lowL l).length = l.length := by unfold lowL; simp
theorem sameL_self (a : List UInt8) : sameL a a = true := by unfold sameL; simp
theorem sameL_sym (a b : List UInt8) : sameL b a = sameL a b := by unfold sameL; rw [Bool.eq_iff_iff, beq_iff_eq, beq_iff_eq]; exact eq_comm
theorem sameL_trans {a b c : List UInt8} (h1 : sameL a b = true) (h2 : sameL b c = true) : sameL a c = true := by
  unfold sameL at *
  rw [beq_iff_eq] at *
  rw [h1, h2]
theorem sameL_low (a : List UInt8) : sameL a (lowL a) = true := by unfold sameL; rw [lowL_lowL]; simp
theorem lowSize (a : ByteArray) : (⟨(lowL a.data.toList).toArray⟩ : ByteArray).size = a.size := by
  show (lowL a.data.toList).toArray.size = a.size
  have h : a.data.toList.length = a.size := rfl
  simp [lowL_len]

end Go.Proofs.YtkoobhgedoanhaaGreatDoor

namespace Go.Proofs.YtkoobhgedoanhaaGreatDoor
open Go.RowKit Go.Sort

theorem bs_trans (a b c : List UInt8) (h : (decide (a ≤ b)) = true) (h2 : (decide (b ≤ c)) = true) : (decide (a ≤ c)) = true := by
  simp only [decide_eq_true_eq] at *; exact List.le_trans h h2
theorem bs_total (a b : List UInt8) : (decide (a ≤ b) || decide (b ≤ a)) = true := by
  simp only [Bool.or_eq_true, decide_eq_true_eq]; exact List.le_total a b
theorem sortLs_pair (l : List (List UInt8)) : (sortLs l).Pairwise (fun x y => (decide (x ≤ y)) = true) := List.pairwise_mergeSort bs_trans bs_total l
theorem sortLs_perm (l : List (List UInt8)) : (sortLs l).Perm l := List.mergeSort_perm l _
theorem sortLs_eq {l m : List (List UInt8)} (h : l.Perm m) : sortLs l = sortLs m := by
  refine List.Perm.eq_of_pairwise (le := fun x y => (decide (x ≤ y)) = true) ?_ (sortLs_pair l) (sortLs_pair m) ((sortLs_perm l).trans (h.trans (sortLs_perm m).symm))
  intro a b _ _ h1 h2
  simp only [decide_eq_true_eq] at h1 h2
  exact List.le_antisymm h1 h2

/-- compact: what is kept, place by place -/
theorem compact_mem (zs : List (List UInt8)) (x : List UInt8) : x ∈ Lib.compact zs → x ∈ zs := by
  intro h
  unfold Lib.compact Lib.compactUpTo at h
  obtain ⟨j, hj, rfl⟩ := List.mem_map.1 h
  have hj' := List.mem_range.1 (List.mem_filter.1 hj).1
  have : zs.toArray[j]! = zs[j] := by simp [getElem!_pos, hj']
  rw [this]; exact List.getElem_mem hj'
theorem mem_compact (zs : List (List UInt8)) : ∀ (j : Nat) (x : List UInt8), zs[j]? = some x → x ∈ Lib.compact zs
  | 0, x, h => by
    obtain ⟨hl, e⟩ := List.getElem?_eq_some_iff.1 h
    unfold Lib.compact Lib.compactUpTo
    refine List.mem_map.2 ⟨0, List.mem_filter.2 ⟨List.mem_range.2 hl, by simp [Lib.keeps]⟩, by simp [getElem!_pos, hl, e]⟩
  | j + 1, x, h => by
    obtain ⟨hl, e⟩ := List.getElem?_eq_some_iff.1 h
    have e1 : zs.toArray[j + 1]! = zs[j + 1] := by simp [getElem!_pos, hl]
    have e2 : zs.toArray[j]! = zs[j] := by simp [getElem!_pos, Nat.lt_of_succ_lt hl]
    by_cases hk : zs[j + 1] = zs[j]
    · refine mem_compact zs j x ?_
      rw [List.getElem?_eq_getElem (Nat.lt_of_succ_lt hl), ← e, hk]
    · unfold Lib.compact Lib.compactUpTo
      refine List.mem_map.2 ⟨j + 1, List.mem_filter.2 ⟨List.mem_range.2 hl, ?_⟩, by rw [e1, e]⟩
      unfold Lib.keeps
      simp only [decide_eq_true_eq, Nat.add_sub_cancel, e1, e2]
      exact Or.inr hk
theorem compact_iff (zs : List (List UInt8)) (x : List UInt8) : x ∈ Lib.compact zs ↔ x ∈ zs :=
  ⟨compact_mem zs x, fun h => by obtain ⟨j, hj, e⟩ := List.mem_iff_getElem.1 h; exact mem_compact zs j x (by rw [List.getElem?_eq_getElem hj, e])⟩
/-- what is kept of a sorted row rises -/
theorem compact_rises {zs : List (List UInt8)} (h : zs.Pairwise (fun x y => (decide (x ≤ y)) = true)) : (Lib.compact zs).Pairwise (fun x y => x < y) := by
  unfold Lib.compact Lib.compactUpTo
  rw [List.pairwise_map, List.pairwise_filter]
  have hr : (List.range zs.length).Pairwise (fun i j => i < j) := List.pairwise_lt_range
  have hm : (List.range zs.length).Pairwise (fun i j => i < j ∧ j < zs.length) := by
    refine List.Pairwise.imp_of_mem ?_ hr
    intro a b _ hb hab
    exact ⟨hab, List.mem_range.1 hb⟩
  refine hm.imp ?_
  rintro i j ⟨hij, hj⟩ _ hkj
  have hle : ∀ (p q : Nat) (hp : p < zs.length) (hq : q < zs.length), p ≤ q → zs[p] ≤ zs[q] := by
    intro p q hp hq hpq
    rcases Nat.eq_or_lt_of_le hpq with rfl | hlt
    · exact List.le_refl _
    · have := (List.pairwise_iff_getElem.1 h) p q hp hq hlt
      simpa using this
  have e1 : zs.toArray[i]! = zs[i] := by simp [getElem!_pos, Nat.lt_trans hij hj]
  have e2 : zs.toArray[j]! = zs[j] := by simp [getElem!_pos, hj]
  have e3 : zs.toArray[j - 1]! = zs[j - 1] := by simp [getElem!_pos, show j - 1 < zs.length by omega]
  unfold Lib.keeps at hkj
  rw [e2, e3] at hkj
  have hne : zs[j] ≠ zs[j - 1] := by
    rcases of_decide_eq_true hkj with h0 | h0
    · omega
    · exact h0
  rw [e1, e2]
  have h1 := hle i (j - 1) (by omega) (by omega) (by omega)
  have h2 := hle (j - 1) j (by omega) hj (by omega)
  have h3 : zs[i] ≤ zs[j] := List.le_trans h1 h2
  refine Classical.byContradiction fun hn => ?_
  have h4 : zs[j] ≤ zs[i] := List.not_lt.1 hn
  exact hne (List.le_antisymm (List.le_trans h4 h1) h2)

theorem rawB_rev (ps : List Prm) : (rawB ps.reverse).Perm (rawB ps) := by
  unfold rawB outB plB nB
  simp only [List.filter_reverse, List.map_reverse, List.sum_reverse]
  split
  · exact (List.reverse_perm _).append (List.reverse_perm _)
  · exact (List.reverse_perm _).append (List.Perm.refl _)
theorem askedL_rev (ps : List Prm) : askedL ps.reverse = askedL ps := by
  unfold askedL
  rw [sortLs_eq ((rawB_rev ps).map _)]
theorem askedB_rev (ps : List Prm) : askedB ps.reverse = askedB ps := by unfold askedB; rw [askedL_rev]
theorem askedL_mem (ps : List Prm) (x : List UInt8) : x ∈ askedL ps ↔ x ∈ (rawB ps).map fun s => s.data.toList := by
  unfold askedL
  rw [compact_iff]
  exact (sortLs_perm _).mem_iff
theorem askedB_mem (ps : List Prm) (x : ByteArray) : x ∈ askedB ps ↔ x ∈ rawB ps := by
  unfold askedB
  constructor
  · intro h
    obtain ⟨l, hl, rfl⟩ := List.mem_map.1 h
    obtain ⟨s, hs, rfl⟩ := List.mem_map.1 ((askedL_mem ps l).1 hl)
    simpa using hs
  · intro h
    exact List.mem_map.2 ⟨x.data.toList, (askedL_mem ps _).2 (List.mem_map.2 ⟨x, h, rfl⟩), by simp⟩
theorem rawB_low {ps : List Prm} {x : ByteArray} (h : x ∈ rawB ps) : ∃ p ∈ ps, x = lowA p.1 := by
  unfold rawB outB plB at h
  rcases List.mem_append.1 h with h | h
  · obtain ⟨p, hp, rfl⟩ := List.mem_map.1 h
    exact ⟨p, (List.mem_filter.1 hp).1, rfl⟩
  · split at h
    · obtain ⟨p, hp, rfl⟩ := List.mem_map.1 h
      exact ⟨p, (List.mem_filter.1 hp).1, rfl⟩
    · cases h
theorem lowA_lowA (s : ByteArray) : lowA (lowA s) = lowA s := by
  unfold lowA
  simp [lowL_lowL]
theorem lowA_sz (s : ByteArray) : (lowA s).size = s.size := lowSize s
theorem askedB_low {ps : List Prm} {x : ByteArray} (h : x ∈ askedB ps) : lowA x = x ∧ ∃ p ∈ ps, x.size = p.1.size := by
  obtain ⟨p, hp, rfl⟩ := rawB_low ((askedB_mem ps x).1 h)
  exact ⟨lowA_lowA _, p, hp, lowA_sz _⟩
/-- rising -/
theorem askedB_rises (ps : List Prm) (i : Nat) (x y : ByteArray) (hx : (askedB ps)[i]? = some x) (hy : (askedB ps)[i + 1]? = some y) : x.data.toList < y.data.toList := by
  have h := compact_rises (sortLs_pair ((rawB ps).map fun s => s.data.toList))
  have h' : (askedL ps).Pairwise (fun x y => x < y) := h
  unfold askedB at hx hy
  rw [List.getElem?_map] at hx hy
  obtain ⟨a, ha, rfl⟩ := Option.map_eq_some_iff.1 hx
  obtain ⟨b, hb, rfl⟩ := Option.map_eq_some_iff.1 hy
  obtain ⟨hi, rfl⟩ := List.getElem?_eq_some_iff.1 ha
  obtain ⟨hj, rfl⟩ := List.getElem?_eq_some_iff.1 hb
  simpa using (List.pairwise_iff_getElem.1 h') i (i + 1) hi hj (Nat.lt_succ_self i)
/-- one header more -/
theorem rawB_more (ps : List Prm) (p : Prm) : (∀ x ∈ rawB ps, x ∈ rawB (ps ++ [p])) ∧ (plainB p.1 p.2 = false → lowA p.1 ∈ rawB (ps ++ [p])) := by
  cases hp : plainB p.1 p.2
  · obtain ⟨s1, s2, s3⟩ := outB_snoc_no ps p hp
    unfold rawB
    rw [s1, s2, s3]
    refine ⟨fun x hx => ?_, fun _ => by simp⟩
    rcases List.mem_append.1 hx with h | h
    · exact List.mem_append_left _ (List.mem_append_left _ h)
    · exact List.mem_append_right _ h
  · obtain ⟨s1, s2, s3⟩ := outB_snoc_yes ps p hp
    unfold rawB
    rw [s1, s2, s3]
    refine ⟨fun x hx => ?_, fun h => by cases h⟩
    rcases List.mem_append.1 hx with h | h
    · exact List.mem_append_left _ h
    · refine List.mem_append_right _ ?_
      split at h
      · rename_i hn
        rw [if_pos (by omega)]
        exact List.mem_append_left _ h
      · cases h
theorem askedB_more (ps : List Prm) (p : Prm) : (∀ x ∈ askedB ps, x ∈ askedB (ps ++ [p])) ∧ (plainB p.1 p.2 = false → lowA p.1 ∈ askedB (ps ++ [p])) :=
  ⟨fun x hx => (askedB_mem _ _).2 ((rawB_more ps p).1 x ((askedB_mem _ _).1 hx)), fun h => (askedB_mem _ _).2 ((rawB_more ps p).2 h)⟩
theorem askedB_len (ps : List Prm) : (askedB ps).length ≤ 2 * ps.length := by
  unfold askedB askedL
  rw [List.length_map]
  have h1 := Lib.compact_length_le (sortLs ((rawB ps).map fun s => s.data.toList))
  have h2 : (sortLs ((rawB ps).map fun s => s.data.toList)).length = (rawB ps).length := by unfold sortLs; simp
  have h3 : (rawB ps).length ≤ 2 * ps.length := by
    unfold rawB
    rw [List.length_append]
    have := outB_le ps
    split
    · have := plB_le ps; omega
    · simp; omega
  omega
end Go.Proofs.YtkoobhgedoanhaaGreatDoor

namespace Go.Proofs.YtkoobhgedoanhaaGreatDoor
open Go.RowKit

/-! ### passes -/
/-- a pass -/
structure Pas where
  frm : Ori
  o : Ori
  path : ByteArray
  query : ByteArray
  wth : Bool
  method : ByteArray
  head : ByteArray
  til : Int
def Pas.cells (p : Pas) : List Value := [.bool p.frm.secure, .string p.frm.host, .int .i64 p.frm.port, .bool p.o.secure, .string p.o.host, .int .i64 p.o.port, .string p.path, .string p.query, .bool p.wth, .string p.method, .string p.head, .int .i64 p.til]
theorem Pas.cells_len (p : Pas) : p.cells.length = 12 := rfl
theorem Pas.cells_inj {p q : Pas} (h : p.cells = q.cells) : p = q := by
  obtain ⟨⟨a, b, c⟩, ⟨d, e, f⟩, g, i, j, k, l, m⟩ := p
  obtain ⟨⟨a', b', c'⟩, ⟨d', e', f'⟩, g', i', j', k', l', m'⟩ := q
  simp only [Pas.cells, List.cons.injEq, Value.bool.injEq, Value.string.injEq, Value.int.injEq, true_and, and_true] at h
  obtain ⟨rfl, rfl, rfl, rfl, rfl, rfl, rfl, rfl, rfl, rfl, rfl, rfl⟩ := h
  rfl
/-- Go's == of two passes -/
def Pas.eqB (p q : Pas) : Bool := p.frm.eqB q.frm && (p.o.eqB q.o && (p.path.toList == q.path.toList && (p.query.toList == q.query.toList && (p.wth == q.wth && (p.method.toList == q.method.toList && (p.head.toList == q.head.toList && p.til == q.til))))))
theorem Pas.eqB_iff (p q : Pas) : p.eqB q = true ↔ p = q := by
  obtain ⟨a, d, g, i, j, k, l, m⟩ := p
  obtain ⟨a', d', g', i', j', k', l', m'⟩ := q
  simp only [Pas.eqB, Bool.and_eq_true, beq_iff_eq, Pas.mk.injEq, toList_inj, Ori.eqB_iff]
def star : List UInt8 := [42]
def authz : List UInt8 := [97, 117, 116, 104, 111, 114, 105, 122, 97, 116, 105, 111, 110]
/-- a pass allows a method; a header -/
def Pas.lets (m : ByteArray) (wth : Bool) (p : Pas) : Bool := p.method.toList == m.toList || (p.method.toList == star && !wth)
def Pas.letsH (h : ByteArray) (wth : Bool) (p : Pas) : Bool := p.head.toList == h.toList || (p.head.toList == star && (!wth && h.toList != authz))
/-- cors.Covers -/
def coversB (m : ByteArray) (wth : Bool) (heads : List ByteArray) (ps : List Pas) : Bool :=
  (simpleB m || ps.any (Pas.lets m wth)) && heads.all fun h => ps.any (Pas.letsH h wth)
theorem coversB_more {m : ByteArray} {wth : Bool} {hs gs : List ByteArray} {ps qs : List Pas} (h : coversB m wth hs ps = true) (hp : ∀ p ∈ ps, p ∈ qs) (hh : ∀ x ∈ gs, x ∈ hs) : coversB m wth gs qs = true := by
  unfold coversB at h ⊢
  simp only [Bool.and_eq_true, Bool.or_eq_true, List.all_eq_true, List.any_eq_true] at h ⊢
  refine ⟨?_, fun x hx => ?_⟩
  · rcases h.1 with h | ⟨p, hq, h⟩
    · exact Or.inl h
    · exact Or.inr ⟨p, hp p hq, h⟩
  · obtain ⟨p, hq, e⟩ := h.2 x (hh x hx)
    exact ⟨p, hp p hq, e⟩
theorem rawB_tail (p : Prm) (ps : List Prm) : ∀ x ∈ rawB ps, x ∈ rawB (p :: ps) := by
  intro x hx
  have h1 : ∀ x ∈ outB ps, x ∈ outB (p :: ps) := by
    intro x hx
    unfold outB at hx ⊢
    obtain ⟨q, hq, rfl⟩ := List.mem_map.1 hx
    have := List.mem_filter.1 hq
    exact List.mem_map.2 ⟨q, List.mem_filter.2 ⟨List.mem_cons_of_mem _ this.1, this.2⟩, rfl⟩
  have h2 : ∀ x ∈ plB ps, x ∈ plB (p :: ps) := by
    intro x hx
    unfold plB at hx ⊢
    obtain ⟨q, hq, rfl⟩ := List.mem_map.1 hx
    have := List.mem_filter.1 hq
    exact List.mem_map.2 ⟨q, List.mem_filter.2 ⟨List.mem_cons_of_mem _ this.1, this.2⟩, rfl⟩
  have h3 : nB ps ≤ nB (p :: ps) := by
    unfold nB
    rw [List.filter_cons]
    split
    · simp
    · exact Nat.le_refl _
  unfold rawB at hx ⊢
  rcases List.mem_append.1 hx with h | h
  · exact List.mem_append_left _ (h1 x h)
  · refine List.mem_append_right _ ?_
    split at h
    · rename_i hn
      rw [if_pos (by omega)]
      exact h2 x h
    · cases h
theorem askedB_tail (p : Prm) (ps : List Prm) : ∀ x ∈ askedB ps, x ∈ askedB (p :: ps) := fun x hx => (askedB_mem _ _).2 (rawB_tail p ps x ((askedB_mem _ _).1 hx))

/-- a request, as far as it is asked for -/
structure ReqL where
  frm : Ori
  o : Ori
  path : ByteArray
  query : ByteArray
  method : ByteArray
  heads : List Prm
  wth : Bool
def ReqL.covers (r : ReqL) (ps : List Pas) : Bool := coversB (methodB r.method) r.wth (askedB r.heads) ps
def ReqL.needs (r : ReqL) : Bool := !r.frm.eqB r.o && !r.covers []
/-! ### books -/
def Pas.like (p q : Pas) : Bool := ({ p with til := q.til } : Pas).eqB q
def Pas.alive (now : Int) (p : Pas) : Bool := decide (now < p.til)
def putP (b : List Pas) (p : Pas) : List Pas := (b.filter fun q => !p.like q) ++ [p]
/-- pass.Put -/
def bookPut (b l : List Pas) (now : Int) : List Pas :=
  let c := (l.foldl putP b).filter (Pas.alive now)
  c.drop (c.length - 32)
def ReqL.mine (r : ReqL) (now : Int) (p : Pas) : Bool := p.alive now && (p.frm.eqB r.frm && ((p.o.eqB r.o && (p.path.toList == r.path.toList && p.query.toList == r.query.toList)) && (p.wth || !r.wth)))
/-- pass.For -/
def bookFor (b : List Pas) (r : ReqL) (now : Int) : List Pas := b.filter (r.mine now)
/-- pass.Covers -/
def bookCovers (b : List Pas) (r : ReqL) (now : Int) : Bool := !r.needs || r.covers (bookFor b r now)
/-- what a pass is for -/
def Pas.key (p : Pas) : Pas := { p with til := 0 }
theorem like_iff (p q : Pas) : p.like q = true ↔ p.key = q.key := by
  unfold Pas.like Pas.key
  rw [Pas.eqB_iff]
  obtain ⟨a, d, g, i, j, k, l, m⟩ := p
  obtain ⟨a', d', g', i', j', k', l', m'⟩ := q
  simp only [Pas.mk.injEq, and_true]
/-- each once -/
def Uniq (l : List Pas) : Prop := l.Pairwise fun p q => p.key ≠ q.key
theorem putP_uniq {b : List Pas} (p : Pas) (h : Uniq b) : Uniq (putP b p) := by
  unfold putP Uniq
  rw [List.pairwise_append]
  refine ⟨List.Pairwise.filter _ h, List.pairwise_singleton _ _, ?_⟩
  intro q hq r hr
  rw [List.mem_singleton] at hr
  rw [hr]
  have hm := (List.mem_filter.1 hq).2
  intro e
  have : p.like q = true := (like_iff _ _).2 e.symm
  rw [this] at hm
  cases hm
theorem putP_mem {b : List Pas} {p x : Pas} (h : x ∈ putP b p) : x ∈ b ∨ x = p := by
  unfold putP at h
  rcases List.mem_append.1 h with g | g
  · exact Or.inl (List.mem_filter.1 g).1
  · exact Or.inr (by simpa using g)
theorem puts_uniq : ∀ (l : List Pas) (b : List Pas), Uniq b → Uniq (l.foldl putP b)
  | [], _, h => h
  | p :: l, _, h => puts_uniq l _ (putP_uniq p h)
theorem puts_mem : ∀ (l : List Pas) (b : List Pas) (x : Pas), x ∈ l.foldl putP b → x ∈ b ∨ x ∈ l
  | [], _, _, h => Or.inl h
  | p :: l, b, x, h => by
    rcases puts_mem l (putP b p) x h with g | g
    · rcases putP_mem g with g | g
      · exact Or.inl g
      · exact Or.inr (by rw [g]; exact List.mem_cons_self ..)
    · exact Or.inr (List.mem_cons_of_mem _ g)
theorem bookPut_uniq {b : List Pas} (l : List Pas) (now : Int) (h : Uniq b) : Uniq (bookPut b l now) :=
  ((puts_uniq l b h).filter _).sublist (List.drop_sublist _ _)
theorem bookPut_mem {b l : List Pas} {now : Int} {x : Pas} (h : x ∈ bookPut b l now) : now < x.til ∧ (x ∈ b ∨ x ∈ l) := by
  have h := List.mem_of_mem_drop h
  obtain ⟨h1, h2⟩ := List.mem_filter.1 h
  exact ⟨by unfold Pas.alive at h2; simpa using h2, puts_mem _ _ _ h1⟩
theorem bookPut_len (b l : List Pas) (now : Int) : (bookPut b l now).length ≤ 32 := by
  unfold bookPut
  simp only [List.length_drop]
  omega
theorem putP_len (b : List Pas) (p : Pas) : (putP b p).length ≤ b.length + 1 := by
  unfold putP
  have := List.length_filter_le (fun q => !p.like q) b
  simp; omega
theorem puts_len : ∀ (l : List Pas) (b : List Pas), (l.foldl putP b).length ≤ b.length + l.length
  | [], b => by simp
  | p :: l, b => by
    have h1 := puts_len l (putP b p)
    have h2 := putP_len b p
    simp only [List.foldl_cons, List.length_cons]
    omega
theorem mine_early {r : ReqL} {s t : Int} {p : Pas} (h : s ≤ t) (hm : r.mine t p = true) : r.mine s p = true := by
  unfold ReqL.mine Pas.alive at hm ⊢
  simp only [Bool.and_eq_true, decide_eq_true_eq] at hm ⊢
  exact ⟨by omega, hm.2⟩
theorem for_early {b : List Pas} {r : ReqL} {s t : Int} (h : s ≤ t) {p : Pas} (hp : p ∈ bookFor b r t) : p ∈ bookFor b r s := by
  unfold bookFor at hp ⊢
  obtain ⟨h1, h2⟩ := List.mem_filter.1 hp
  exact List.mem_filter.2 ⟨h1, mine_early h h2⟩
theorem for_last {b : List Pas} {r : ReqL} {t : Int} (h : ∀ p ∈ b, p.til ≤ t) : bookFor b r t = [] := by
  unfold bookFor
  rw [List.filter_eq_nil_iff]
  intro p hp hm
  have := h p hp
  unfold ReqL.mine Pas.alive at hm
  simp only [Bool.and_eq_true, decide_eq_true_eq] at hm
  omega
theorem covers_early {b : List Pas} {r : ReqL} {s t : Int} (h : s ≤ t) (hc : bookCovers b r t = true) : bookCovers b r s = true := by
  unfold bookCovers at hc ⊢
  cases hn : r.needs
  · rfl
  · rw [hn] at hc
    simp only [Bool.not_true, Bool.false_or] at hc ⊢
    unfold ReqL.covers at hc ⊢
    exact coversB_more hc (fun p hp => for_early h hp) (fun x hx => hx)
theorem covers_last {b : List Pas} {r : ReqL} {t : Int} (h : ∀ p ∈ b, p.til ≤ t) : bookCovers b r t = !r.needs := by
  unfold bookCovers
  rw [for_last h]
  cases hn : r.needs
  · rfl
  · unfold ReqL.needs at hn
    simp only [Bool.and_eq_true, Bool.not_eq_true'] at hn
    rw [hn.2]; rfl

end Go.Proofs.YtkoobhgedoanhaaGreatDoor

namespace Go.Proofs.YtkoobhgedoanhaaGreatDoor
open Go.RowKit

/-! ### fields -/
def endCR (l : Bs) : Bs := if l.getLast? = some 13 then l.dropLast else l
def trimB (l : Bs) : Bs := Lib.trimS l [32, 9]
/-- a line: none: it can't be; nothing in it; or a field -/
def lineR (l : Bs) : Option (Option Par) :=
  if (endCR l).isEmpty then some none
  else if !(cutL 58 (endCR l)).2.2 || !isL (cutL 58 (endCR l)).1 then none
  else some (some ((cutL 58 (endCR l)).1, trimB (cutL 58 (endCR l)).2.1))
def fieldsN : List Bs → List Par → Except Nat (List Par)
  | [], acc => .ok acc
  | l :: ls, acc =>
    match lineR l with
    | none => .error 3
    | some none => fieldsN ls acc
    | some (some p) => if acc.length = 40 then .error 4 else fieldsN ls (acc ++ [p])
/-- cors.Fields -/
def fieldsL (s : Bs) : Except Nat (List Par) := if 3000 < s.length then .error 4 else fieldsN (splitL 10 s) []
theorem fieldsN_app : ∀ (ls ms : List Bs) (acc out : List Par), fieldsN ls acc = .ok out → fieldsN (ls ++ ms) acc = fieldsN ms out
  | [], ms, acc, out, h => by rw [fieldsN] at h; cases h; rfl
  | l :: ls, ms, acc, out, h => by
    rw [List.cons_append, fieldsN]
    rw [fieldsN] at h
    cases hl : lineR l with
    | none => rw [hl] at h; cases h
    | some q =>
      rw [hl] at h
      cases q with
      | none => exact fieldsN_app ls ms acc out h
      | some p =>
        simp only at h ⊢
        split at h
        · cases h
        · rename_i hn
          rw [if_neg hn]
          exact fieldsN_app ls ms _ out h
theorem fieldsN_on : ∀ (ls : List Bs) (acc pre out : List Par), fieldsN ls acc = .ok out → pre.length + out.length ≤ 40 → fieldsN ls (pre ++ acc) = .ok (pre ++ out)
  | [], acc, pre, out, h, _ => by rw [fieldsN] at h ⊢; cases h; rfl
  | l :: ls, acc, pre, out, h, hn => by
    rw [fieldsN] at h ⊢
    cases hl : lineR l with
    | none => rw [hl] at h; cases h
    | some q =>
      rw [hl] at h
      cases q with
      | none => exact fieldsN_on ls acc pre out h hn
      | some p =>
        simp only at h ⊢
        split at h
        · cases h
        · have hle := fieldsN_grow ls (acc ++ [p]) out h
          rw [if_neg (by simp at hle ⊢; omega), List.append_assoc]
          exact fieldsN_on ls (acc ++ [p]) pre out h hn
where
  fieldsN_grow : ∀ (ls : List Bs) (acc out : List Par), fieldsN ls acc = .ok out → acc.length ≤ out.length
    | [], acc, out, h => by rw [fieldsN] at h; cases h; exact Nat.le_refl _
    | l :: ls, acc, out, h => by
      rw [fieldsN] at h
      cases hl : lineR l with
      | none => rw [hl] at h; cases h
      | some q =>
        rw [hl] at h
        cases q with
        | none => exact fieldsN_grow ls acc out h
        | some p =>
          simp only at h
          split at h
          · cases h
          · have := fieldsN_grow ls _ out h
            simp at this; omega
theorem splitL_two (c : UInt8) : ∀ (a b : Bs), splitL c (a ++ c :: b) = splitL c a ++ splitL c b
  | [], b => by rw [List.nil_append, splitL_hit]; rfl
  | x :: a, b => by
    by_cases hx : x = c
    · subst hx
      rw [List.cons_append, splitL_hit, splitL_hit, splitL_two x a b]; rfl
    · have ih := splitL_two c a b
      cases e : splitL c a with
      | nil => exact absurd e (splitL_ne c a)
      | cons p ps =>
        rw [e] at ih
        rw [List.cons_append, splitL_step hx ih, splitL_step hx e]; rfl
/-- line behind line -/
theorem fields_two {a b : Bs} {x y : List Par} (ha : fieldsL a = .ok x) (hb : fieldsL b = .ok y) (hl : a.length + b.length < 3000) (hn : x.length + y.length ≤ 40) : fieldsL (a ++ 10 :: b) = .ok (x ++ y) := by
  unfold fieldsL at ha hb ⊢
  rw [if_neg (by omega)] at ha hb
  rw [if_neg (by simp; omega), splitL_two, fieldsN_app _ _ _ _ ha]
  have := fieldsN_on _ [] x y hb hn
  rw [List.append_nil] at this
  exact this
/-- all values of a field -/
def allP (ps : List Par) (n : Bs) : List Bs := (ps.filter fun p => sameL p.1 n).map (·.2)
/-- cors.Get -/
def fieldT (ps : List Par) (n : Bs) : Bs := Lib.join (allP ps n) [44, 32]
def fieldB (ps : List Par) (n : Bs) : Bool := !(allP ps n).isEmpty
theorem allP_app (x y : List Par) (n : Bs) : allP (x ++ y) n = allP x n ++ allP y n := by unfold allP; simp [List.filter_append]
theorem join_cc (x y : Bs) (l : List Bs) (sep : Bs) : Lib.join (x :: y :: l) sep = x ++ (sep ++ Lib.join (y :: l) sep) := by
  simp [Lib.join, List.intercalate]
theorem join_two : ∀ (a b : List Bs) (sep : Bs), a ≠ [] → b ≠ [] → Lib.join (a ++ b) sep = Lib.join a sep ++ sep ++ Lib.join b sep
  | [], b, sep, h, _ => absurd rfl h
  | [x], b, sep, _, hb => by
    cases b with
    | nil => exact absurd rfl hb
    | cons y ys =>
      show Lib.join (x :: y :: ys) sep = _
      rw [join_cc]; simp [Lib.join, List.intercalate]
  | x :: y :: l, b, sep, _, hb => by
    have ih := join_two (y :: l) b sep (by simp) hb
    simp only [List.cons_append] at ih ⊢
    rw [join_cc, ih, join_cc]
    simp
theorem field_two (x y : List Par) (n : Bs) : fieldB (x ++ y) n = (fieldB x n || fieldB y n) ∧ fieldT (x ++ y) n = (if fieldB x n && fieldB y n then fieldT x n ++ [44, 32] ++ fieldT y n else fieldT x n ++ fieldT y n) := by
  unfold fieldB fieldT
  rw [allP_app]
  cases hx : allP x n with
  | nil => simp [Lib.join]
  | cons a l =>
    cases hy : allP y n with
    | nil => simp [Lib.join]
    | cons b m =>
      refine ⟨by simp, ?_⟩
      rw [join_two _ _ _ (by simp) (by simp)]
      simp

/-! ### May, Age, words -/
def nOrigin : Bs := [65, 99, 99, 101, 115, 115, 45, 67, 111, 110, 116, 114, 111, 108, 45, 65, 108, 108, 111, 119, 45, 79, 114, 105, 103, 105, 110]
def nCred : Bs := [65, 99, 99, 101, 115, 115, 45, 67, 111, 110, 116, 114, 111, 108, 45, 65, 108, 108, 111, 119, 45, 67, 114, 101, 100, 101, 110, 116, 105, 97, 108, 115]
def nMeth : Bs := [65, 99, 99, 101, 115, 115, 45, 67, 111, 110, 116, 114, 111, 108, 45, 65, 108, 108, 111, 119, 45, 77, 101, 116, 104, 111, 100, 115]
def nHeads : Bs := [65, 99, 99, 101, 115, 115, 45, 67, 111, 110, 116, 114, 111, 108, 45, 65, 108, 108, 111, 119, 45, 72, 101, 97, 100, 101, 114, 115]
def nAge : Bs := [65, 99, 99, 101, 115, 115, 45, 67, 111, 110, 116, 114, 111, 108, 45, 77, 97, 120, 45, 65, 103, 101]
/-- cors.May, the origin's text at hand -/
def mayB (t : Bs) (wth : Bool) (ps : List Par) : Bool :=
  if !fieldB ps nOrigin then false
  else if (fieldT ps nOrigin == [42]) && !wth then true
  else if fieldT ps nOrigin != t then false
  else !wth || (fieldT ps nCred == nTrue)
/-- cors.Age -/
def ageI (ps : List Par) : Int := if fieldB ps nAge then (if digitsB (fieldT ps nAge) then min (secL (fieldT ps nAge)) 600 else 5) else 5
theorem ageI_range (ps : List Par) : 0 ≤ ageI ps ∧ ageI ps ≤ 600 ∧ (fieldB ps nAge = true ∨ ageI ps = 5) := by
  unfold ageI
  split
  · rename_i h
    split
    · rename_i hd
      unfold digitsB at hd
      simp only [Bool.and_eq_true] at hd
      have := secL_range (fieldT ps nAge) 0 hd.2 (by decide) (by decide)
      unfold secL
      exact ⟨by omega, by omega, Or.inl h⟩
    · exact ⟨by decide, by decide, Or.inl h⟩
  · exact ⟨by decide, by decide, Or.inr rfl⟩
/-- the words of a field -/
def wordsP (ps : List Par) (n : Bs) : Option (List Bs) :=
  match listAll (fieldT ps n) with
  | .error _ => none
  | .ok l => if 40 < l.length then none else some l
theorem wordsP_is {ps : List Par} {n : Bs} {l : List Bs} (h : wordsP ps n = some l) : ∀ w ∈ l, isL w = true := by
  unfold wordsP at h
  cases hl : listAll (fieldT ps n) with
  | error e => rw [hl] at h; cases h
  | ok m =>
    rw [hl] at h
    simp only at h
    split at h
    · cases h
    · cases h; exact listN_words _ _ _ hl
theorem may_names (ps : List Par) (a b : Bs) (h : lowL a = lowL b) : allP ps a = allP ps b := by
  unfold allP sameL; rw [h]
theorem may_with (t : Bs) (ps : List Par) (ht : t ≠ [42]) (h : mayB t true ps = true) : mayB t false ps = true ∧ fieldT ps nOrigin ≠ [42] := by
  unfold mayB at h ⊢
  split at h
  · cases h
  rename_i h1
  rw [if_neg h1]
  simp only [Bool.not_true, Bool.and_false, Bool.false_eq_true, if_false, Bool.not_false, Bool.and_true, Bool.true_or] at h ⊢
  split at h
  · cases h
  rename_i h2
  have e : fieldT ps nOrigin = t := by simpa using h2
  rw [e]
  refine ⟨?_, ht⟩
  split
  · rfl
  · simp
theorem may_any (t : Bs) (ps : List Par) (h : fieldT ps nOrigin = [42]) : mayB t false ps = true := by
  have hb : fieldB ps nOrigin = true := by
    unfold fieldB
    unfold fieldT at h
    cases e : allP ps nOrigin with
    | nil => rw [e] at h; simp [Lib.join] at h
    | cons a l => rfl
  unfold mayB
  rw [hb, h]; rfl

/-- the passes of an answer, each once -/
def addP (ps : List Pas) (p : Pas) : List Pas := if ps.any (fun q => q.eqB p) then ps else ps ++ [p]
def ReqL.pas (r : ReqL) (til : Int) (m h : ByteArray) : Pas := ⟨r.frm, r.o, r.path, r.query, r.wth, m, h, til⟩
def ReqL.methods (r : ReqL) (ms : List Bs) : List ByteArray := if ms.isEmpty then [methodB r.method] else ms.map bA
def ReqL.grants (r : ReqL) (til : Int) (ms hs : List Bs) : List Pas :=
  (hs.map fun h => r.pas til (bA []) (bA (lowL h))).foldl addP ((r.methods ms |>.map fun m => r.pas til m (bA [])).foldl addP [])
/-- cors.Grant -/
def grantL (r : ReqL) (t : Bs) (ps : List Par) (now : Int) : Except Nat (List Pas) :=
  match wordsP ps nMeth, wordsP ps nHeads with
  | some ms, some hs =>
    if !mayB t r.wth ps then .error 6
    else if !r.covers (r.grants (now + ageI ps) ms hs) then .error 6
    else .ok (r.grants (now + ageI ps) ms hs)
  | _, _ => .error 3
theorem addP_mem {ps : List Pas} {p x : Pas} (h : x ∈ addP ps p) : x ∈ ps ∨ x = p := by
  unfold addP at h
  split at h
  · exact Or.inl h
  · rcases List.mem_append.1 h with g | g
    · exact Or.inl g
    · exact Or.inr (by simpa using g)
theorem foldP_mem : ∀ (l : List Pas) (ps : List Pas) (x : Pas), x ∈ l.foldl addP ps → x ∈ ps ∨ x ∈ l
  | [], ps, x, h => Or.inl h
  | p :: l, ps, x, h => by
    rcases foldP_mem l (addP ps p) x h with g | g
    · rcases addP_mem g with g | g
      · exact Or.inl g
      · exact Or.inr (by rw [g]; exact List.mem_cons_self ..)
    · exact Or.inr (List.mem_cons_of_mem _ g)
theorem grants_mem {r : ReqL} {til : Int} {ms hs : List Bs} {x : Pas} (h : x ∈ r.grants til ms hs) : (∃ m ∈ r.methods ms, x = r.pas til m (bA [])) ∨ (∃ g ∈ hs, x = r.pas til (bA []) (bA (lowL g))) := by
  unfold ReqL.grants at h
  rcases foldP_mem _ _ _ h with g | g
  · rcases foldP_mem _ _ _ g with g | g
    · cases g
    · obtain ⟨m, hm, rfl⟩ := List.mem_map.1 g
      exact Or.inl ⟨m, hm, rfl⟩
  · obtain ⟨m, hm, rfl⟩ := List.mem_map.1 g
    exact Or.inr ⟨m, hm, rfl⟩

/-! ### what an answer grants -/
theorem methodsB_pos : ∀ m ∈ methodsB, 0 < m.size := by decide
theorem methodB_pos {s : ByteArray} (h : 0 < s.size) : 0 < (methodB s).size := by
  unfold methodB
  rcases methodGo_mem methodsB s with ⟨hm, _⟩ | he
  · exact methodsB_pos _ hm
  · rw [he]; exact h
theorem bA_lenC (l : Bs) : (bA l).size = l.length := by unfold bA; simp [ByteArray.size]
theorem isL_pos {l : Bs} (h : isL l = true) : 0 < l.length := by
  unfold isL at h
  cases l with
  | nil => simp at h
  | cons a l => simp
theorem grant_law {r : ReqL} {t : Bs} {ps : List Par} {now : Int} {out : List Pas} (h : grantL r t ps now = .ok out) (hm : 0 < r.method.size) :
    (∀ x ∈ out, (x.frm = r.frm ∧ x.o = r.o ∧ x.path = r.path ∧ x.query = r.query ∧ x.wth = r.wth ∧ x.til = now + ageI ps) ∧ ((x.method.size = 0 ∧ 0 < x.head.size) ∨ (0 < x.method.size ∧ x.head.size = 0))) ∧ mayB t r.wth ps = true ∧ r.covers out = true := by
  unfold grantL at h
  cases e1 : wordsP ps nMeth with
  | none => rw [e1] at h; cases h
  | some ms =>
    cases e2 : wordsP ps nHeads with
    | none => rw [e1, e2] at h; cases h
    | some hs =>
      rw [e1, e2] at h
      simp only at h
      split at h
      · cases h
      rename_i h1
      split at h
      · cases h
      rename_i h2
      cases h
      refine ⟨?_, by simpa using h1, by simpa using h2⟩
      intro x hx
      rcases grants_mem hx with ⟨m, hmm, rfl⟩ | ⟨g, hg, rfl⟩
      · refine ⟨⟨rfl, rfl, rfl, rfl, rfl, rfl⟩, Or.inr ⟨?_, rfl⟩⟩
        show 0 < m.size
        unfold ReqL.methods at hmm
        split at hmm
        · rw [List.mem_singleton] at hmm
          rw [hmm]; exact methodB_pos hm
        · obtain ⟨l, hl, rfl⟩ := List.mem_map.1 hmm
          rw [bA_lenC]
          exact isL_pos (wordsP_is e1 l hl)
      · refine ⟨⟨rfl, rfl, rfl, rfl, rfl, rfl⟩, Or.inl ⟨rfl, ?_⟩⟩
        show 0 < (bA (lowL g)).size
        rw [bA_lenC, show (lowL g).length = g.length from by unfold lowL; simp]
        exact isL_pos (wordsP_is e2 g hg)
end Go.Proofs.YtkoobhgedoanhaaGreatDoor
