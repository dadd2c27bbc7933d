/- Passes and books of passes: plain forms and laws. No program in sight. -/
import Derived.Test.YtkoobhgedoanhaaDoorTypes
import Derived.Test.YtkoobhgedoanhaaDoorAskedLaw
namespace Go.Proofs.YtkoobhgedoanhaaDoor
open Go.RowKit

/-! ### passes -/
/-- a pass -/
structure Pas where
  frm : Ori
  o : Ori
  path : ByteArray
  query : ByteArray
  wth : Bool
  method : ByteArray
  head : ByteArray
  til : Int
def Pas.cells (p : Pas) : List Value := [.bool p.frm.secure, .string p.frm.host, .int .i64 p.frm.port, .bool p.o.secure, .string p.o.host, .int .i64 p.o.port, .string p.path, .string p.query, .bool p.wth, .string p.method, .string p.head, .int .i64 p.til]
theorem Pas.cells_len (p : Pas) : p.cells.length = 12 := rfl
theorem Pas.cells_inj {p q : Pas} (h : p.cells = q.cells) : p = q := by
  obtain ⟨⟨a, b, c⟩, ⟨d, e, f⟩, g, i, j, k, l, m⟩ := p
  obtain ⟨⟨a', b', c'⟩, ⟨d', e', f'⟩, g', i', j', k', l', m'⟩ := q
  simp only [Pas.cells, List.cons.injEq, Value.bool.injEq, Value.string.injEq, Value.int.injEq, true_and, and_true] at h
  obtain ⟨rfl, rfl, rfl, rfl, rfl, rfl, rfl, rfl, rfl, rfl, rfl, rfl⟩ := h
  rfl
/-- Go's == of two passes -/
def Pas.eqB (p q : Pas) : Bool := p.frm.eqB q.frm && (p.o.eqB q.o && (p.path.toList == q.path.toList && (p.query.toList == q.query.toList && (p.wth == q.wth && (p.method.toList == q.method.toList && (p.head.toList == q.head.toList && p.til == q.til))))))
theorem Pas.eqB_iff (p q : Pas) : p.eqB q = true ↔ p = q := by
  obtain ⟨a, d, g, i, j, k, l, m⟩ := p
  obtain ⟨a', d', g', i', j', k', l', m'⟩ := q
  simp only [Pas.eqB, Bool.and_eq_true, beq_iff_eq, Pas.mk.injEq, toList_inj, Ori.eqB_iff]
def star : List UInt8 := [42]
def authz : List UInt8 := [97, 117, 116, 104, 111, 114, 105, 122, 97, 116, 105, 111, 110]
/-- a pass allows a method; a header -/
def Pas.lets (m : ByteArray) (wth : Bool) (p : Pas) : Bool := p.method.toList == m.toList || (p.method.toList == star && !wth)
def Pas.letsH (h : ByteArray) (wth : Bool) (p : Pas) : Bool := p.head.toList == h.toList || (p.head.toList == star && (!wth && h.toList != authz))
/-- cors.Covers -/
def coversB (m : ByteArray) (wth : Bool) (heads : List ByteArray) (ps : List Pas) : Bool :=
  (simpleB m || ps.any (Pas.lets m wth)) && heads.all fun h => ps.any (Pas.letsH h wth)
theorem coversB_more {m : ByteArray} {wth : Bool} {hs gs : List ByteArray} {ps qs : List Pas} (h : coversB m wth hs ps = true) (hp : ∀ p ∈ ps, p ∈ qs) (hh : ∀ x ∈ gs, x ∈ hs) : coversB m wth gs qs = true := by
  unfold coversB at h ⊢
  simp only [Bool.and_eq_true, Bool.or_eq_true, List.all_eq_true, List.any_eq_true] at h ⊢
  refine ⟨?_, fun x hx => ?_⟩
  · rcases h.1 with h | ⟨p, hq, h⟩
    · exact Or.inl h
    · exact Or.inr ⟨p, hp p hq, h⟩
  · obtain ⟨p, hq, e⟩ := h.2 x (hh x hx)
    exact ⟨p, hp p hq, e⟩
theorem rawB_tail (p : Prm) (ps : List Prm) : ∀ x ∈ rawB ps, x ∈ rawB (p :: ps) := by
  intro x hx
  have h1 : ∀ x ∈ outB ps, x ∈ outB (p :: ps) := by
    intro x hx
    unfold outB at hx ⊢
    obtain ⟨q, hq, rfl⟩ := List.mem_map.1 hx
    have := List.mem_filter.1 hq
    exact List.mem_map.2 ⟨q, List.mem_filter.2 ⟨List.mem_cons_of_mem _ this.1, this.2⟩, rfl⟩
  have h2 : ∀ x ∈ plB ps, x ∈ plB (p :: ps) := by
    intro x hx
    unfold plB at hx ⊢
    obtain ⟨q, hq, rfl⟩ := List.mem_map.1 hx
    have := List.mem_filter.1 hq
    exact List.mem_map.2 ⟨q, List.mem_filter.2 ⟨List.mem_cons_of_mem _ this.1, this.2⟩, rfl⟩
  have h3 : nB ps ≤ nB (p :: ps) := by
    unfold nB
    rw [List.filter_cons]
    split
    · simp
    · exact Nat.le_refl _
  unfold rawB at hx ⊢
  rcases List.mem_append.1 hx with h | h
  · exact List.mem_append_left _ (h1 x h)
  · refine List.mem_append_right _ ?_
    split at h
    · rename_i hn
      rw [if_pos (by omega)]
      exact h2 x h
    · cases h
theorem askedB_tail (p : Prm) (ps : List Prm) : ∀ x ∈ askedB ps, x ∈ askedB (p :: ps) := fun x hx => (askedB_mem _ _).2 (rawB_tail p ps x ((askedB_mem _ _).1 hx))

/-- a request, as far as it is asked for -/
structure ReqL where
  frm : Ori
  o : Ori
  path : ByteArray
  query : ByteArray
  method : ByteArray
  heads : List Prm
  wth : Bool
def ReqL.covers (r : ReqL) (ps : List Pas) : Bool := coversB (methodB r.method) r.wth (askedB r.heads) ps
def ReqL.needs (r : ReqL) : Bool := !r.frm.eqB r.o && !r.covers []
/-! ### books -/
def Pas.like (p q : Pas) : Bool := ({ p with til := q.til } : Pas).eqB q
def Pas.alive (now : Int) (p : Pas) : Bool := decide (now < p.til)
def putP (b : List Pas) (p : Pas) : List Pas := (b.filter fun q => !p.like q) ++ [p]
/-- pass.Put -/
def bookPut (b l : List Pas) (now : Int) : List Pas :=
  let c := (l.foldl putP b).filter (Pas.alive now)
  c.drop (c.length - 32)
def ReqL.mine (r : ReqL) (now : Int) (p : Pas) : Bool := p.alive now && (p.frm.eqB r.frm && ((p.o.eqB r.o && (p.path.toList == r.path.toList && p.query.toList == r.query.toList)) && (p.wth || !r.wth)))
/-- pass.For -/
def bookFor (b : List Pas) (r : ReqL) (now : Int) : List Pas := b.filter (r.mine now)
/-- pass.Covers -/
def bookCovers (b : List Pas) (r : ReqL) (now : Int) : Bool := !r.needs || r.covers (bookFor b r now)
/-- what a pass is for -/
def Pas.key (p : Pas) : Pas := { p with til := 0 }
theorem like_iff (p q : Pas) : p.like q = true ↔ p.key = q.key := by
  unfold Pas.like Pas.key
  rw [Pas.eqB_iff]
  obtain ⟨a, d, g, i, j, k, l, m⟩ := p
  obtain ⟨a', d', g', i', j', k', l', m'⟩ := q
  simp only [Pas.mk.injEq, and_true]
/-- each once -/
def Uniq (l : List Pas) : Prop := l.Pairwise fun p q => p.key ≠ q.key
theorem putP_uniq {b : List Pas} (p : Pas) (h : Uniq b) : Uniq (putP b p) := by
  unfold putP Uniq
  rw [List.pairwise_append]
  refine ⟨List.Pairwise.filter _ h, List.pairwise_singleton _ _, ?_⟩
  intro q hq r hr
  rw [List.mem_singleton] at hr
  rw [hr]
  have hm := (List.mem_filter.1 hq).2
  intro e
  have : p.like q = true := (like_iff _ _).2 e.symm
  rw [this] at hm
  cases hm
theorem putP_mem {b : List Pas} {p x : Pas} (h : x ∈ putP b p) : x ∈ b ∨ x = p := by
  unfold putP at h
  rcases List.mem_append.1 h with g | g
  · exact Or.inl (List.mem_filter.1 g).1
  · exact Or.inr (by simpa using g)
theorem puts_uniq : ∀ (l : List Pas) (b : List Pas), Uniq b → Uniq (l.foldl putP b)
  | [], _, h => h
  | p :: l, _, h => puts_uniq l _ (putP_uniq p h)
theorem puts_mem : ∀ (l : List Pas) (b : List Pas) (x : Pas), x ∈ l.foldl putP b → x ∈ b ∨ x ∈ l
  | [], _, _, h => Or.inl h
  | p :: l, b, x, h => by
    rcases puts_mem l (putP b p) x h with g | g
    · rcases putP_mem g with g | g
      · exact Or.inl g
      · exact Or.inr (by rw [g]; exact List.mem_cons_self ..)
    · exact Or.inr (List.mem_cons_of_mem _ g)
theorem bookPut_uniq {b : List Pas} (l : List Pas) (now : Int) (h : Uniq b) : Uniq (bookPut b l now) :=
  ((puts_uniq l b h).filter _).sublist (List.drop_sublist _ _)
theorem bookPut_mem {b l : List Pas} {now : Int} {x : Pas} (h : x ∈ bookPut b l now) : now < x.til ∧ (x ∈ b ∨ x ∈ l) := by
  have h := List.mem_of_mem_drop h
  obtain ⟨h1, h2⟩ := List.mem_filter.1 h
  exact ⟨by unfold Pas.alive at h2; simpa using h2, puts_mem _ _ _ h1⟩
theorem bookPut_len (b l : List Pas) (now : Int) : (bookPut b l now).length ≤ 32 := by
  unfold bookPut
  simp only [List.length_drop]
  omega
theorem putP_len (b : List Pas) (p : Pas) : (putP b p).length ≤ b.length + 1 := by
  unfold putP
  have := List.length_filter_le (fun q => !p.like q) b
  simp; omega
theorem puts_len : ∀ (l : List Pas) (b : List Pas), (l.foldl putP b).length ≤ b.length + l.length
  | [], b => by simp
  | p :: l, b => by
    have h1 := puts_len l (putP b p)
    have h2 := putP_len b p
    simp only [List.foldl_cons, List.length_cons]
    omega
theorem mine_early {r : ReqL} {s t : Int} {p : Pas} (h : s ≤ t) (hm : r.mine t p = true) : r.mine s p = true := by
  unfold ReqL.mine Pas.alive at hm ⊢
  simp only [Bool.and_eq_true, decide_eq_true_eq] at hm ⊢
  exact ⟨by omega, hm.2⟩
theorem for_early {b : List Pas} {r : ReqL} {s t : Int} (h : s ≤ t) {p : Pas} (hp : p ∈ bookFor b r t) : p ∈ bookFor b r s := by
  unfold bookFor at hp ⊢
  obtain ⟨h1, h2⟩ := List.mem_filter.1 hp
  exact List.mem_filter.2 ⟨h1, mine_early h h2⟩
theorem for_last {b : List Pas} {r : ReqL} {t : Int} (h : ∀ p ∈ b, p.til ≤ t) : bookFor b r t = [] := by
  unfold bookFor
  rw [List.filter_eq_nil_iff]
  intro p hp hm
  have := h p hp
  unfold ReqL.mine Pas.alive at hm
  simp only [Bool.and_eq_true, decide_eq_true_eq] at hm
  omega
theorem covers_early {b : List Pas} {r : ReqL} {s t : Int} (h : s ≤ t) (hc : bookCovers b r t = true) : bookCovers b r s = true := by
  unfold bookCovers at hc ⊢
  cases hn : r.needs
  · rfl
  · rw [hn] at hc
    simp only [Bool.not_true, Bool.false_or] at hc ⊢
    unfold ReqL.covers at hc ⊢
    exact coversB_more hc (fun p hp => for_early h hp) (fun x hx => hx)
theorem covers_last {b : List Pas} {r : ReqL} {t : Int} (h : ∀ p ∈ b, p.til ≤ t) : bookCovers b r t = !r.needs := by
  unfold bookCovers
  rw [for_last h]
  cases hn : r.needs
  · rfl
  · unfold ReqL.needs at hn
    simp only [Bool.and_eq_true, Bool.not_eq_true'] at hn
    rw [hn.2]; rfl

end Go.Proofs.YtkoobhgedoanhaaDoor
