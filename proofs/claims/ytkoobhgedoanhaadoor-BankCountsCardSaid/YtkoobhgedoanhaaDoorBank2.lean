/- The package bank: what lies in memory; find. -/
import Derived.Test.YtkoobhgedoanhaaDoorBank1
import Derived.Test.YtkoobhgedoanhaaDoorStill
namespace Go.Proofs.YtkoobhgedoanhaaDoor
open Go.RowKit

theorem cells_len16 (g : GrantOf Value) : g.cells.length = 16 := rfl
/-- v holds, in rows of the call's own, the grants gs -/
def GrantsIn (base : Nat) (w : World) (v : Value) (gs : List (GrantOf Texts)) : Prop :=
  ∃ rs : List (GrantOf Value), OwnRows base 34 16 w v (rs.map GrantOf.cells) ∧ Both (GrantOf.Reads (StrsIn base w)) rs gs
theorem GrantsIn.fr {base : Nat} {w w' : World} {v : Value} {gs : List (GrantOf Texts)} {S : Nat → Prop} (h : GrantsIn base w v gs) (hf : Fr S w w') (ho : Off base w S) (hn : ∀ k, v.ownBlock = some k → ¬ S k) : GrantsIn base w' v gs := by
  obtain ⟨rs, h1, h2⟩ := h
  exact ⟨rs, h1.fr hf hn, h2.mono (fun _ _ h => h.mono (fun _ _ h => h.fr hf ho))⟩
theorem GrantsIn.form {base : Nat} {w : World} {v : Value} {gs : List (GrantOf Texts)} (h : GrantsIn base w v gs) : ∃ a c, v = .slice a gs.length c := by
  obtain ⟨rs, h1, h2⟩ := h
  obtain ⟨a, c, hv⟩ := h1.form
  exact ⟨a, c, by rw [hv, List.length_map, h2.len]⟩
/-- grants read: element k as a load takes it -/
def GrantAt (base : Nat) (w : World) (b : Nat) (o : Nat) (g : GrantOf Texts) : Prop :=
  ∃ r : GrantOf Value, (∀ u ∈ r.cells, u.oneCell' = true) ∧ r.Reads (StrsIn base w) g ∧ ∀ (i : Nat) u, r.cells[i]? = some u → w.cell? ⟨b, o + i, none⟩ = some u
theorem GrantsIn.at {base : Nat} {w : World} {v : Value} {gs : List (GrantOf Texts)} (h : GrantsIn base w v gs) {k : Nat} (hk : k < gs.length) :
    ∃ b c, v = .slice (some ⟨b, 0, none⟩) gs.length c ∧ gs.length ≤ maxLen ∧ GrantAt base w b (k * 16) gs[k] := by
  obtain ⟨rs, h1, h2⟩ := h
  have hl := h2.len
  obtain ⟨x, hx⟩ : ∃ x, rs[k]? = some x := ⟨_, List.getElem?_eq_getElem (by omega)⟩
  obtain ⟨g, hg, hr⟩ := h2.get hx
  rw [List.getElem?_eq_getElem hk] at hg
  obtain rfl := Option.some.inj hg
  have hat := h1.at
  rcases h1.2.2 with ⟨_, hn⟩ | ⟨bk, cap, cur, hv, _⟩
  · rw [List.length_map] at hn; omega
  rcases hat.2 with ⟨_, _, e1, e, _⟩ | ⟨bk', o, c, hv', q1, q2, q3, q4⟩
  · simp at e; rw [e] at hl; simp at hl; omega
  · rw [hv] at hv'
    cases hv'
    rw [List.length_map] at q1
    refine ⟨bk, cap, by rw [hv, List.length_map, hl], by omega, x, (h1.1 x.cells (List.mem_map.2 ⟨x, List.mem_of_getElem? hx, rfl⟩)).2, hr, ?_⟩
    intro i u hu
    have := q4 k x.cells (by rw [List.getElem?_map, hx]; rfl) i u hu
    rw [Nat.zero_add] at this
    exact this

/-- the wait's cells -/
structure WaitOf (D : Type) where
  o : Ori
  proxy : Bool
  path : ByteArray
  a : AskOf D
def WaitOf.cells (g : WaitOf Value) : List Value :=
  [.bool g.o.secure, .string g.o.host, .int .i64 g.o.port, .bool g.proxy, .string g.path,
   .int .i64 g.a.scheme, .string g.a.realm, .string g.a.nonce, .string g.a.opaq, .bool g.a.sess, .string g.a.qop, .bool g.a.stale, g.a.dom]
def WaitOf.Reads (R : Value → List ByteArray → Prop) (r : WaitOf Value) (g : WaitOf (List ByteArray)) : Prop :=
  r.o = g.o ∧ r.proxy = g.proxy ∧ r.path = g.path ∧ r.a.Reads R g.a
theorem WaitOf.Reads.mono {R S : Value → List ByteArray → Prop} {r : WaitOf Value} {g : WaitOf (List ByteArray)} (h : r.Reads R g) (hs : ∀ v l, R v l → S v l) : r.Reads S g :=
  ⟨h.1, h.2.1, h.2.2.1, h.2.2.2.mono hs⟩
def WaitsIn (base : Nat) (w : World) (v : Value) (gs : List (WaitOf Texts)) : Prop :=
  ∃ rs : List (WaitOf Value), OwnRows base 215 13 w v (rs.map WaitOf.cells) ∧ Both (WaitOf.Reads (StrsIn base w)) rs gs
theorem WaitsIn.fr {base : Nat} {w w' : World} {v : Value} {gs : List (WaitOf Texts)} {S : Nat → Prop} (h : WaitsIn base w v gs) (hf : Fr S w w') (ho : Off base w S) (hn : ∀ k, v.ownBlock = some k → ¬ S k) : WaitsIn base w' v gs := by
  obtain ⟨rs, h1, h2⟩ := h
  exact ⟨rs, h1.fr hf hn, h2.mono (fun _ _ h => h.mono (fun _ _ h => h.fr hf ho))⟩
theorem WaitsIn.form {base : Nat} {w : World} {v : Value} {gs : List (WaitOf Texts)} (h : WaitsIn base w v gs) : ∃ a c, v = .slice a gs.length c := by
  obtain ⟨rs, h1, h2⟩ := h
  obtain ⟨a, c, hv⟩ := h1.form
  exact ⟨a, c, by rw [hv, List.length_map, h2.len]⟩

/-- a bank: block b, its two fields -/
structure BankIs (base : Nat) (w : World) (b : Nat) (gv wv : Value) (gs : List (GrantOf Texts)) (ws : List (WaitOf Texts)) : Prop where
  low : base ≤ b
  blk : w.heap[b]? = some (.cells #[gv, wv] 88 (0, 0))
  grants : GrantsIn base w gv gs
  waits : WaitsIn base w wv ws
section
variable {base : Nat} {w w' : World} {b : Nat} {gv wv : Value} {gs : List (GrantOf Texts)} {ws : List (WaitOf Texts)}
theorem BankIs.lt (h : BankIs base w b gv wv gs ws) : b < w.heap.size := lt_of_some h.blk
theorem BankIs.c0 (h : BankIs base w b gv wv gs ws) : w.cell? ⟨b, 0, none⟩ = some gv := by simp [World.cell?, h.blk]
theorem BankIs.c1 (h : BankIs base w b gv wv gs ws) : w.cell? ⟨b, 1, none⟩ = some wv := by simp [World.cell?, h.blk]
theorem BankIs.free (h : BankIs base w b gv wv gs ws) (k : Nat) : w.frozen? ⟨b, k, none⟩ = false := by simp [World.frozen?, h.blk]
theorem BankIs.fr {S : Nat → Prop} (h : BankIs base w b gv wv gs ws) (hf : Fr S w w') (ho : Off base w S) (hb : ¬ S b) (h1 : ∀ k, gv.ownBlock = some k → ¬ S k) (h2 : ∀ k, wv.ownBlock = some k → ¬ S k) : BankIs base w' b gv wv gs ws :=
  ⟨h.low, hf.keep h.blk hb, h.grants.fr hf ho h1, h.waits.fr hf ho h2⟩
theorem BankIs.frN (h : BankIs base w b gv wv gs ws) (hf : Fr noB w w') : BankIs base w' b gv wv gs ws := h.fr hf (Off.none _ _) (fun h => h) (fun _ _ h => h) (fun _ _ h => h)
end

/-- a grant's block before anything is stored -/
abbrev zGrant : Array Value := #[.bool false, .string ⟨#[]⟩, .int .i64 0, .bool false, .string ⟨#[]⟩, .string ⟨#[]⟩, .int .i64 0, .string ⟨#[]⟩, .string ⟨#[]⟩, .string ⟨#[]⟩, .bool false, .string ⟨#[]⟩, .bool false, .slice none 0 0, .int .i64 0, .slice none 0 0]
/-- find's fold: the best so far, and where it stands -/
def findL {α : Type} (f : α → Int) : List α → Nat → Int × Int → Int × Int
  | [], _, acc => acc
  | g :: l, i, acc => findL f l (i + 1) (if 0 ≤ f g ∧ acc.1 ≤ f g then (f g, (i : Int)) else acc)
theorem findL_snoc {α : Type} (f : α → Int) : ∀ (l : List α) (i : Nat) (acc : Int × Int) (x : α),
    findL f (l ++ [x]) i acc = (if 0 ≤ f x ∧ (findL f l i acc).1 ≤ f x then (f x, ((i + l.length : Nat) : Int)) else findL f l i acc)
  | [], i, acc, x => by simp only [List.nil_append, findL, List.length_nil, Nat.add_zero]; rfl
  | g :: l, i, acc, x => by
    rw [List.cons_append, findL, findL_snoc f l (i + 1) _ x, findL]
    simp only [List.length_cons, show i + 1 + l.length = i + (l.length + 1) from by omega]
def reachG (o : Ori) (proxy : Bool) (path : ByteArray) (g : GrantOf Texts) : Int := reachI g.o g.proxy g.paths o proxy path
/-- bank.find -/
def findI (gs : List (GrantOf Texts)) (o : Ori) (proxy : Bool) (path : ByteArray) : Int := (findL (reachG o proxy path) gs 0 (-1, -1)).2

def FindRel (w : World) (gs : List (GrantOf Texts)) (o : Ori) (proxy : Bool) (path : ByteArray) (best at_ i : Value) (wr : World) : Prop :=
  ∃ k : Nat, k ≤ gs.length ∧ i = .int .i64 k ∧ best = .int .i64 (findL (reachG o proxy path) (gs.take k) 0 (-1, -1)).1 ∧ at_ = .int .i64 (findL (reachG o proxy path) (gs.take k) 0 (-1, -1)).2 ∧ Fr noB w wr
set_option maxHeartbeats 2000000 in
set_option maxRecDepth 100000 in
theorem find_any (base : Nat) (w : World) (b : Nat) (gv wv : Value) (gs : List (GrantOf Texts)) (ws : List (WaitOf Texts)) (o : Ori) (proxy : Bool) (path : ByteArray) (h : BankIs base w b gv wv gs ws) :
    Calls Tryd.prog 53 #[.pointer (some ⟨b, 0, none⟩), .agg o.cells.toArray, .bool proxy, .string path] w fun e w' => e = .returned (.int .i64 (findI gs o proxy path)) ∧ Fr noB w w' := by
  unfold Ori.cells
  have h0 := h.c0
  obtain ⟨av, cv, hv⟩ := h.grants.form
  subst hv
  have hlt := h.lt
  go_enter Tryd.func53, Tryd.ntmps53
  go_wp2
  clear h0
  have hf0 : Fr noB w (w.alloc (.cells #[.bool o.secure, .string o.host, .int .i64 o.port] 24)) := (Fr.refl noB w).alloc _
  have hO : (w.alloc (.cells #[.bool o.secure, .string o.host, .int .i64 o.port] 24)).heap[w.heap.size]? = some (.cells #[.bool o.secure, .string o.host, .int .i64 o.port] 24 (0, 0)) := new_block w _
  have h1 := h.frN hf0
  generalize w.alloc (.cells #[.bool o.secure, .string o.host, .int .i64 o.port] 24) = W at hf0 hO h1
  go_loopw [9, 10, 19] (FindRel W gs o proxy path) (fun _ _ i _ => gs.length - (intOf i).toNat)
  case atStart => exact ⟨0, Nat.zero_le _, rfl, rfl, rfl, Fr.refl _ _⟩
  case round =>
    obtain ⟨k, hk, rfl, rfl, rfl, hfr⟩ := hrel
    by_cases hks : k < gs.length
    · obtain ⟨bk, c, hf1, hml, r, hone, hr, hcell⟩ := (h1.frN hfr).grants.at hks
      cases hf1
      unfold maxLen at hml
      have hO2 := hfr.keep hO (fun h => h)
      obtain ⟨x, hx⟩ : ∃ x, x = r.cells := ⟨_, rfl⟩
      have hxk : x.length = 16 := by rw [hx]; rfl
      have hst := fun W => run_storeCells_new (P := Tryd.prog) W 34 #[.bool false, .string ⟨#[]⟩, .int .i64 0, .bool false, .string ⟨#[]⟩, .string ⟨#[]⟩, .int .i64 0, .string ⟨#[]⟩, .string ⟨#[]⟩, .string ⟨#[]⟩, .bool false, .string ⟨#[]⟩, .bool false, .slice none 0 0, .int .i64 0, .slice none 0 0] x (by rw [hxk]; rfl) (by rw [hx]; exact hone)
      rw [← hx] at hcell
      have HX := Lib.hid hx
      have hxi : (Tryd.prog.info? 34).map (·.size) = some x.toArray.size := by rw [List.size_toArray, hxk]; kernel_rfl
      have HXI := Lib.hid hxi
      clear hx hxi
      have hO3 : (wr.alloc (.cells x.toArray 34)).heap[w.heap.size]? = some (.cells #[.bool o.secure, .string o.host, .int .i64 o.port] 24 (0, 0)) := by rw [Below.heap_alloc _ _ _ (lt_of_some hO2)]; exact hO2
      have HO3 := Lib.hid hO3
      clear hO3 hO2
      go_wp2_with (first | ((with_reducible refine wpList_at ⟨some 23, _, _, _, _, _⟩ ?_); refine wpList_load_mid rfl 34 (.tmp 22) rfl bk (k * 16) rfl x _ hcell Tryd.underlying34 rfl (by have h := HXI.out; rw [List.size_toArray] at h; exact h) ?_) | ((with_reducible refine wpList_at ⟨some 24, _, _, _, _, _⟩ ?_); refine wpList_load_row rfl 34 (.tmp 12) rfl wr.heap.size rfl _ x.toArray (0, 0) _ (new_block wr _) Tryd.underlying34 rfl HXI.out ?_) | ((with_reducible refine wpList_at ⟨some 25, _, _, _, _, _⟩ ?_); refine wpList_load_row rfl 24 (.tmp 5) rfl w.heap.size rfl _ _ (0, 0) _ HO3.out Tryd.underlying24 rfl (by kernel_rfl) ?_) | fail)
      have hfa : Fr noB wr (wr.alloc (.cells x.toArray 34)) := (Fr.refl noB wr).alloc _
      have hps := (hr.2.2.2.2.2.2.frN hfa).rd
      have hre := Lib.hid (show reachI r.o r.proxy gs[k].paths o proxy path = reachG o proxy path gs[k] by unfold reachG; rw [hr.1, hr.2.1])
      have hat := List.getElem?_eq_getElem hks
      have hsn := Lib.hid (show findL (reachG o proxy path) (gs.take (k + 1)) 0 (-1, -1) = _ by rw [take_snocG hat, findL_snoc, List.length_take, Nat.min_eq_left hk, Nat.zero_add])
      have HFR := (hfr.trans hfa)
      have hcall := Lib.hid (reach_any r o proxy path gs[k].paths _ hps)
      rw [← HX.out] at hcall
      clear hr hfa hat hone hst
      generalize wr.alloc (.cells x.toArray 34) = W2 at *
      refine hcall.out.mono ?_
      rintro e w3 ⟨rfl, hf3⟩
      have HF3 := HFR.trans hf3
      rw [hre.out]
      clear hre hcall hps hcell
      generalize findL (reachG o proxy path) (gs.take k) 0 (-1, -1) = acc at *
      generalize reachG o proxy path gs[k] = n at *
      by_cases h0 : 0 ≤ n
      · by_cases h1' : acc.1 ≤ n
        · have hs := Lib.hid (show findL (reachG o proxy path) (gs.take (k + 1)) 0 (-1, -1) = (n, (k : Int)) by rw [hsn.out, if_pos ⟨h0, h1'⟩])
          go_wp2
          go_roundw
          case rel => exact ⟨k + 1, by omega, by go_num, by rw [hs.out], by rw [hs.out], HF3⟩
          case measure => simp [intOf]; omega
        · have hs := Lib.hid (show findL (reachG o proxy path) (gs.take (k + 1)) 0 (-1, -1) = acc by rw [hsn.out, if_neg (fun h => h1' h.2)])
          go_wp2
          go_roundw
          case rel => exact ⟨k + 1, by omega, by go_num, by rw [hs.out], by rw [hs.out], HF3⟩
          case measure => simp [intOf]; omega
      · have hs := Lib.hid (show findL (reachG o proxy path) (gs.take (k + 1)) 0 (-1, -1) = acc by rw [hsn.out, if_neg (fun h => h0 h.1)])
        go_wp2
        go_roundw
        case rel => exact ⟨k + 1, by omega, by go_num, by rw [hs.out], by rw [hs.out], HF3⟩
        case measure => simp [intOf]; omega
    · have hs := Lib.hid (show (findL (reachG o proxy path) (gs.take k) 0 (-1, -1)).2 = findI gs o proxy path by rw [List.take_of_length_le (by omega)]; rfl)
      go_wp2
      go_ret
      exact ⟨by rw [← hs.out]; rfl, hf0.trans hfr⟩
end Go.Proofs.YtkoobhgedoanhaaDoor
