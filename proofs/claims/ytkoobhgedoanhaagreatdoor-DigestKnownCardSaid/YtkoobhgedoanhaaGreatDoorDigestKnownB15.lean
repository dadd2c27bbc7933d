/- Package ask: Known. (Printed by wip/knowngen.py.) Plain laws of Lower and Same. -/
import Derived.Test.YtkoobhgedoanhaaGreatDoorDigestKnownB14
import Derived.Deep.AppendLies
import Derived.Deep.RegionLaw
import Derived.Deep.DeepCutAuto
import Derived.Test.YtkoobhgedoanhaaGreatDoorDigestKnownB2
namespace Go.Proofs.YtkoobhgedoanhaaGreatDoor
open Go.RowKit

theorem bA_toL (s : ByteArray) : bA s.data.toList = s := bA_of s
def zAsk : AskOf Value := ⟨0, ⟨#[]⟩, ⟨#[]⟩, ⟨#[]⟩, false, ⟨#[]⟩, false, .slice none 0 0⟩
abbrev zAskA : Array Value := #[.int .i64 0, .string ⟨#[]⟩, .string ⟨#[]⟩, .string ⟨#[]⟩, .bool false, .string ⟨#[]⟩, .bool false, .slice none 0 0]
theorem zAskA_one : ∀ v ∈ zAskA.toList, v.oneCell' = true := by decide +kernel
theorem zAskA_all : zAskA.all (·.oneCell') = true := by decide +kernel
theorem ask_one (r : AskOf Value) (h : r.dom.oneCell' = true) : ∀ u ∈ r.cells, u.oneCell' = true := by
  intro u hu
  simp only [AskOf.cells, List.mem_cons, List.not_mem_nil, or_false] at hu
  rcases hu with rfl | rfl | rfl | rfl | rfl | rfl | rfl | rfl <;> first | rfl | exact h
theorem ask_all (r : AskOf Value) (h : r.dom.oneCell' = true) : r.cells.toArray.all (·.oneCell') = true := all_oneCell_toArray (ask_one r h)
/-- an ask's block -/
def AskBlk (w : World) (b : Nat) (r : AskOf Value) : Prop := w.heap[b]? = some (.cells r.cells.toArray 24 (0, 0))
theorem AskBlk.cell {w : World} {b : Nat} {r : AskOf Value} (h : AskBlk w b r) {i : Nat} {u : Value} (hu : r.cells[i]? = some u) : w.cell? ⟨b, i, none⟩ = some u := by
  simp only [World.cell?, show w.heap[b]? = _ from h]; simpa using hu
theorem AskBlk.free {w : World} {b : Nat} {r : AskOf Value} (h : AskBlk w b r) (i : Nat) : w.frozen? ⟨b, i, none⟩ = false := by simp [World.frozen?, show w.heap[b]? = _ from h]
theorem AskBlk.set {w : World} {b : Nat} {r r' : AskOf Value} (h : AskBlk w b r) (i : Nat) (u : Value) (hr : r.cells.toArray.setIfInBounds i u = r'.cells.toArray) : AskBlk (w.setCell ⟨b, i, none⟩ u) b r' := by
  unfold AskBlk
  rw [setCell_heap h i u, hr]
def KnownPost (x : Cha) (w : World) (e : Ending) (w' : World) : Prop :=
  Fr noB w w' ∧ match knownL x with
    | none => e = .returned (.tuple #[.agg zAskA, .bool false])
    | some a => ∃ r : AskOf Value, r.Reads (Strs w.heap.size w') a ∧ e = .returned (.tuple #[.agg r.cells.toArray, .bool true])
theorem KnownPost.no {x : Cha} {w w' : World} (h : knownL x = none) (hf : Fr noB w w') : KnownPost x w (.returned (.tuple #[.agg zAskA, .bool false])) w' := by
  refine ⟨hf, ?_⟩; rw [h]
theorem KnownPost.yes {x : Cha} {w w' : World} {r : AskOf Value} {a : AskOf Texts} (h : knownL x = some a) (hf : Fr noB w w') (hr : r.Reads (Strs w.heap.size w') a) : KnownPost x w (.returned (.tuple #[.agg r.cells.toArray, .bool true])) w' := by
  refine ⟨hf, ?_⟩; rw [h]; exact ⟨r, hr, rfl⟩
/-- the three blocks that the call makes at its beginning -/
structure KSt (w : World) (x : Cha) (pv : Value) (U : World) : Prop where
  cha : ChaAt U w.heap.size (bA x.scheme) (bA x.token) pv
  res : U.heap[w.heap.size + 1]? = some (.cells zAskA 24 (0, 0))
  fr : Fr noB w U
theorem KSt.next {w U V : World} {x : Cha} {pv : Value} (h : KSt w x pv U) (hf : Fr noB U V) : KSt w x pv V := ⟨h.cha.fr hf (fun h => h), hf.keep h.res (fun h => h), h.fr.trans hf⟩
theorem KSt.set {w U : World} {x : Cha} {pv u : Value} {b i : Nat} (h : KSt w x pv U) (hb : w.heap.size + 1 < b) : KSt w x pv (U.setCell ⟨b, i, none⟩ u) := by
  have hf : Fr (one b) U (U.setCell ⟨b, i, none⟩ u) := (Fr.refl (one b) U).setCell (p := ⟨b, i, none⟩) (fun _ => rfl) u
  exact ⟨h.cha.fr hf (fun e => by have e' : w.heap.size = b := e; omega), hf.keep h.res (fun e => by have e' : w.heap.size + 1 = b := e; omega), h.fr.step hf (fun k hk e => by have e' : k = b := e; omega)⟩
theorem Strs.kind {base : Nat} {w : World} {v : Value} {ss : List ByteArray} {g : Nat} (h : Strs base w v ss) (hg : v.ownBlock = some g) : ∃ cur, w.heap[g]? = some (.cells cur 9 (0, 0)) := by
  rcases h.2 with ⟨hv, _⟩ | ⟨g', cap, cur, hv, _, hh, _⟩
  · rw [hv] at hg; simp [Value.ownBlock] at hg
  · rw [hv] at hg; simp [Value.ownBlock] at hg; subst hg; exact ⟨cur, hh⟩
theorem Strs.off {base : Nat} {w w' : World} {v : Value} {ss : List ByteArray} {S : Nat → Prop} (h : Strs base w v ss) (hf : Fr S w w') (hS : ∀ k, v.ownBlock = some k → ¬ S k) : Strs base w' v ss := by
  obtain ⟨h1, h2⟩ := h
  refine ⟨h1, ?_⟩
  rcases h2 with h2 | ⟨g, cap, cur, hv, hg, hh, r⟩
  · exact Or.inl h2
  · exact Or.inr ⟨g, cap, cur, hv, hg, hf.keep hh (hS g (by rw [hv]; rfl)), r⟩
theorem Strs.off1 {base b : Nat} {w w' : World} {v : Value} {ss : List ByteArray} {cs : Array Value} {t : TypeId} {f : Nat × Nat} (h : Strs base w v ss) (hf : Fr (one b) w w') (hb : w.heap[b]? = some (.cells cs t f)) (ht : t ≠ 9) : Strs base w' v ss :=
  h.off hf (fun k hk e => by
    obtain rfl : k = b := e
    obtain ⟨cur, hc⟩ := h.kind hk
    rw [hc] at hb; cases hb; exact ht rfl)
theorem KSt.own {w U V : World} {x : Cha} {pv v : Value} {ss : List ByteArray} (h : KSt w x pv U) (hv : Strs w.heap.size U v ss) (hf : Fr (fun k => v.ownBlock = some k) U V) : KSt w x pv V := by
  have hn : ∀ {b : Nat} {cs : Array Value} {t : TypeId} {f : Nat × Nat}, U.heap[b]? = some (.cells cs t f) → t ≠ 9 → ¬ v.ownBlock = some b := by
    intro b cs t f hb ht e
    obtain ⟨cur, hc⟩ := hv.kind e
    rw [hc] at hb; cases hb; exact ht rfl
  exact ⟨h.cha.fr hf (hn h.cha (by decide)), hf.keep h.res (hn h.res (by decide)), h.fr.step hf (fun k hk e => by have := hv.block k e; omega)⟩
theorem getP_len {ps : List Par} {n v : Bs} (h : getP ps n = some v) : ∃ p ∈ ps, v = p.2 := by
  unfold getP at h
  obtain ⟨p, hp, rfl⟩ := Option.map_eq_some_iff.1 h
  exact ⟨p, List.mem_of_find?_eq_some hp, rfl⟩
theorem list_ok (l : List UInt8) : (∃ ws, listAll l = .ok ws ∧ ws.length ≤ 40 ∧ qopR l = qopOf ws) ∨ ((∀ ws, listAll l = .ok ws → 40 < ws.length) ∧ qopR l = none) := by
  unfold qopR
  cases h : listAll l with
  | ok ws =>
    by_cases hn : ws.length ≤ 40
    · exact Or.inl ⟨ws, rfl, hn, if_neg (by omega)⟩
    · refine Or.inr ⟨fun ws' h' => ?_, if_pos (by omega)⟩
      cases h'; omega
  | error m => exact Or.inr ⟨fun ws' h' => (by cases h'), rfl⟩
theorem ListPost.isErr2 {s : ByteArray} {w w' : World} {e : Ending} (h : ListPost s w e w') (hl : ∀ ws, listAll s.data.toList = .ok ws → 40 < ws.length) :
    ∃ v t x, e = .returned (.tuple #[v, .iface t x]) ∧ Fr noB w w' := by
  obtain ⟨v, er, he, hf, hm⟩ := h
  cases hr : listAll s.data.toList with
  | ok ws =>
    rw [hr] at hm
    have hm' : if 40 < ws.length then v = .slice none 0 0 ∧ ErrIs w' er (some (4, none)) else Strs w.heap.size w' v (wordsB ws) ∧ er = .nilIface := hm
    rw [if_pos (hl ws hr)] at hm'
    obtain ⟨_, hv⟩ := hm'
    exact ⟨v, _, _, by rw [he, show er = _ from hv], hf⟩
  | error m =>
    rw [hr] at hm
    obtain ⟨_, g, hv, _⟩ := hm
    exact ⟨v, _, _, by rw [he, hv], hf⟩
/-- the words' sizes -/
theorem listN_sub : ∀ (f : Nat) (r : Bs) (ws : List Bs), listN f r = .ok ws → ∀ w ∈ ws, w.length ≤ r.length
  | 0, r, ws, h, w, hw => by rw [listN] at h; cases h; cases hw
  | f + 1, r, ws, h, w, hw => by
    rw [listN] at h
    have h1 := dropW_le blankB r
    have h2 := dropW_le byteB (r.dropWhile blankB)
    have h3 := dropW_le blankB ((r.dropWhile blankB).dropWhile byteB)
    have h4 := split_len byteB (r.dropWhile blankB)
    have hone : ∀ u ∈ (if ((r.dropWhile blankB).takeWhile byteB).isEmpty then [] else [(r.dropWhile blankB).takeWhile byteB]), u.length ≤ r.length := by
      intro u hu
      split at hu
      · cases hu
      · simp at hu; subst hu; omega
    cases e : ((r.dropWhile blankB).dropWhile byteB).dropWhile blankB with
    | nil =>
      rw [e] at h
      simp only at h
      cases h
      exact hone w hw
    | cons c r4 =>
      rw [e] at h h3
      simp only at h
      split at h
      · cases hr : listN f r4 with
        | error m => rw [hr] at h; cases h
        | ok w2 =>
          rw [hr] at h
          cases h
          rcases List.mem_append.1 hw with g | g
          · exact hone w g
          · have := listN_sub f r4 w2 hr w g
            simp at h3; omega
      · cases h
def qK (ws : List Bs) : Nat → Bs
  | 0 => []
  | 1 => if ws.any (fun w => sameL w nInt) then nInt else []
  | _ => if ws.any (fun w => sameL w nAuth) then nAuth else if ws.any (fun w => sameL w nInt) then nInt else []
theorem qK_two (ws : List Bs) : qopOf ws = if (qK ws 2).isEmpty then none else some (qK ws 2) := by
  unfold qopOf qK
  cases ws.any (fun w => sameL w nAuth) <;> cases ws.any (fun w => sameL w nInt) <;> rfl
theorem any_words (ws : List Bs) (n : Bs) : ((wordsB ws).any fun x => sameL x.data.toList (bA n).data.toList) = ws.any fun w => sameL w n := by
  unfold wordsB
  rw [List.any_map, bA_data]
  rfl
def domTo (d : Bs) (k : Nat) : List Bs := (((splitL 32 d).take k).filter fun p => hdB 47 p).map cleanL
theorem pre47 (l : Bs) : Lib.hasPrefix l [47] = hdB 47 l := by
  cases l with
  | nil => rfl
  | cons c l =>
    rw [Bool.eq_iff_iff]
    simp [Lib.hasPrefix, hdB]
    exact eq_comm
def DmRel (w : World) (x : Cha) (pv : Value) (A Pb : Nat) (a : AskOf Value) (d : Bs) (t : Value) (wr : World) : Prop :=
  ∃ (k : Nat) (v : Value), k ≤ (splitL 32 d).length ∧ t = .int .i64 k ∧ KSt w x pv wr ∧ AskBlk wr A { a with dom := v } ∧ Strs w.heap.size wr v ((domTo d k).map bA) ∧ wr.heap[Pb]? = some (.cells (((splitL 32 d).map bA).map Value.string).toArray 9 (0, 0)) ∧ ∀ j, v.ownBlock = some j → Pb < j
theorem domTo_succ {d : Bs} {k : Nat} {p : Bs} (h : (splitL 32 d)[k]? = some p) : domTo d (k + 1) = domTo d k ++ (if hdB 47 p then [cleanL p] else []) := by
  unfold domTo
  rw [List.take_add_one, h]
  simp only [Option.toList_some, List.filter_append, List.map_append]
  congr 1
  rw [List.filter_cons]
  split <;> rfl
theorem domTo_all {d : Bs} {k : Nat} (h : (splitL 32 d).length ≤ k) : domTo d k = domR d := by unfold domTo domR; rw [List.take_of_length_le h]
theorem domTo_len (d : Bs) (k : Nat) : (domTo d k).length ≤ k := by
  unfold domTo
  rw [List.length_map]
  have h := List.length_filter_le (fun p => hdB 47 p) ((splitL 32 d).take k)
  rw [List.length_take] at h
  omega
theorem splitL_le (c : UInt8) : ∀ d : Bs, (splitL c d).length ≤ d.length + 1 ∧ ∀ p ∈ splitL c d, p.length ≤ d.length
  | [] => ⟨by simp [splitL], by simp [splitL]⟩
  | x :: d => by
    obtain ⟨h1, h2⟩ := splitL_le c d
    unfold splitL
    split
    · refine ⟨by simp; omega, fun p hp => ?_⟩
      rcases List.mem_cons.1 hp with rfl | g
      · simp
      · have := h2 p g; simp; omega
    · cases e : splitL c d with
      | nil => exact ⟨by simp, fun p hp => by simp at hp; subst hp; simp⟩
      | cons q qs =>
        rw [e] at h1 h2
        refine ⟨by simp at h1 ⊢; omega, fun p hp => ?_⟩
        rcases List.mem_cons.1 hp with rfl | g
        · have := h2 q (List.mem_cons_self ..); simp; omega
        · have := h2 p (List.mem_cons_of_mem _ g); simp; omega
theorem partsB_bA (c : UInt8) (d : Bs) : partsB c (bA d) = (splitL c d).map bA := by
  unfold partsB
  rw [bA_data]; rfl
def QkRel (w : World) (x : Cha) (pv : Value) (A : Nat) (a : AskOf Value) (ws : List Bs) (W : World) (t : Value) (wr : World) : Prop :=
  ∃ k : Nat, k ≤ 2 ∧ t = .int .i64 k ∧ KSt w x pv wr ∧ AskBlk wr A { a with qop := bA (qK ws k) } ∧ Fr (one A) W wr
def QopMid (w : World) (x : Cha) (pv : Value) (A : Nat) (a : AskOf Value) (wz : World) : Prop := ∃ q, qopP x.params = some q ∧ KSt w x pv wz ∧ AskBlk wz A { a with qop := bA q }

set_option maxRecDepth 100000 in
set_option maxHeartbeats 8000000 in
theorem Known_any (x : Cha) (pv : Value) (w : World) (hp : ParsAt w pv x.params) (hz : x.Fit) :
    Calls Tryz.prog 21 #[.agg #[.string (bA x.scheme), .string (bA x.token), pv]] w (KnownPost x w) := by
  have hfit : ParsFit x.params := ⟨by have := hz.few; omega, fun p hq => by have := hz.pars p hq; omega⟩
  have hszs : (bA x.scheme).size ≤ 100000 := hz.scheme
  have HZ := Lib.hid hz
  have GET := Lib.hid (show ∀ (n : Bs) U, n.length < 1000 → Fr noB w U → Calls Tryz.prog 20 #[.agg #[.string (bA x.scheme), .string (bA x.token), pv], .string (bA n)] U fun e w' => e = .returned (.tuple #[.string (bA ((getP x.params n).getD [])), .bool (getP x.params n).isSome]) ∧ Fr noB U w' from fun n U hn hU => by
    have := Get_any (bA x.scheme) (bA x.token) pv x.params (bA n) U (RowsAt.frNone hp hU) hfit (by show n.length < _; omega)
    rw [bA_data] at this
    exact this)
  have GLEN := Lib.hid (show ∀ n, ((getP x.params n).getD []).length ≤ 99999 from fun n => by
    cases h : getP x.params n with
    | none => simp
    | some v =>
      obtain ⟨p, hpm, rfl⟩ := getP_len h
      exact (hz.pars p hpm).2)
  have SMB := Lib.hid (show ∀ (n : Bs) U, n.length < 1000 → Calls Tryz.prog 50 #[.string (bA x.scheme), .string (bA n)] U fun e w' => e = .returned (.bool (sameL x.scheme n)) ∧ Fr noB U w' from fun n U hn => by
    have := Same_any (bA x.scheme) (bA n) U (by omega) (by show n.length < _; omega)
    rw [bA_data, bA_data] at this
    exact this)
  have HK := Lib.hid (show knownL x = match getP x.params nRealm with
    | none => none
    | some realm =>
      if sameL x.scheme nBasic then some ⟨1, bA realm, bA [], bA [], false, bA [], false, []⟩ else
      match algR ((getP x.params nAlg).getD nMD5) with
      | none => none
      | some (k, sess) =>
        if !sameL x.scheme nDigest then none else
        match getP x.params nNonce with
        | none => none
        | some nonce =>
          match qopP x.params with
          | none => none
          | some q => some ⟨k, bA realm, bA nonce, bA ((getP x.params nOpaque).getD []), sess, bA q, sameL ((getP x.params nStale).getD []) nTrue, (domR ((getP x.params nDomain).getD [])).map bA⟩ from rfl)
  obtain ⟨av, cv, hv⟩ := hp.form
  subst hv
  obtain ⟨w2, hw2⟩ : ∃ w2, w2 = (w.alloc (.cells #[.string (bA x.scheme), .string (bA x.token), .slice av x.params.length cv] 38)).alloc (.cells zAskA 24) := ⟨_, rfl⟩
  have hs2 : w2.heap.size = w.heap.size + 2 := by rw [hw2]; simp
  have K0 : KSt w x (.slice av x.params.length cv) w2 := by
    have f1 : Fr noB (w.alloc (.cells #[.string (bA x.scheme), .string (bA x.token), .slice av x.params.length cv] 38)) w2 := by rw [hw2]; exact (Fr.refl _ _).alloc _
    refine ⟨f1.keep (new_block w _) (fun h => h), ?_, ((Fr.refl noB w).alloc _).trans f1⟩
    rw [hw2]
    have := new_block (w.alloc (.cells #[.string (bA x.scheme), .string (bA x.token), .slice av x.params.length cv] 38)) (.cells zAskA 24)
    simpa using this
  have HW2 := Lib.hid hw2
  clear hp hz hfit hw2
  generalize hpv : Value.slice av x.params.length cv = pv at *
  clear hpv
  go_enter Tryz.func21, Tryz.ntmps21
  go_wp2_with fail
  rw [← HW2.out]
  refine (GET.out nRealm w2 (by decide) K0.fr).mono ?_
  rintro e u1 ⟨rfl, hf⟩
  have K1 := K0.next hf
  have hu1 : w.heap.size + 1 < u1.heap.size := by have := hf.size; omega
  clear hf
  cases hre : getP x.params nRealm with
  | none =>
    go_wp2_with (first | ((with_reducible refine wpList_at ⟨none, .store 24 _ _, _, _, _, _⟩ ?_); go_must (refine wpList_store_row rfl 24 (.tmp 2) (.tmp 27) rfl (w.heap.size + 1) zAskA rfl rfl _ zAskA K1.res (by kernel_rfl) rfl zAskA_all ?_)) | fail)
    refine bodyPost_ret (results_cell_tmp (by rfl) _ _ (w.heap.size + 1) 24 zAskA (0, 0) _ rfl (setRow_heap u1 (w.heap.size + 1) _ _ _ _ K1.res) Tryz.underlying24 rfl (by kernel_rfl)) rfl ?_
    exact KnownPost.no (by rw [HK.out, hre]) ((K1.fr).setRow (fun h => absurd h (by omega)) _)
  | some realm =>
    have HK1 := Lib.hid (show knownL x = _ by rw [HK.out, hre])
    simp only at HK1
    clear HK hre
    have x0 := K1.cha.cell0
    have x1 := K1.cha.cell1
    have x2 := K1.cha.cell2
    have hst := fun W => run_storeCells_new (P := Tryz.prog) W 24 zAskA [.int .i64 1, .string (bA realm), .string ⟨#[]⟩, .string ⟨#[]⟩, .bool false, .string ⟨#[]⟩, .bool false, .slice none 0 0] rfl (by intro u hu; simp at hu; rcases hu with rfl | rfl | rfl | rfl | rfl | rfl | rfl | rfl <;> rfl)
    obtain ⟨u2, hu2⟩ : ∃ u2, u2 = u1.alloc (.cells #[.int .i64 1, .string (bA realm), .string ⟨#[]⟩, .string ⟨#[]⟩, .bool false, .string ⟨#[]⟩, .bool false, .slice none 0 0] 24) := ⟨_, rfl⟩
    have hf : Fr noB u1 u2 := by rw [hu2]; exact (Fr.refl _ _).alloc _
    have K2 := K1.next hf
    have A2 : AskBlk u2 u1.heap.size { zAsk with scheme := 1, realm := bA realm } := by rw [hu2]; exact new_block _ _
    have x0a : ∀ o : Obj, (u1.alloc o).cell? ⟨w.heap.size, 0, none⟩ = some (.string (bA x.scheme)) := fun o => (K1.cha.fr ((Fr.refl noB u1).alloc o) (fun h => h)).cell0
    have HU2 := Lib.hid hu2
    generalize hA : u1.heap.size = A at *
    clear hu2
    go_wp2_with fail
    rw [← HU2.out]
    refine (SMB.out nBasic u2 (by decide)).mono ?_
    rintro e u3 ⟨rfl, hf3⟩
    have K3 := K2.next hf3
    have A3 : AskBlk u3 A { zAsk with scheme := 1, realm := bA realm } := hf3.keep A2 (fun h => h)
    have hA3 : A < u3.heap.size := lt_of_some A3
    clear x0 x1 x2 x0a hst A2 K2 hf3
    cases hbs : sameL x.scheme nBasic with
    | true =>
      have hri : (Tryz.prog.info? 24).map (·.size) = some ({ zAsk with scheme := 1, realm := bA realm }).cells.toArray.size := by kernel_rfl
      have hrb : u3.heap[A]? = some (.cells ({ zAsk with scheme := 1, realm := bA realm }).cells.toArray 24 (0, 0)) := A3
      have hro := ask_all ({ zAsk with scheme := 1, realm := bA realm }) rfl
      go_wp2_with (first | ((with_reducible refine wpList_at ⟨some 33, _, _, _, _, _⟩ ?_); go_must (refine wpList_load_row rfl 24 (.tmp 6) rfl A rfl _ ({ zAsk with scheme := 1, realm := bA realm }).cells.toArray (0, 0) _ hrb Tryz.underlying24 rfl hri ?_)) | ((with_reducible refine wpList_at ⟨none, .store 24 _ _, _, _, _, _⟩ ?_); go_must (refine wpList_store_row rfl 24 (.tmp 2) (.tmp 33) rfl (w.heap.size + 1) ({ zAsk with scheme := 1, realm := bA realm }).cells.toArray rfl rfl _ zAskA K3.res hri rfl hro ?_)) | fail)
      refine bodyPost_ret (results_cell_tmp (by rfl) _ _ (w.heap.size + 1) 24 ({ zAsk with scheme := 1, realm := bA realm }).cells.toArray (0, 0) _ rfl (setRow_heap u3 (w.heap.size + 1) _ _ _ _ K3.res) Tryz.underlying24 rfl hri) rfl ?_
      exact KnownPost.yes (by rw [HK1.out, if_pos hbs]) ((K3.fr).setRow (fun h => absurd h (by omega)) _) ⟨rfl, rfl, rfl, rfl, rfl, rfl, rfl, Strs.nil _ _⟩
    | false =>
      rw [hbs] at HK1
      clear hbs
      have x0 := K3.cha.cell0
      have x1 := K3.cha.cell1
      have x2 := K3.cha.cell2
      go_wp2_with fail
      refine (GET.out nAlg u3 (by decide) K3.fr).mono ?_
      rintro e u4 ⟨rfl, hf⟩
      have K4 := K3.next hf
      have A4 : AskBlk u4 A { zAsk with scheme := 1, realm := bA realm } := hf.keep A3 (fun h => h)
      clear x0 x1 x2 A3 K3 hf
      go_upto_if 40 with fail
      go_cut [5, 7] (fun _ s7 wz => s7 = .string (bA ((getP x.params nAlg).getD nMD5)) ∧ u4 = wz)
      case first =>
        cases hal : getP x.params nAlg with
        | none =>
          go_wp2_with fail
          go_meet
          rw [hal]
          exact ⟨rfl, rfl⟩
        | some v =>
          go_wp2_with fail
          go_meet
          rw [hal]
          exact ⟨rfl, rfl⟩
      case rest =>
      obtain ⟨rfl, rfl⟩ := hcut
      have HNL := Lib.hid (GLEN.out nAlg)
      have hnl : (bA ((getP x.params nAlg).getD nMD5)).size < 17592186044416 := by
        show ((getP x.params nAlg).getD nMD5).length < _
        cases hg : getP x.params nAlg with
        | none => decide
        | some v =>
          have h := HNL.out
          rw [hg] at h
          have : v.length ≤ 99999 := h
          show v.length < _
          omega
      generalize (getP x.params nAlg).getD nMD5 = alg at *
      have a0 := A4.cell (i := 0) rfl
      have f0 := A4.free 0
      go_wp2_with fail
      refine (algorithm_any (bA alg) u4 hnl).mono ?_
      rintro e u5 ⟨rfl, hf⟩
      rw [bA_data]
      have K5 := K4.next hf
      have A5 : AskBlk u5 A { zAsk with scheme := 1, realm := bA realm } := hf.keep A4 (fun h => h)
      have hA5 : w.heap.size + 1 < A := hu1
      clear A4 K4 hf HNL hnl a0 f0
      cases har : algR alg with
      | none =>
        have HE := Lib.hid (show knownL x = none by rw [HK1.out, har]; rfl)
        have hv0 : algV alg = .tuple #[.int .i64 0, .bool false, .bool false] := by unfold algV; rw [har]
        rw [hv0]
        have K6 := (K5.set (i := 0) (u := .int .i64 0) hA5).set (i := 4) (u := .bool false) hA5
        have a0 := A5.cell (i := 0) rfl
        have f0 := A5.free 0
        have A5b := A5.set (r' := { zAsk with scheme := 0, realm := bA realm }) 0 (.int .i64 0) rfl
        have a4 := A5b.cell (i := 4) rfl
        have f4 := A5b.free 4
        go_wp2_with (first | ((with_reducible refine wpList_at ⟨none, .store 24 _ _, _, _, _, _⟩ ?_); go_must (refine wpList_store_row rfl 24 (.tmp 2) (.tmp 57) rfl (w.heap.size + 1) zAskA rfl rfl _ zAskA K6.res (by kernel_rfl) rfl zAskA_all ?_)) | fail)
        refine bodyPost_ret (results_cell_tmp (by rfl) _ _ (w.heap.size + 1) 24 zAskA (0, 0) _ rfl (setRow_heap _ (w.heap.size + 1) _ _ _ _ K6.res) Tryz.underlying24 rfl (by kernel_rfl)) rfl ?_
        exact KnownPost.no (by exact HE.out) ((K6.fr).setRow (fun h => absurd h (by omega)) _)
      | some q =>
        obtain ⟨k, sess⟩ := q
        have hv0 : algV alg = .tuple #[.int .i64 k, .bool sess, .bool true] := by unfold algV; rw [har]
        rw [hv0]
        rw [har] at HK1
        simp only at HK1
        have K6 := (K5.set (i := 0) (u := .int .i64 k) hA5).set (i := 4) (u := .bool sess) hA5
        have a0 := A5.cell (i := 0) rfl
        have f0 := A5.free 0
        have A5b := A5.set (r' := { zAsk with scheme := k, realm := bA realm }) 0 (.int .i64 k) rfl
        have a4 := A5b.cell (i := 4) rfl
        have f4 := A5b.free 4
        have A6 := A5b.set (r' := { zAsk with scheme := k, realm := bA realm, sess := sess }) 4 (.bool sess) rfl
        have x0 := K6.cha.cell0
        clear hv0 har
        go_wp2_with fail
        clear a0 f0 a4 f4 A5b A5 K5
        generalize (u5.setCell ⟨A, 0, none⟩ (.int .i64 k)).setCell ⟨A, 4, none⟩ (.bool sess) = u6 at *
        refine (SMB.out nDigest u6 (by decide)).mono ?_
        rintro e u7 ⟨rfl, hf⟩
        have K7 := K6.next hf
        have A7 : AskBlk u7 A { zAsk with scheme := k, realm := bA realm, sess := sess } := hf.keep A6 (fun h => h)
        clear A6 K6 hf x0
        cases hds : sameL x.scheme nDigest with
        | false =>
          have HE := Lib.hid (show knownL x = none by rw [HK1.out, hds]; rfl)
          go_wp2_with (first | ((with_reducible refine wpList_at ⟨none, .store 24 _ _, _, _, _, _⟩ ?_); go_must (refine wpList_store_row rfl 24 (.tmp 2) (.tmp 57) rfl (w.heap.size + 1) zAskA rfl rfl _ zAskA K7.res (by kernel_rfl) rfl zAskA_all ?_)) | fail)
          refine bodyPost_ret (results_cell_tmp (by rfl) _ _ (w.heap.size + 1) 24 zAskA (0, 0) _ rfl (setRow_heap u7 (w.heap.size + 1) _ _ _ _ K7.res) Tryz.underlying24 rfl (by kernel_rfl)) rfl ?_
          exact KnownPost.no (by exact HE.out) ((K7.fr).setRow (fun h => absurd h (by omega)) _)
        | true =>
          rw [hds] at HK1
          have x0 := K7.cha.cell0
          have x1 := K7.cha.cell1
          have x2 := K7.cha.cell2
          go_wp2_with fail
          refine (GET.out nNonce u7 (by decide) K7.fr).mono ?_
          rintro e u8 ⟨rfl, hf⟩
          have K8 := K7.next hf
          have A8 : AskBlk u8 A { zAsk with scheme := k, realm := bA realm, sess := sess } := hf.keep A7 (fun h => h)
          have a2 := A8.cell (i := 2) rfl
          have f2 := A8.free 2
          clear A7 K7 hf x0 x1 x2
          cases hno : getP x.params nNonce with
          | none =>
            have HE := Lib.hid (show knownL x = none by rw [HK1.out, hno]; rfl)
            have K9 := K8.set (i := 2) (u := .string (bA [])) hA5
            go_wp2_with (first | ((with_reducible refine wpList_at ⟨none, .store 24 _ _, _, _, _, _⟩ ?_); go_must (refine wpList_store_row rfl 24 (.tmp 2) (.tmp 66) rfl (w.heap.size + 1) zAskA rfl rfl _ zAskA K9.res (by kernel_rfl) rfl zAskA_all ?_)) | fail)
            refine bodyPost_ret (results_cell_tmp (by rfl) _ _ (w.heap.size + 1) 24 zAskA (0, 0) _ rfl (setRow_heap _ (w.heap.size + 1) _ _ _ _ K9.res) Tryz.underlying24 rfl (by kernel_rfl)) rfl ?_
            exact KnownPost.no (by exact HE.out) ((K9.fr).setRow (fun h => absurd h (by omega)) _)
          | some nonce =>
            rw [hno] at HK1
            simp only [Bool.not_true, Bool.false_eq_true, if_false] at HK1
            have K9 := K8.set (i := 2) (u := .string (bA nonce)) hA5
            have A9 := A8.set (r' := { zAsk with scheme := k, realm := bA realm, nonce := bA nonce, sess := sess }) 2 (.string (bA nonce)) rfl
            have x0 := K9.cha.cell0
            have x1 := K9.cha.cell1
            have x2 := K9.cha.cell2
            go_wp2_with fail
            clear a2 f2 A8 K8 x0 x1 x2
            generalize u8.setCell ⟨A, 2, none⟩ (.string (bA nonce)) = u9 at *
            refine (GET.out nQop u9 (by decide) K9.fr).mono ?_
            rintro e u10 ⟨rfl, hf⟩
            have K10 := K9.next hf
            have A10 : AskBlk u10 A { zAsk with scheme := k, realm := bA realm, nonce := bA nonce, sess := sess } := hf.keep A9 (fun h => h)
            have hA10 : A < u10.heap.size := lt_of_some A10
            have HQP := Lib.hid (show qopP x.params = match getP x.params nQop with | none => some [] | some q => qopR q from rfl)
            clear A9 K9 hf
            go_upto_if 72 with fail
            go_cut [8, 9, 10, 11, 12, 13] from 67 to 96 (fun _ _ _ _ _ _ wz => QopMid w x pv A { zAsk with scheme := k, realm := bA realm, nonce := bA nonce, sess := sess } wz)
            case first =>
              have HQL := Lib.hid (GLEN.out nQop)
              cases hq : getP x.params nQop with
              | none =>
                go_wp2_with fail
                go_meet
                exact ⟨[], by rw [HQP.out, hq], K10, A10⟩
              | some q =>
                rw [hq] at HQP HQL
                simp only [Option.getD_some] at HQP HQL
                have hql : (bA q).size < 4398046511104 := by
                  have h : q.length ≤ 99999 := HQL.out
                  show q.length < _
                  omega
                have LI := Lib.hid (List_any (bA q) u10 hql)
                clear hql
                go_wp2_with fail
                refine LI.out.mono ?_
                intro e u11 hlp
                rcases list_ok q with ⟨ws, hws, hwl, hqo⟩ | ⟨hno, hqo⟩
                case inr =>
                  obtain ⟨lv, lt, lx, rfl, hf⟩ := hlp.isErr2 (by rw [bA_data]; exact hno)
                  have HE := Lib.hid (show knownL x = none by rw [HK1.out, HQP.out, hqo])
                  have K11 := K10.next hf
                  clear hlp hno hqo
                  go_wp2_with (first | ((with_reducible refine wpList_at ⟨none, .store 24 _ _, _, _, _, _⟩ ?_); go_must (refine wpList_store_row rfl 24 (.tmp 2) (.tmp 80) rfl (w.heap.size + 1) zAskA rfl rfl _ zAskA K11.res (by kernel_rfl) rfl zAskA_all ?_)) | fail)
                  refine bodyPost_ret (results_cell_tmp (by rfl) _ _ (w.heap.size + 1) 24 zAskA (0, 0) _ rfl (setRow_heap u11 (w.heap.size + 1) _ _ _ _ K11.res) Tryz.underlying24 rfl (by kernel_rfl)) rfl ?_
                  exact KnownPost.no (by exact HE.out) ((K11.fr).setRow (fun h => absurd h (by omega)) _)
                case inl =>
                  obtain ⟨lv, rfl, hlv, hf⟩ := hlp.isOk (ws := ws) (by rw [bA_data]; exact hws) hwl
                  have K11 := K10.next hf
                  have A11 : AskBlk u11 A { zAsk with scheme := k, realm := bA realm, nonce := bA nonce, sess := sess } := hf.keep A10 (fun h => h)
                  have hsz11 := hf.size
                  have HWZ := Lib.hid (show ∀ y ∈ wordsB ws, y.size < 17592186044416 from fun y hy => by
                    obtain ⟨w0, hw0, rfl⟩ := List.mem_map.1 hy
                    have h1 := listN_sub _ _ _ hws w0 hw0
                    have h2 : q.length ≤ 99999 := HQL.out
                    show w0.length < _
                    omega)
                  have HQO := Lib.hid (show qopP x.params = if (qK ws 2).isEmpty then none else some (qK ws 2) by rw [HQP.out, hqo, qK_two])
                  clear hlp hws hqo hf A10 K10
                  obtain ⟨u12, hu12⟩ : ∃ u12, u12 = u11.alloc (.cells #[.string (bA nInt), .string (bA nAuth)] 9) := ⟨_, rfl⟩
                  have hf : Fr noB u11 u12 := by rw [hu12]; exact (Fr.refl _ _).alloc _
                  have hb12 : u12.heap[u11.heap.size]? = some (.cells #[.string (bA nInt), .string (bA nAuth)] 9 (0, 0)) := by rw [hu12]; exact new_block _ _
                  have K12 := K11.next hf
                  have A12 : AskBlk u12 A { zAsk with scheme := k, realm := bA realm, nonce := bA nonce, sess := sess } := hf.keep A11 (fun h => h)
                  have hl12 := hlv.fr hf (fun _ h => h.elim)
                  have HU12 := Lib.hid hu12
                  obtain ⟨la, lc, hle⟩ := hl12.form
                  have hAB : A < u11.heap.size := by omega
                  clear hu12 hf A11 K11 hlv
                  subst hle
                  go_wp2_with fail
                  rw [show u11.alloc (.cells #[.string ⟨#[97, 117, 116, 104, 45, 105, 110, 116]⟩, .string ⟨#[97, 117, 116, 104]⟩] 9) = u12 from HU12.out.symm]
                  go_loopw [83] (QkRel w x pv A { zAsk with scheme := k, realm := bA realm, nonce := bA nonce, sess := sess } ws u12) (fun t _ => 2 - (intOf t).toNat)
                  case atStart => exact ⟨0, by omega, rfl, K12, A12, Fr.refl _ _⟩
                  case round =>
                    obtain ⟨m, hm, rfl, K13, A13, hfr⟩ := hrel
                    have hAr : A < wr.heap.size := lt_of_some A13
                    have hbr := hfr.keep hb12 (fun e => by have e' : u11.heap.size = A := e; omega)
                    have hlr := hl12.fr hfr (fun j e => by have e' : j = A := e; omega)
                    have c0 : wr.cell? ⟨u11.heap.size, 0, none⟩ = some (.string (bA nInt)) := by simp [World.cell?, hbr]
                    have c1 : wr.cell? ⟨u11.heap.size, 1, none⟩ = some (.string (bA nAuth)) := by simp [World.cell?, hbr]
                    have ROUND : ∀ n : Bs, n.length ≤ 8 → ∃ wn, wn = wr.alloc (.cells #[.string (bA n)] 9) ∧ NameAt wn wr.heap.size (bA n) ∧ Fr noB wr wn ∧ Calls Tryz.prog 64 #[.slice la (wordsB ws).length lc, .func (.func 65) #[] #[.pointer (some ⟨wr.heap.size, 0, none⟩)]] wn fun e w' => e = .returned (.bool (ws.any fun y => sameL y n)) ∧ Fr noB wn w' := by
                      intro n hn
                      have hfn : Fr noB wr (wr.alloc (.cells #[.string (bA n)] 9)) := (Fr.refl _ _).alloc _
                      have hb := new_block wr (.cells #[.string (bA n)] 9)
                      refine ⟨_, rfl, hb, hfn, ?_⟩
                      have h := Has_any (bA n) wr.heap.size _ (wordsB ws) _ (hlr.fr hfn (fun _ h => h.elim)).at (by rw [wordsB_len]; omega) hb (by show n.length < _; omega) HWZ.out
                      rw [any_words] at h
                      exact h
                    rcases (show m = 0 ∨ m = 1 ∨ m = 2 by omega) with rfl | rfl | rfl
                    case inl =>
                      obtain ⟨wn, hwn, hnn, hfn, CF⟩ := ROUND nInt (by decide)
                      have HWN := Lib.hid hwn
                      have hn0 : wn.cell? ⟨wr.heap.size, 0, none⟩ = some (.string (bA nInt)) := by simp [World.cell?, show wn.heap[wr.heap.size]? = _ from hnn]
                      clear ROUND hwn
                      go_wp2_with fail
                      rw [← HWN.out]
                      refine CF.mono ?_
                      rintro e w14 ⟨rfl, hf14⟩
                      have K14 := (K13.next hfn).next hf14
                      have A14 : AskBlk w14 A { zAsk with scheme := k, realm := bA realm, nonce := bA nonce, sess := sess, qop := bA (qK ws 0) } := hf14.keep (hfn.keep A13 (fun h => h)) (fun h => h)
                      have HF14 := Lib.hid ((hfr.trans hfn.ofNone).trans hf14.ofNone)
                      have hn14 : w14.cell? ⟨wr.heap.size, 0, none⟩ = some (.string (bA nInt)) := (hf14.cell (p := ⟨wr.heap.size, 0, none⟩) (lt_of_some hnn) (fun h => h)).trans hn0
                      have a5 := A14.cell (i := 5) rfl
                      have f5 := A14.free 5
                      cases hany : ws.any (fun y => sameL y nInt)
                      case false =>
                        have HQ1 := Lib.hid (show qK ws 1 = qK ws 0 by show (if ws.any (fun w => sameL w nInt) then nInt else []) = []; rw [hany]; rfl)
                        go_wp2
                        go_roundw
                        case rel => exact ⟨1, by omega, by go_num, K14, by rw [HQ1.out]; exact A14, HF14.out⟩
                        case measure => simp [intOf]
                      case true =>
                        have HQ1 := Lib.hid (show qK ws 1 = nInt by show (if ws.any (fun w => sameL w nInt) then nInt else []) = _; rw [hany]; rfl)
                        have K15 := K14.set (i := 5) (u := .string (bA nInt)) hA5
                        have A15 := A14.set (r' := { zAsk with scheme := k, realm := bA realm, nonce := bA nonce, sess := sess, qop := bA nInt }) 5 (.string (bA nInt)) rfl
                        have HF15 := Lib.hid (HF14.out.setCell (p := ⟨A, 5, none⟩) (fun _ => rfl) (.string (bA nInt)))
                        go_wp2
                        go_roundw
                        case rel => exact ⟨1, by omega, by go_num, K15, by rw [HQ1.out]; exact A15, HF15.out⟩
                        case measure => simp [intOf]
                    case inr.inl =>
                      obtain ⟨wn, hwn, hnn, hfn, CF⟩ := ROUND nAuth (by decide)
                      have HWN := Lib.hid hwn
                      have hn0 : wn.cell? ⟨wr.heap.size, 0, none⟩ = some (.string (bA nAuth)) := by simp [World.cell?, show wn.heap[wr.heap.size]? = _ from hnn]
                      clear ROUND hwn
                      go_wp2_with fail
                      rw [← HWN.out]
                      refine CF.mono ?_
                      rintro e w14 ⟨rfl, hf14⟩
                      have K14 := (K13.next hfn).next hf14
                      have A14 : AskBlk w14 A { zAsk with scheme := k, realm := bA realm, nonce := bA nonce, sess := sess, qop := bA (qK ws 1) } := hf14.keep (hfn.keep A13 (fun h => h)) (fun h => h)
                      have HF14 := Lib.hid ((hfr.trans hfn.ofNone).trans hf14.ofNone)
                      have hn14 : w14.cell? ⟨wr.heap.size, 0, none⟩ = some (.string (bA nAuth)) := (hf14.cell (p := ⟨wr.heap.size, 0, none⟩) (lt_of_some hnn) (fun h => h)).trans hn0
                      have a5 := A14.cell (i := 5) rfl
                      have f5 := A14.free 5
                      cases hany : ws.any (fun y => sameL y nAuth)
                      case false =>
                        have HQ1 := Lib.hid (show qK ws 2 = qK ws 1 by show (if ws.any (fun w => sameL w nAuth) then nAuth else qK ws 1) = _; rw [hany]; rfl)
                        go_wp2
                        go_roundw
                        case rel => exact ⟨2, by omega, by go_num, K14, by rw [HQ1.out]; exact A14, HF14.out⟩
                        case measure => simp [intOf]
                      case true =>
                        have HQ1 := Lib.hid (show qK ws 2 = nAuth by show (if ws.any (fun w => sameL w nAuth) then nAuth else qK ws 1) = _; rw [hany]; rfl)
                        have K15 := K14.set (i := 5) (u := .string (bA nAuth)) hA5
                        have A15 := A14.set (r' := { zAsk with scheme := k, realm := bA realm, nonce := bA nonce, sess := sess, qop := bA nAuth }) 5 (.string (bA nAuth)) rfl
                        have HF15 := Lib.hid (HF14.out.setCell (p := ⟨A, 5, none⟩) (fun _ => rfl) (.string (bA nAuth)))
                        go_wp2
                        go_roundw
                        case rel => exact ⟨2, by omega, by go_num, K15, by rw [HQ1.out]; exact A15, HF15.out⟩
                        case measure => simp [intOf]
                    case inr.inr =>
                      have a5 := A13.cell (i := 5) rfl
                      clear ROUND c0 c1
                      cases hqe : (qK ws 2).isEmpty
                      case true =>
                        have HE := Lib.hid (show knownL x = none by rw [HK1.out, HQO.out, hqe]; rfl)
                        have e1 : (bA (qK ws 2)).toList = [] := by rw [bA_toList]; exact List.isEmpty_iff.1 hqe
                        have e2 : ((bA (qK ws 2)).toList == []) = true := beq_iff_eq.2 e1
                        go_wp2_with (first | ((with_reducible refine wpList_at ⟨none, .store 24 _ _, _, _, _, _⟩ ?_); go_must (refine wpList_store_row rfl 24 (.tmp 2) (.tmp 96) rfl (w.heap.size + 1) zAskA rfl rfl _ zAskA K13.res (by kernel_rfl) rfl zAskA_all ?_)) | fail)
                        refine bodyPost_ret (results_cell_tmp (by rfl) _ _ (w.heap.size + 1) 24 zAskA (0, 0) _ rfl (setRow_heap wr (w.heap.size + 1) _ _ _ _ K13.res) Tryz.underlying24 rfl (by kernel_rfl)) rfl ?_
                        exact KnownPost.no (by exact HE.out) ((K13.fr).setRow (fun h => absurd h (by omega)) _)
                      case false =>
                        have e1 : ¬ (bA (qK ws 2)).toList = [] := by rw [bA_toList]; intro e; rw [e] at hqe; cases hqe
                        have e2 : ((bA (qK ws 2)).toList == []) = false := beq_eq_false_iff_ne.2 e1
                        go_wp2_with fail
                        go_meet
                        exact ⟨qK ws 2, by rw [HQO.out, hqe]; rfl, K13, A13⟩
            case rest =>
            obtain ⟨q, hqp, K20, A20⟩ := hcut
            have HE1 := Lib.hid (show knownL x = some ⟨k, bA realm, bA nonce, bA ((getP x.params nOpaque).getD []), sess, bA q, sameL ((getP x.params nStale).getD []) nTrue, (domR ((getP x.params nDomain).getD [])).map bA⟩ by rw [HK1.out, hqp])
            clear HK1 hqp HQP K10 A10
            have x0 := K20.cha.cell0
            have x1 := K20.cha.cell1
            have x2 := K20.cha.cell2
            go_wp2_with fail
            refine (GET.out nOpaque wc (by decide) K20.fr).mono ?_
            rintro e u21 ⟨rfl, hf⟩
            have K21 := K20.next hf
            have A21 : AskBlk u21 A { zAsk with scheme := k, realm := bA realm, nonce := bA nonce, sess := sess, qop := bA q } := hf.keep A20 (fun h => h)
            clear x0 x1 x2 A20 K20 hf
            generalize (getP x.params nOpaque).getD [] = op at *
            have a3 := A21.cell (i := 3) rfl
            have f3 := A21.free 3
            have K22 := K21.set (i := 3) (u := .string (bA op)) hA5
            have A22 := A21.set (r' := { zAsk with scheme := k, realm := bA realm, nonce := bA nonce, opaq := bA op, sess := sess, qop := bA q }) 3 (.string (bA op)) rfl
            have x0 := K22.cha.cell0
            have x1 := K22.cha.cell1
            have x2 := K22.cha.cell2
            go_wp2_with fail
            clear a3 f3 A21 K21 x0 x1 x2
            generalize u21.setCell ⟨A, 3, none⟩ (.string (bA op)) = u22 at *
            refine (GET.out nStale u22 (by decide) K22.fr).mono ?_
            rintro e u23 ⟨rfl, hf⟩
            have K23 := K22.next hf
            have A23 : AskBlk u23 A { zAsk with scheme := k, realm := bA realm, nonce := bA nonce, opaq := bA op, sess := sess, qop := bA q } := hf.keep A22 (fun h => h)
            have HSL := Lib.hid (GLEN.out nStale)
            generalize (getP x.params nStale).getD [] = st at *
            have hsl : (bA st).size < 17592186044416 := by have h : st.length ≤ 99999 := HSL.out; show st.length < _; omega
            have SMT := Lib.hid (Same_any (bA st) (bA nTrue) u23 hsl (by decide))
            rw [bA_data, bA_data] at SMT
            clear hsl HSL A22 K22 hf
            go_wp2_with fail
            refine SMT.out.mono ?_
            rintro e u24 ⟨rfl, hf⟩
            have K24 := K23.next hf
            have A24 : AskBlk u24 A { zAsk with scheme := k, realm := bA realm, nonce := bA nonce, opaq := bA op, sess := sess, qop := bA q } := hf.keep A23 (fun h => h)
            have a6 := A24.cell (i := 6) rfl
            have f6 := A24.free 6
            have K25 := K24.set (i := 6) (u := .bool (sameL st nTrue)) hA5
            have A25 := A24.set (r' := { zAsk with scheme := k, realm := bA realm, nonce := bA nonce, opaq := bA op, sess := sess, qop := bA q, stale := sameL st nTrue }) 6 (.bool (sameL st nTrue)) rfl
            have x0 := K25.cha.cell0
            have x1 := K25.cha.cell1
            have x2 := K25.cha.cell2
            clear SMT A23 K23 hf
            go_wp2_with fail
            clear a6 f6 A24 K24 x0 x1 x2
            generalize u24.setCell ⟨A, 6, none⟩ (.bool (sameL st nTrue)) = u25 at *
            refine (GET.out nDomain u25 (by decide) K25.fr).mono ?_
            rintro e u26 ⟨rfl, hf⟩
            have K26 := K25.next hf
            have A26 : AskBlk u26 A { zAsk with scheme := k, realm := bA realm, nonce := bA nonce, opaq := bA op, sess := sess, qop := bA q, stale := sameL st nTrue } := hf.keep A25 (fun h => h)
            have HDL := Lib.hid (GLEN.out nDomain)
            generalize (getP x.params nDomain).getD [] = d at *
            have hA26 : A < u26.heap.size := lt_of_some A26
            have SP := Lib.hid (show Calls Tryz.prog 66 #[.string (bA d), .string ⟨#[32]⟩] u26 fun e w' => e = .returned (.slice (some ⟨u26.heap.size, 0, none⟩) (splitL 32 d).length (splitL 32 d).length) ∧ w' = u26.alloc (.cells (((splitL 32 d).map bA).map Value.string).toArray 9) from by
              have h := Split1_any (bA d) 32 u26 (by have h : d.length ≤ 99999 := HDL.out; show d.length < _; omega)
              rw [partsB_bA, List.length_map] at h
              exact h)
            obtain ⟨HSC, HSP⟩ := splitL_le 32 d
            clear hf A25 K25
            go_wp2_with fail
            refine SP.out.mono ?_
            rintro e u27 ⟨rfl, hu27⟩
            have hf : Fr noB u26 u27 := by rw [hu27]; exact (Fr.refl _ _).alloc _
            have hpb : u27.heap[u26.heap.size]? = some (.cells (((splitL 32 d).map bA).map Value.string).toArray 9 (0, 0)) := by rw [hu27]; exact new_block _ _
            have K27 := K26.next hf
            have A27 : AskBlk u27 A { zAsk with scheme := k, realm := bA realm, nonce := bA nonce, opaq := bA op, sess := sess, qop := bA q, stale := sameL st nTrue } := hf.keep A26 (fun h => h)
            generalize hPb : u26.heap.size = Pb at *
            clear SP hu27 hf A26 K26
            go_wp2_with fail
            go_loopw [119] (DmRel w x pv A Pb { zAsk with scheme := k, realm := bA realm, nonce := bA nonce, opaq := bA op, sess := sess, qop := bA q, stale := sameL st nTrue } d) (fun t _ => (splitL 32 d).length - (intOf t).toNat)
            case atStart => exact ⟨0, .slice none 0 0, Nat.zero_le _, rfl, K27, A27, Strs.nil _ _, hpb, fun j e => by simp [Value.ownBlock] at e⟩
            case round =>
                obtain ⟨m, v, hm, rfl, K30, A30, hv30, hpb30, hvP⟩ := hrel
                have hAr : A < wr.heap.size := lt_of_some A30
                have hd : d.length ≤ 99999 := HDL.out
                by_cases hms : m < (splitL 32 d).length
                case pos =>
                  have hmi : (m : Int) < ((splitL 32 d).length : Int) := by omega
                  have hat := Lib.hid (List.getElem?_eq_getElem hms)
                  have hpl := HSP _ (List.getElem_mem hms)
                  generalize (splitL 32 d)[m] = p at hat hpl
                  have c0 : wr.cell? ⟨Pb, m, none⟩ = some (.string (bA p)) := by
                    simp only [World.cell?, hpb30]
                    rw [List.getElem?_toArray, List.getElem?_map, List.getElem?_map, hat.out]; rfl
                  have HSU := Lib.hid (domTo_succ hat.out)
                  have HP := Lib.hid (show Calls Tryz.prog 67 #[.string (bA p), .string ⟨#[47]⟩] wr fun e w' => e = .returned (.bool (hdB 47 p)) ∧ wr = w' from by
                    have h := Tryz.strings_HasPrefix (bA p) ⟨#[47]⟩ wr
                    rw [bA_data, show (⟨#[47]⟩ : ByteArray).data.toList = [47] from rfl, pre47] at h
                    exact h.mono (fun e w' ⟨h1, h2⟩ => ⟨h1, h2.symm⟩))
                  go_wp2_with fail
                  refine HP.out.mono ?_
                  rintro e w31 ⟨rfl, rfl⟩
                  clear HP c0
                  cases hpf : hdB 47 p
                  case false =>
                    have HSU2 := Lib.hid (show domTo d (m + 1) = domTo d m by rw [HSU.out, hpf]; simp)
                    go_wp2
                    go_roundw
                    case rel => exact ⟨m + 1, v, by omega, by go_num, K30, A30, by rw [HSU2.out]; exact hv30, hpb30, hvP⟩
                    case measure => simp [intOf]; omega
                  case true =>
                    have HSU2 := Lib.hid (show (domTo d (m + 1)).map bA = (domTo d m).map bA ++ [bA (cleanL p)] by rw [HSU.out, hpf]; simp)
                    have HCL := Lib.hid (show ∀ U, Calls Tryz.prog 68 #[.string (bA p)] U fun e w' => e = .returned (.string (bA (cleanL p))) ∧ Fr noB U w' from fun U => by
                      have h := Clean_any (bA p) U (by show p.length < _; omega)
                      rw [bA_data] at h
                      exact h)
                    obtain ⟨va, vc, hve⟩ := hv30.form
                    rw [List.length_map] at hve
                    have hdl := domTo_len d m
                    subst hve
                    have a7 : wr.cell? ⟨A, 7, none⟩ = some (.slice va (domTo d m).length vc) := A30.cell rfl
                    have f7 := A30.free 7
                    have hoA : (Value.slice va (domTo d m).length vc).ownBlock ≠ some A := fun e => by
                      obtain ⟨cur, hc⟩ := hv30.kind e
                      rw [show wr.heap[A]? = _ from A30] at hc
                      simp at hc
                    have hkeep := Lib.hid (show ∀ U, Fr noB wr U → U.cell? ⟨A, 7, none⟩ = some (.slice va (domTo d m).length vc) ∧ U.frozen? ⟨A, 7, none⟩ = false from fun U hU => ⟨(hU.cell (p := ⟨A, 7, none⟩) hAr (fun h => h)).trans a7, (hU.frozen (p := ⟨A, 7, none⟩) hAr (fun h => h)).trans f7⟩)
                    obtain ⟨i0, hi0, hz0, hz1, hz2⟩ := info_parts info_str
                    have hwr : w.heap.size ≤ wr.heap.size := K30.fr.size
                    have HV30 := Lib.hid hv30
                    clear hv30 hpf
                    go_wp2_with fail
                    go_region_law (first
                      | ((with_reducible refine step_at ⟨some 128, _, _, _, _, _⟩ ?_)
                         refine step_call rfl 68 _ (by go_simp) (HCL.out _) ?_
                         rintro e w3 ⟨rfl, hf3⟩
                         refine ⟨_, rfl, ?_⟩
                         have HF3 : Fr noB wr w3 := Fr.trans (by repeat (first | exact Fr.refl _ _ | apply Fr.drew)) hf3
                         obtain ⟨k3, l3⟩ := hkeep.out w3 HF3
                         have k3a : ∀ o : Obj, (w3.alloc o).cell? ⟨A, 7, none⟩ = some (.slice va (domTo d m).length vc) := fun o => (hkeep.out _ (HF3.alloc o)).1
                         have hown3 := HV30.out.fr HF3 (fun _ h => h.elim)
                         have hb3 : w.heap.size ≤ w3.heap.size := Nat.le_trans hwr HF3.size
                         have hown3b : w3.ownsRow w.heap.size 9 1 (.slice va (domTo d m).length vc) (domTo d m).length (((domTo d m).map bA).map Value.string) := by
                           have hh : w3.ownsRow w.heap.size 9 1 (.slice va (domTo d m).length vc) ((domTo d m).map bA).length (((domTo d m).map bA).map Value.string) := hown3
                           rw [List.length_map] at hh
                           exact hh
                         clear hf3)
                      | ((with_reducible refine step_at ⟨some 130, _, _, _, _, _⟩ ?_)
                         refine step_append_lies _ (by rfl) _ _ _ (by rfl) w.heap.size 9 i0 _ 1 16 Tryz.underlying22 hi0 hz0 hz1 hz2 rfl (by omega) (.slice va (domTo d m).length vc) (domTo d m).length _ (by rfl) (by repeat (first | exact hown3b | apply World.ownsRow.alloc | apply World.ownsRow.drew)) ⟨w3.heap.size, 0, none⟩ 1 1 [.string (bA (cleanL p))] (by rfl) (by rfl) (new_cells w3 [.string (bA (cleanL p))] _) (by simp [Value.oneCell']) (by omega) (by unfold maxLen; omega) (by omega) (by simp; omega) (w3.heap.size + 1) (by simp) ?_
                         intro gg cap w4 hown4 hgrow hatg hlt4
                         have HF34 : Fr (fun k => (Value.slice va (domTo d m).length vc).ownBlock = some k) w3 w4 := Fr.grown (by repeat (first | exact Fr.refl _ _ | apply Fr.drew | apply Fr.alloc)) hgrow (fun _ hk _ => hk)
                         have hA3 : A < w3.heap.size := Nat.lt_of_lt_of_le hAr HF3.size
                         have k4 : w4.cell? ⟨A, 7, none⟩ = some (.slice va (domTo d m).length vc) := (HF34.cell (p := ⟨A, 7, none⟩) hA3 hoA).trans k3
                         have e4 : w4.frozen? ⟨A, 7, none⟩ = false := (HF34.frozen (p := ⟨A, 7, none⟩) hA3 hoA).trans l3))
                    all_goals
                      have hv3 : Strs w.heap.size w3 (.slice va (domTo d m).length vc) ((domTo d m).map bA) := hown3
                      have K31 := (K30.next HF3).own hv3 HF34
                      have A31 : AskBlk w4 A { { zAsk with scheme := k, realm := bA realm, nonce := bA nonce, opaq := bA op, sess := sess, qop := bA q, stale := sameL st nTrue } with dom := .slice va (domTo d m).length vc } := HF34.keep (HF3.keep A30 (fun h => h)) hoA
                      have hPl : Pb < wr.heap.size := lt_of_some hpb30
                      have hpb31 := HF34.keep (HF3.keep hpb30 (fun h => h)) (fun e => absurd (hvP Pb e) (Nat.lt_irrefl _))
                      have hvg : Strs w.heap.size w4 (.slice (some ⟨gg, 0, none⟩) ((domTo d m).length + 1) cap) ((domTo d (m + 1)).map bA) := by
                        rw [HSU2.out]
                        have e1 : ((domTo d m).map bA ++ [bA (cleanL p)]).length = (domTo d m).length + 1 := by simp
                        unfold Strs
                        rw [e1, List.map_append]; exact hown4
                      have hfA : Fr (one A) w4 (w4.setCell ⟨A, 7, none⟩ (.slice (some ⟨gg, 0, none⟩) ((domTo d m).length + 1) cap)) := (Fr.refl (one A) w4).setCell (p := ⟨A, 7, none⟩) (fun _ => rfl) _
                      have hvg2 := hvg.off1 hfA A31 (by decide)
                      have K32 := K31.set (i := 7) (u := .slice (some ⟨gg, 0, none⟩) ((domTo d m).length + 1) cap) hA5
                      have A32 := A31.set (r' := { { zAsk with scheme := k, realm := bA realm, nonce := bA nonce, opaq := bA op, sess := sess, qop := bA q, stale := sameL st nTrue } with dom := .slice (some ⟨gg, 0, none⟩) ((domTo d m).length + 1) cap }) 7 (.slice (some ⟨gg, 0, none⟩) ((domTo d m).length + 1) cap) rfl
                      have hpb32 := hfA.keep hpb31 (fun e => by have e' : Pb = A := e; omega)
                      have hvP2 : ∀ j, (Value.slice (some ⟨gg, 0, none⟩) ((domTo d m).length + 1) cap).ownBlock = some j → Pb < j := by
                        intro j hj
                        simp only [Value.ownBlock, Option.some.injEq] at hj
                        subst hj
                        rcases hatg with e | e
                        · exact hvP _ e
                        · have := HF3.size; omega
                      clear k4 e4 hgrow hown4 hown3 hown3b HF34 k3 k3a l3 hkeep
                      go_wp2
                      go_roundw
                      case rel => exact ⟨m + 1, _, by omega, by go_num, K32, A32, hvg2, hpb32, hvP2⟩
                      case measure => simp [intOf]; omega
                case neg =>
                  have hmi : ¬ (m : Int) < ((splitL 32 d).length : Int) := by omega
                  have HV40 := Lib.hid hv30
                  have HDR := Lib.hid (show domTo d m = domR d from domTo_all (by omega))
                  have hvo : v.oneCell' = true := by obtain ⟨va, vc, hve⟩ := hv30.form; rw [hve]; rfl
                  have HR0 := Lib.hid K30.res
                  clear hv30 HSP HSC
                  have hri : (Tryz.prog.info? 24).map (·.size) = some ({ { zAsk with scheme := k, realm := bA realm, nonce := bA nonce, opaq := bA op, sess := sess, qop := bA q, stale := sameL st nTrue } with dom := v }).cells.toArray.size := by kernel_rfl
                  have hrb : wr.heap[A]? = some (.cells ({ { zAsk with scheme := k, realm := bA realm, nonce := bA nonce, opaq := bA op, sess := sess, qop := bA q, stale := sameL st nTrue } with dom := v }).cells.toArray 24 (0, 0)) := A30
                  have hro := ask_all ({ { zAsk with scheme := k, realm := bA realm, nonce := bA nonce, opaq := bA op, sess := sess, qop := bA q, stale := sameL st nTrue } with dom := v }) hvo
                  go_wp2_with (first | ((with_reducible refine wpList_at ⟨some 133, _, _, _, _, _⟩ ?_); go_must (refine wpList_load_row rfl 24 (.tmp 6) rfl A rfl _ ({ { zAsk with scheme := k, realm := bA realm, nonce := bA nonce, opaq := bA op, sess := sess, qop := bA q, stale := sameL st nTrue } with dom := v }).cells.toArray (0, 0) _ hrb Tryz.underlying24 rfl hri ?_)) | ((with_reducible refine wpList_at ⟨none, .store 24 _ _, _, _, _, _⟩ ?_); go_must (refine wpList_store_row rfl 24 (.tmp 2) (.tmp 133) rfl (w.heap.size + 1) ({ { zAsk with scheme := k, realm := bA realm, nonce := bA nonce, opaq := bA op, sess := sess, qop := bA q, stale := sameL st nTrue } with dom := v }).cells.toArray rfl rfl _ zAskA K30.res hri rfl hro ?_)) | fail)
                  refine bodyPost_ret (results_cell_tmp (by rfl) _ _ (w.heap.size + 1) 24 ({ { zAsk with scheme := k, realm := bA realm, nonce := bA nonce, opaq := bA op, sess := sess, qop := bA q, stale := sameL st nTrue } with dom := v }).cells.toArray (0, 0) _ rfl (setRow_heap wr (w.heap.size + 1) _ _ _ _ K30.res) Tryz.underlying24 rfl hri) rfl ?_
                  exact KnownPost.yes (by rw [HE1.out]) ((K30.fr).setRow (fun h => absurd h (by omega)) _) ⟨rfl, rfl, rfl, rfl, rfl, rfl, rfl, by rw [← HDR.out]; exact HV40.out.off1 ((Fr.refl (one (w.heap.size + 1)) wr).setRow (fun _ => rfl) _) HR0.out (by decide)⟩
end Go.Proofs.YtkoobhgedoanhaaGreatDoor

namespace Go.Proofs.YtkoobhgedoanhaaGreatDoor
open Go.RowKit

theorem lowB_all : ∀ n : Fin 256, lowB (lowB n.val.toUInt8) = lowB n.val.toUInt8 := by decide +kernel
theorem lowB_lowB (c : UInt8) : lowB (lowB c) = lowB c := by
  have h := lowB_all ⟨c.toNat, c.toNat_lt⟩
  simpa using h
theorem lowL_lowL (l : List UInt8) : lowL (lowL l) = lowL l := by
  unfold lowL
  rw [List.map_map]
  apply List.map_congr_left
  intro c _
  exact lowB_lowB c
theorem lowL_len (l : List UInt8) : (lowL l).length = l.length := by unfold lowL; simp
theorem sameL_self (a : List UInt8) : sameL a a = true := by unfold sameL; simp
theorem sameL_sym (a b : List UInt8) : sameL b a = sameL a b := by unfold sameL; rw [Bool.eq_iff_iff, beq_iff_eq, beq_iff_eq]; exact eq_comm
theorem sameL_trans {a b c : List UInt8} (h1 : sameL a b = true) (h2 : sameL b c = true) : sameL a c = true := by
  unfold sameL at *
  rw [beq_iff_eq] at *
  rw [h1, h2]
theorem sameL_low (a : List UInt8) : sameL a (lowL a) = true := by unfold sameL; rw [lowL_lowL]; simp
theorem lowSize (a : ByteArray) : (⟨(lowL a.data.toList).toArray⟩ : ByteArray).size = a.size := by
  show (lowL a.data.toList).toArray.size = a.size
  have h : a.data.toList.length = a.size := rfl
  simp [lowL_len]

end Go.Proofs.YtkoobhgedoanhaaGreatDoor
