/- The law BookFew: its walk. -/
import Derived.Test.YtkoobhgedoanhaaDoorBooked
namespace Go.Proofs.YtkoobhgedoanhaaDoor
open Go.RowKit

theorem few_law {ls ms : List Pas} {t u : Int} : Uniq (bookPut (bookPut [] ls t) ms u) ∧ (∀ p ∈ bookPut (bookPut [] ls t) ms u, u < p.til) ∧ (bookPut (bookPut [] ls t) ms u).length ≤ 32 :=
  ⟨bookPut_uniq _ _ (bookPut_uniq _ _ List.Pairwise.nil), fun _ hp => (bookPut_mem hp).1, bookPut_len _ _ _⟩
theorem uniq_at {l : List Pas} (h : Uniq l) {i k : Nat} {p q : Pas} (hk : l[k]? = some q) (hi : l[i]? = some p) (hki : k < i) : ({ q with til := p.til } : Pas).eqB p = false := by
  have hlk := (List.getElem?_eq_some_iff.1 hk)
  have hli := (List.getElem?_eq_some_iff.1 hi)
  obtain ⟨h1, e1⟩ := hlk
  obtain ⟨h2, e2⟩ := hli
  have := List.pairwise_iff_getElem.1 h k i h1 h2 hki
  rw [e1, e2] at this
  rw [Bool.eq_false_iff]
  intro e
  exact this ((like_iff q p).1 e)
def BfRel (n : Nat) (w : World) (t : Value) (wr : World) : Prop := ∃ k : Nat, k ≤ n ∧ t = .int .i64 k ∧ Fr noB w wr
set_option maxHeartbeats 8000000 in
set_option maxRecDepth 100000 in
theorem BookFew_walk (v1 : Value) (ls : List Pas) (v2 : Value) (ms : List Pas) (t u : Int) (w : World) (st0 : PasAt w v1 ls ∧ ls.length ≤ 140737488355328 ∧ ∀ p ∈ ls, p.Sized) (st1 : PasAt w v2 ms ∧ ms.length ≤ 140737488355328 ∧ ∀ p ∈ ms, p.Sized) :
    Calls Tryd.prog 4 #[v1, v2, .int .i64 t, .int .i64 u] w fun e w' => e = .returned (.bool true) ∧ Below w.heap.size w w' := by
  obtain ⟨h1, l1, z1⟩ := st0
  obtain ⟨h2, l2, z2⟩ := st1
  have HP1 := Lib.hid (fun U (hU : Fr noB w U) => passes_any v1 ls U (RowsAt.frNone h1 hU) l1 z1)
  have HP2 := Lib.hid (fun U (hU : Fr noB w U) => passes_any v2 ms U (RowsAt.frNone h2 hU) l2 z2)
  obtain ⟨a1, c1, hf1⟩ := RowsAt.form h1
  obtain ⟨a2, c2, hf2⟩ := RowsAt.form h2
  have H1 := Lib.hid h1
  have H2 := Lib.hid h2
  subst hf1 hf2
  rw [List.length_map] at HP1 HP2 H1 H2 ⊢
  rw [List.length_map]
  clear h1 h2 l1 l2 z1 z2
  go_enter Tryd.func4, Tryd.ntmps4
  go_wp2_with fail
  refine (booked_any w).mono ?_
  rintro e w1 ⟨rfl, hw1⟩
  go_wp2_with fail
  refine (HP1.out w1 hw1).mono ?_
  rintro e w2 ⟨rfl, hw2⟩
  have HW2 := Lib.hid (hw1.trans hw2)
  clear hw1 hw2
  cases hp1 : passesB ls
  · go_wp2
    go_ret
    exact ⟨rfl, HW2.out.none_below⟩
  · go_wp2_with fail
    refine (HP2.out w2 HW2.out).mono ?_
    rintro e w3 ⟨rfl, hw3⟩
    have HW3 := Lib.hid (HW2.out.trans hw3)
    clear hw3
    cases hp2 : passesB ms
    · go_wp2
      go_ret
      exact ⟨rfl, HW3.out.none_below⟩
    · have hlen : ls.length ≤ 60 ∧ ms.length ≤ 60 := by
        unfold passesB at hp1 hp2
        simp only [Bool.and_eq_true, decide_eq_true_eq] at hp1 hp2
        exact ⟨hp1.1, hp2.1⟩
      obtain ⟨hl1, hl2⟩ := hlen
      clear hp1 hp2 HP1 HP2
      have hb0 := BookIs.new w3
      have hfb : Fr noB w3 (w3.alloc (.cells #[.slice none 0 0] 57)) := (Fr.refl _ _).alloc _
      have hput := BookPut_any w3.heap.size _ w3.heap.size _ [] _ ls t hb0 (RowsAt.frNone H1.out (HW3.out.trans hfb)) (fun hne k hk h => by
        have hlt := RowsAt.lt (RowsAt.frNone H1.out HW3.out) (by simpa using hne) k hk
        rcases h with h | h
        · omega
        · simp [own, Value.ownBlock] at h) (by simp; omega)
      have HPUT := Lib.hid hput
      have HFB := Lib.hid (HW3.out.trans hfb)
      clear hput hfb hb0
      go_wp2_with fail
      refine HPUT.out.mono ?_
      rintro e w4 ⟨rfl, v4, hb4, hf4, hfo4⟩
      have hs3 : w.heap.size ≤ w3.heap.size := HW3.out.size
      have hnb : ∀ k, k < w3.heap.size → ¬ bookF w3.heap.size (.slice none 0 0) k := fun k hk h => by
        rcases h with h | h
        · omega
        · simp [own, Value.ownBlock] at h
      have HF4 := Lib.hid (Fr.step (S := noB) HFB.out hf4 (fun k hk h => absurd h (hnb k (by omega))))
      have hput := BookPut_any w3.heap.size w4 w3.heap.size v4 _ _ ms u hb4 (RowsAt.frNone H2.out HF4.out) (fun hne k hk h => by
        have hlt := RowsAt.lt H2.out (by simpa using hne) k hk
        rcases h with h | h
        · omega
        · rcases hfo4 k (Or.inr h) with h | h
          · exact hnb k (by omega) h
          · simp at h; omega) (by have := bookPut_len [] ls t; omega)
      have HPUT := Lib.hid hput
      have HFO4 := Lib.hid hfo4
      clear hput hb4 hf4 HFB hfo4
      go_wp2_with fail
      refine HPUT.out.mono ?_
      rintro e w5 ⟨rfl, v5, hb5, hf5, _⟩
      have HF5 := Lib.hid (Fr.step (S := noB) HF4.out hf5 (fun k hk h => by
        rcases h with h | h
        · omega
        · rcases HFO4.out k (Or.inr h) with h | h
          · exact absurd h (hnb k (by omega))
          · simp at h; omega))
      obtain ⟨hun, htil, hn32⟩ := few_law (ls := ls) (ms := ms) (t := t) (u := u)
      obtain ⟨PS, hPS⟩ : ∃ PS, PS = bookPut (bookPut [] ls t) ms u := ⟨_, rfl⟩
      rw [← hPS] at hb5 hun htil hn32
      have HLI := Lib.hid (BookList_any w3.heap.size w5 w3.heap.size v5 PS hb5 (by omega))
      have HUN := Lib.hid hun
      have HTIL := Lib.hid htil
      clear hPS hb5 hf5 hun htil HFO4 HPUT hnb
      go_wp2_with fail
      refine HLI.out.mono ?_
      rintro e w6 ⟨v6, rfl, ho6, hf6⟩
      obtain ⟨a6, c6, h6⟩ := ho6.form
      rw [List.length_map] at h6
      subst h6
      have HF6 := Lib.hid (HF5.out.trans hf6)
      have hrows : RowsAt 12 w6 (.slice a6 PS.length c6) (PS.map Pas.cells) := ho6.at
      clear ho6 hf6 HLI
      go_wp2
      go_loopw [11] (BfRel PS.length w6) (fun t _ => PS.length - (intOf t).toNat)
      case atStart => exact ⟨0, Nat.zero_le _, rfl, Fr.refl _ _⟩
      case round =>
        obtain ⟨i, hi, rfl, hfr⟩ := hrel
        have HFRO := Lib.hid hfr
        by_cases his : i < PS.length
        · have hii : (i : Int) < (PS.length : Int) := by omega
          have hi0 : (0 : Int) ≤ (i : Int) := by omega
          have hat := Lib.hid (List.getElem?_eq_getElem his)
          have hmem := Lib.hid (List.getElem_mem his)
          generalize PS[i] = p at hat hmem
          have HT := Lib.hid (HTIL.out p hmem.out)
          rcases hrows.2 with ⟨_, _, _, e, _⟩ | ⟨bk, of, c, hf, g1, g2, g3, g4⟩
          · have : PS.length = 0 := by have := congrArg List.length e; simpa using this
            omega
          rw [List.length_map] at hf g1
          cases hf
          unfold maxLen at g2
          have HCELL := Lib.hid (show ∀ U, Fr noB w6 U → ∀ (j : Nat) q, PS[j]? = some q → ∀ (m : Nat) v, q.cells[m]? = some v → U.cell? ⟨bk, of + j * 12 + m, none⟩ = some v from fun U hU j q hq m v hv => by
            have h := g4 j q.cells (by rw [List.getElem?_map, hq]; rfl) m v hv
            exact (hU.cell (p := ⟨bk, of + j * 12 + m, none⟩) g3 (fun h => h)).trans h)
          clear g4 hfr
          go_wp2
          go_loopw [12] (BfRel i wr) (fun t _ => i - (intOf t).toNat)
          case atStart => exact ⟨0, Nat.zero_le _, rfl, Fr.refl _ _⟩
          case round =>
            obtain ⟨k, hk, rfl, hfr2⟩ := hrel
            have hfk := HFRO.out.trans hfr2
            by_cases hks : k < i
            · have hki : (k : Int) < (i : Int) := by omega
              have hk0 : (0 : Int) ≤ (k : Int) := by omega
              have hkn : (k : Int) < (PS.length : Int) := by omega
              have hat2 := Lib.hid (List.getElem?_eq_getElem (show k < PS.length by omega))
              generalize PS[k] = q at hat2
              have HNE := Lib.hid (uniq_at HUN.out hat2.out hat.out hks)
              have hcell := HCELL.out wr hfk k q hat2.out
              have heq := run_eql_pas ({ q with til := p.til } : Pas) p
              rw [HNE.out] at heq
              have hst := fun W => run_storeCells_new (P := Tryd.prog) W 63 zPa q.cells rfl q.cells_one
              have hxi : (Tryd.prog.info? 63).map (·.size) = some q.cells.length := sizePa rfl
              have HXI := Lib.hid hxi
              have hnewA := new_block wr (.cells q.cells.toArray 63)
              have hnewB := new_block wr (.cells ({ q with til := p.til } : Pas).cells.toArray 63)
              have hfB : Fr noB w6 (wr.alloc (.cells ({ q with til := p.til } : Pas).cells.toArray 63)) := hfk.alloc _
              have hpc := HCELL.out _ hfB i p hat.out
              have hpA := HCELL.out (wr.alloc (.cells q.cells.toArray 63)) (hfk.alloc _) i p hat.out 11 _ rfl
              have HF9 := Lib.hid (hfr2.alloc (.cells ({ q with til := p.til } : Pas).cells.toArray 63))
              unfold Pas.cells at hcell hst hnewA hnewB hpc hpA heq HF9
              dsimp only at hnewB heq hpc HF9
              have d11 : (wr.alloc (.cells #[.bool q.frm.secure, .string q.frm.host, .int .i64 q.frm.port, .bool q.o.secure, .string q.o.host, .int .i64 q.o.port, .string q.path, .string q.query, .bool q.wth, .string q.method, .string q.head, .int .i64 q.til] 63)).cell? ⟨wr.heap.size, 11, none⟩ = some (.int .i64 q.til) := by simp only [World.cell?, hnewA]; rfl
              have e11 : (wr.alloc (.cells #[.bool q.frm.secure, .string q.frm.host, .int .i64 q.frm.port, .bool q.o.secure, .string q.o.host, .int .i64 q.o.port, .string q.path, .string q.query, .bool q.wth, .string q.method, .string q.head, .int .i64 q.til] 63)).frozen? ⟨wr.heap.size, 11, none⟩ = false := by simp only [World.frozen?, hnewA]; rfl
              have b0 : (wr.alloc (.cells #[.bool q.frm.secure, .string q.frm.host, .int .i64 q.frm.port, .bool q.o.secure, .string q.o.host, .int .i64 q.o.port, .string q.path, .string q.query, .bool q.wth, .string q.method, .string q.head, .int .i64 p.til] 63)).cell? ⟨wr.heap.size, 0, none⟩ = some (.bool q.frm.secure) := by simp only [World.cell?, hnewB]; rfl
              have b1 : (wr.alloc (.cells #[.bool q.frm.secure, .string q.frm.host, .int .i64 q.frm.port, .bool q.o.secure, .string q.o.host, .int .i64 q.o.port, .string q.path, .string q.query, .bool q.wth, .string q.method, .string q.head, .int .i64 p.til] 63)).cell? ⟨wr.heap.size, 1, none⟩ = some (.string q.frm.host) := by simp only [World.cell?, hnewB]; rfl
              have b2 : (wr.alloc (.cells #[.bool q.frm.secure, .string q.frm.host, .int .i64 q.frm.port, .bool q.o.secure, .string q.o.host, .int .i64 q.o.port, .string q.path, .string q.query, .bool q.wth, .string q.method, .string q.head, .int .i64 p.til] 63)).cell? ⟨wr.heap.size, 2, none⟩ = some (.int .i64 q.frm.port) := by simp only [World.cell?, hnewB]; rfl
              have b3 : (wr.alloc (.cells #[.bool q.frm.secure, .string q.frm.host, .int .i64 q.frm.port, .bool q.o.secure, .string q.o.host, .int .i64 q.o.port, .string q.path, .string q.query, .bool q.wth, .string q.method, .string q.head, .int .i64 p.til] 63)).cell? ⟨wr.heap.size, 3, none⟩ = some (.bool q.o.secure) := by simp only [World.cell?, hnewB]; rfl
              have b4 : (wr.alloc (.cells #[.bool q.frm.secure, .string q.frm.host, .int .i64 q.frm.port, .bool q.o.secure, .string q.o.host, .int .i64 q.o.port, .string q.path, .string q.query, .bool q.wth, .string q.method, .string q.head, .int .i64 p.til] 63)).cell? ⟨wr.heap.size, 4, none⟩ = some (.string q.o.host) := by simp only [World.cell?, hnewB]; rfl
              have b5 : (wr.alloc (.cells #[.bool q.frm.secure, .string q.frm.host, .int .i64 q.frm.port, .bool q.o.secure, .string q.o.host, .int .i64 q.o.port, .string q.path, .string q.query, .bool q.wth, .string q.method, .string q.head, .int .i64 p.til] 63)).cell? ⟨wr.heap.size, 5, none⟩ = some (.int .i64 q.o.port) := by simp only [World.cell?, hnewB]; rfl
              have b6 : (wr.alloc (.cells #[.bool q.frm.secure, .string q.frm.host, .int .i64 q.frm.port, .bool q.o.secure, .string q.o.host, .int .i64 q.o.port, .string q.path, .string q.query, .bool q.wth, .string q.method, .string q.head, .int .i64 p.til] 63)).cell? ⟨wr.heap.size, 6, none⟩ = some (.string q.path) := by simp only [World.cell?, hnewB]; rfl
              have b7 : (wr.alloc (.cells #[.bool q.frm.secure, .string q.frm.host, .int .i64 q.frm.port, .bool q.o.secure, .string q.o.host, .int .i64 q.o.port, .string q.path, .string q.query, .bool q.wth, .string q.method, .string q.head, .int .i64 p.til] 63)).cell? ⟨wr.heap.size, 7, none⟩ = some (.string q.query) := by simp only [World.cell?, hnewB]; rfl
              have b8 : (wr.alloc (.cells #[.bool q.frm.secure, .string q.frm.host, .int .i64 q.frm.port, .bool q.o.secure, .string q.o.host, .int .i64 q.o.port, .string q.path, .string q.query, .bool q.wth, .string q.method, .string q.head, .int .i64 p.til] 63)).cell? ⟨wr.heap.size, 8, none⟩ = some (.bool q.wth) := by simp only [World.cell?, hnewB]; rfl
              have b9 : (wr.alloc (.cells #[.bool q.frm.secure, .string q.frm.host, .int .i64 q.frm.port, .bool q.o.secure, .string q.o.host, .int .i64 q.o.port, .string q.path, .string q.query, .bool q.wth, .string q.method, .string q.head, .int .i64 p.til] 63)).cell? ⟨wr.heap.size, 9, none⟩ = some (.string q.method) := by simp only [World.cell?, hnewB]; rfl
              have b10 : (wr.alloc (.cells #[.bool q.frm.secure, .string q.frm.host, .int .i64 q.frm.port, .bool q.o.secure, .string q.o.host, .int .i64 q.o.port, .string q.path, .string q.query, .bool q.wth, .string q.method, .string q.head, .int .i64 p.til] 63)).cell? ⟨wr.heap.size, 10, none⟩ = some (.string q.head) := by simp only [World.cell?, hnewB]; rfl
              have b11 : (wr.alloc (.cells #[.bool q.frm.secure, .string q.frm.host, .int .i64 q.frm.port, .bool q.o.secure, .string q.o.host, .int .i64 q.o.port, .string q.path, .string q.query, .bool q.wth, .string q.method, .string q.head, .int .i64 p.til] 63)).cell? ⟨wr.heap.size, 11, none⟩ = some (.int .i64 p.til) := by simp only [World.cell?, hnewB]; rfl
              have p0 : (wr.alloc (.cells #[.bool q.frm.secure, .string q.frm.host, .int .i64 q.frm.port, .bool q.o.secure, .string q.o.host, .int .i64 q.o.port, .string q.path, .string q.query, .bool q.wth, .string q.method, .string q.head, .int .i64 p.til] 63)).cell? ⟨bk, of + i * 12, none⟩ = some (.bool p.frm.secure) := hpc 0 _ rfl
              have p1 := hpc 1 _ rfl
              have p2 := hpc 2 _ rfl
              have p3 := hpc 3 _ rfl
              have p4 := hpc 4 _ rfl
              have p5 := hpc 5 _ rfl
              have p6 := hpc 6 _ rfl
              have p7 := hpc 7 _ rfl
              have p8 := hpc 8 _ rfl
              have p9 := hpc 9 _ rfl
              have p10 := hpc 10 _ rfl
              have p11 := hpc 11 _ rfl
              clear hpc hnewA hnewB hfB hxi
              go_wp2_with (first | ((with_reducible refine wpList_at ⟨some 50, _, _, _, _, _⟩ ?_); go_must (refine wpList_load_mid rfl 63 (.tmp 49) rfl bk (of + k * 12) rfl _ _ hcell Tryd.underlying63 rfl HXI.out ?_)) | fail)
              go_quiet (fail)
              go_wp2
              go_roundw
              case rel => exact ⟨k + 1, by omega, by go_num, HF9.out.drewN _⟩
              case measure => simp [intOf]; omega
            · have hki : ¬ (k : Int) < (i : Int) := by omega
              have p11 := HCELL.out wr hfk i p hat.out 11 _ rfl
              have hT : ¬ p.til ≤ u := by have := HT.out; omega
              go_wp2
              go_roundw
              case rel => exact ⟨i + 1, by omega, by go_num, hfk⟩
              case measure => simp [intOf]; omega
        · have hii : ¬ (i : Int) < (PS.length : Int) := by omega
          have hn : (PS.length : Int) ≤ 32 := by omega
          go_wp2
          go_ret
          exact ⟨rfl, (HF6.out.trans hfr).none_below⟩
end Go.Proofs.YtkoobhgedoanhaaDoor
