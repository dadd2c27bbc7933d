/- Package pass: For. -/
import Derived.Test.YtkoobhgedoanhaaDoorBook5
namespace Go.Proofs.YtkoobhgedoanhaaDoor
open Go.RowKit

def FoRel (ps : List Pas) (r : ReqL) (now : Int) (w1 : World) (out t : Value) (wr : World) : Prop :=
  ∃ k : Nat, k ≤ ps.length ∧ t = .int .i64 k ∧ OwnRows w1.heap.size 63 12 wr out ((bookFor (ps.take k) r now).map Pas.cells) ∧ Fr noB w1 wr
theorem for_hit {ps : List Pas} {r : ReqL} {now : Int} {k : Nat} {p : Pas} (h : ps[k]? = some p) (hm : r.mine now p = true) : bookFor (ps.take (k + 1)) r now = bookFor (ps.take k) r now ++ [p] := by
  unfold bookFor; rw [take_snocG h, List.filter_append]; simp [hm]
theorem for_miss {ps : List Pas} {r : ReqL} {now : Int} {k : Nat} {p : Pas} (h : ps[k]? = some p) (hm : r.mine now p = false) : bookFor (ps.take (k + 1)) r now = bookFor (ps.take k) r now := by
  unfold bookFor; rw [take_snocG h, List.filter_append]; simp [hm]
set_option maxHeartbeats 8000000 in
set_option maxRecDepth 100000 in
theorem For_any (base : Nat) (w : World) (b : Nat) (v : Value) (ps : List Pas) (r : ReqOf Value) (hs : List Prm) (now : Int) (h : BookIs base w b v ps) (hlen : ps.length < 1000000) :
    Calls Tryd.prog 28 #[.pointer (some ⟨b, 0, none⟩), .agg r.cells.toArray, .int .i64 now] w fun e w' => ∃ v', e = .returned v' ∧ OwnRows w.heap.size 63 12 w' v' ((bookFor ps (r.toL hs) now).map Pas.cells) ∧ Fr noB w w' := by
  obtain ⟨rc, hrc⟩ : ∃ rc, rc = r.cells.toArray := ⟨_, rfl⟩
  obtain ⟨w1, hw1⟩ : ∃ w1, w1 = w.alloc (.cells rc 67) := ⟨_, rfl⟩
  have hf1 : Fr noB w w1 := by rw [hw1]; exact (Fr.refl _ _).alloc _
  have hk1 : w1.heap[w.heap.size]? = some (.cells rc 67 (0, 0)) := by rw [hw1]; exact new_block _ _
  have h1 := h.frN hf1
  obtain ⟨ak, ck, hvk⟩ := h.form
  subst hvk
  have hrows : RowsAt 12 w1 (.slice ak ps.length ck) (ps.map Pas.cells) := h1.rows.at
  have HC := Lib.hid (show ∀ U, Fr noB w1 U → U.cell? ⟨w.heap.size, 1, none⟩ = some (.bool r.frm.secure) ∧ U.cell? ⟨w.heap.size, 2, none⟩ = some (.string r.frm.host) ∧ U.cell? ⟨w.heap.size, 3, none⟩ = some (.int .i64 r.frm.port) ∧ U.cell? ⟨w.heap.size, 4, none⟩ = some (.bool r.o.secure) ∧ U.cell? ⟨w.heap.size, 5, none⟩ = some (.string r.o.host) ∧ U.cell? ⟨w.heap.size, 6, none⟩ = some (.int .i64 r.o.port) ∧ U.cell? ⟨w.heap.size, 7, none⟩ = some (.string r.path) ∧ U.cell? ⟨w.heap.size, 8, none⟩ = some (.string r.query) ∧ U.cell? ⟨w.heap.size, 11, none⟩ = some (.bool r.wth) from fun U hU => by
    have j := hU.keep hk1 (fun h => h)
    rw [hrc] at j
    have hc : ∀ i u, r.cells[i]? = some u → U.cell? ⟨w.heap.size, i, none⟩ = some u := fun i u hu => by simp only [World.cell?, j]; simpa using hu
    exact ⟨hc 1 _ rfl, hc 2 _ rfl, hc 3 _ rfl, hc 4 _ rfl, hc 5 _ rfl, hc 6 _ rfl, hc 7 _ rfl, hc 8 _ rfl, hc 11 _ rfl⟩)
  have HM := Lib.hid (show ∀ p : Pas, (r.toL hs).mine now p = (p.alive now && (p.frm.eqB r.frm && ((p.o.eqB r.o && (p.path.toList == r.path.toList && p.query.toList == r.query.toList)) && (p.wth || !r.wth)))) from fun _ => rfl)
  generalize r.toL hs = rl at HM ⊢
  have c0 := h1.c0
  rw [hw1] at c0
  have HW1 := Lib.hid hw1
  have HF1 := Lib.hid hf1
  have hs1 : w.heap.size ≤ w1.heap.size := hf1.size
  rw [← hrc]
  clear hw1 hf1 hk1 h1 h hrc
  go_enter Tryd.func28, Tryd.ntmps28
  go_wp2_with fail
  rw [← HW1.out]
  go_loopw [7, 15] (FoRel ps rl now w1) (fun _ t _ => ps.length - (intOf t).toNat)
  case atStart => exact ⟨0, Nat.zero_le _, rfl, OwnRows.nil _ _ _ _, Fr.refl _ _⟩
  case round =>
    obtain ⟨k, hk, rfl, ho, hfr⟩ := hrel
    obtain ⟨ao, co, hoe⟩ := ho.form
    rw [List.length_map] at hoe
    subst hoe
    have hol : (bookFor (ps.take k) rl now).length ≤ 1000000 := by
      have h1 := List.length_filter_le (rl.mine now) (ps.take k)
      rw [List.length_take] at h1
      unfold bookFor; omega
    by_cases hks : k < ps.length
    · have hki : (k : Int) < (ps.length : Int) := by omega
      have hat := Lib.hid (List.getElem?_eq_getElem hks)
      generalize ps[k] = p at hat
      have hrow : RowsAt 12 wr (.slice ak ps.length ck) (ps.map Pas.cells) := RowsAt.frNone hrows hfr
      rcases hrow.2 with ⟨_, _, _, e, _⟩ | ⟨bk, of, c, hf, g1, g2, g3, g4⟩
      · have : ps.length = 0 := by have := congrArg List.length e; simpa using this
        omega
      rw [List.length_map] at hf g1
      cases hf
      unfold maxLen at g2
      obtain ⟨x, hx⟩ : ∃ x, x = p.cells := ⟨_, rfl⟩
      have hxk : x.length = 12 := by rw [hx]; rfl
      have hone : ∀ u ∈ x, u.oneCell' = true := by rw [hx]; exact p.cells_one
      have hcell := g4 k x (by rw [List.getElem?_map, hat.out, hx]; rfl)
      have hst := fun W => run_storeCells_new (P := Tryd.prog) W 63 zPa x (by rw [hxk]; rfl) hone
      have hxi : (Tryd.prog.info? 63).map (·.size) = some x.length := sizePa hxk
      have HXI2 := Lib.hid (show (Tryd.prog.info? 63).map (·.size) = some x.toArray.size by rw [List.size_toArray]; exact hxi)
      clear g4 hrow
      have HX := Lib.hid hx
      have HXI := Lib.hid hxi
      have HONE := Lib.hid hone
      have HNEW := Lib.hid (new_block wr (.cells x.toArray 63))
      have hf2 : Fr noB wr (wr.alloc (.cells x.toArray 63)) := (Fr.refl _ _).alloc _
      have HP := Lib.hid (show ∀ U, Fr noB (wr.alloc (.cells x.toArray 63)) U → U.heap[wr.heap.size]? = some (.cells x.toArray 63 (0, 0)) from fun U hU => hU.keep (new_block _ _) (fun h => h))
      have HPC := Lib.hid (show ∀ U, Fr noB (wr.alloc (.cells x.toArray 63)) U → U.cell? ⟨wr.heap.size, 0, none⟩ = some (.bool p.frm.secure) ∧ U.cell? ⟨wr.heap.size, 1, none⟩ = some (.string p.frm.host) ∧ U.cell? ⟨wr.heap.size, 2, none⟩ = some (.int .i64 p.frm.port) ∧ U.cell? ⟨wr.heap.size, 3, none⟩ = some (.bool p.o.secure) ∧ U.cell? ⟨wr.heap.size, 4, none⟩ = some (.string p.o.host) ∧ U.cell? ⟨wr.heap.size, 5, none⟩ = some (.int .i64 p.o.port) ∧ U.cell? ⟨wr.heap.size, 6, none⟩ = some (.string p.path) ∧ U.cell? ⟨wr.heap.size, 7, none⟩ = some (.string p.query) ∧ U.cell? ⟨wr.heap.size, 8, none⟩ = some (.bool p.wth) from fun U hU => by
        have j := HP.out U hU
        rw [HX.out] at j
        have hc : ∀ i u, p.cells[i]? = some u → U.cell? ⟨wr.heap.size, i, none⟩ = some u := fun i u hu => by simp only [World.cell?, j]; simpa using hu
        exact ⟨hc 0 _ rfl, hc 1 _ rfl, hc 2 _ rfl, hc 3 _ rfl, hc 4 _ rfl, hc 5 _ rfl, hc 6 _ rfl, hc 7 _ rfl, hc 8 _ rfl⟩)
      have HAL := Lib.hid (show ∀ U, Calls Tryd.prog 63 #[.agg x.toArray, .int .i64 now] U fun e w' => e = .returned (.bool (p.alive now)) ∧ Fr noB U w' from fun U => by rw [HX.out]; exact alive_any p now U)
      have hwr : w.heap.size ≤ wr.heap.size := by have := hfr.size; omega
      have HFR := Lib.hid (hfr.trans hf2)
      have HO := Lib.hid (show ∀ U, Fr noB (wr.alloc (.cells x.toArray 63)) U → OwnRows w1.heap.size 63 12 U (.slice ao (bookFor (ps.take k) rl now).length co) ((bookFor (ps.take k) rl now).map Pas.cells) from fun U hU => (ho.alloc _).fr hU (fun _ _ h => h))
      have HMI := Lib.hid (HM.out p)
      have HHIT := Lib.hid (fun hm => for_hit (r := rl) (now := now) hat.out hm)
      have HMISS := Lib.hid (fun hm => for_miss (r := rl) (now := now) hat.out hm)
      obtain ⟨fs, hfs⟩ : ∃ fs, fs = bookFor (ps.take k) rl now := ⟨_, rfl⟩
      rw [← hfs] at HO HHIT HMISS hol ⊢
      clear hx hxi hone ho hf2 hfr hfs
      go_wp2_with (first | ((with_reducible refine wpList_at ⟨some 18, _, _, _, _, _⟩ ?_); go_must (refine wpList_load_mid rfl 63 (.tmp 17) rfl bk (of + k * 12) rfl x _ hcell Tryd.underlying63 rfl HXI.out ?_)) | ((with_reducible refine wpList_at ⟨some 19, _, _, _, _, _⟩ ?_); go_must (refine wpList_load_row rfl 63 (.tmp 9) rfl wr.heap.size rfl _ x.toArray (0, 0) _ HNEW.out Tryd.underlying63 rfl HXI2.out ?_)) | fail)
      have hfold := fold_zip x #[.bool false, .string ⟨#[]⟩, .int .i64 0, .bool false, .string ⟨#[]⟩, .int .i64 0, .string ⟨#[]⟩, .string ⟨#[]⟩, .bool false, .string ⟨#[]⟩, .string ⟨#[]⟩, .int .i64 0] (by rw [hxk]; rfl)
      clear hst hcell
      generalize wr.alloc (.cells x.toArray 63) = W2 at *
      refine (HAL.out W2).mono ?_
      rintro e w3 ⟨rfl, hf3⟩
      obtain ⟨p0, p1, p2, p3, p4, p5, p6, p7, p8⟩ := HPC.out w3 hf3
      have HF3 := Lib.hid (HFR.out.trans hf3)
      obtain ⟨r1, r2, r3, r4, r5, r6, r7, r8, r11⟩ := HC.out w3 HF3.out
      have HB3 := Lib.hid (HP.out w3 hf3)
      have ho3 := Lib.hid (HO.out w3 hf3)
      have h33 : w1.heap.size ≤ w3.heap.size := HF3.out.size
      have heq := run_eql_ori p.frm r.frm
      have heu := run_eql_urlP p.o p.path p.query r.o r.path r.query
      clear HAL HP HPC hf3
      cases ea : p.alive now
      · have HN := Lib.hid (HMISS.out (by rw [HMI.out, ea]; rfl))
        clear HMI HHIT HMISS ea heq heu
        go_wp2
        go_roundw
        case rel => exact ⟨k + 1, by omega, by go_num, by rw [HN.out]; exact ho3.out, HF3.out⟩
        case measure => simp [intOf]; omega
      · cases e1 : p.frm.eqB r.frm
        · rw [e1] at heq
          have HN := Lib.hid (HMISS.out (by rw [HMI.out, ea, e1]; rfl))
          clear HMI HHIT HMISS ea e1 heu
          go_wp2
          go_roundw
          case rel => exact ⟨k + 1, by omega, by go_num, by rw [HN.out]; exact ho3.out, HF3.out⟩
          case measure => simp [intOf]; omega
        · rw [e1] at heq
          cases e2 : (p.o.eqB r.o && (p.path.toList == r.path.toList && p.query.toList == r.query.toList))
          · rw [e2] at heu
            have HN := Lib.hid (HMISS.out (by rw [HMI.out, ea, e1, e2]; rfl))
            clear HMI HHIT HMISS ea e1 e2
            go_wp2
            go_roundw
            case rel => exact ⟨k + 1, by omega, by go_num, by rw [HN.out]; exact ho3.out, HF3.out⟩
            case measure => simp [intOf]; omega
          · rw [e2] at heu
            cases e3 : p.wth
            · rw [e3] at p8
              cases e4 : r.wth
              · rw [e4] at r11
                have HY := Lib.hid (HHIT.out (by rw [HMI.out, ea, e1, e2, e3, e4]; rfl))
                clear HMI HHIT HMISS ea e1 e2 e3 e4
                go_wp2_with (first | ((with_reducible refine wpList_at ⟨some 46, _, _, _, _, _⟩ ?_); go_must (refine wpList_load_row rfl 63 (.tmp 9) rfl wr.heap.size rfl _ x.toArray (0, 0) _ HB3.out Tryd.underlying63 rfl HXI2.out ?_)) | (at_builtin; go_must (refine wpList_row rfl _ _ 53 63 rfl 12 144 (.agg zPa) Tryd.underlying53 info_pass rfl (by decide) (by decide) w1.heap.size (.slice ao fs.length co) (fs.map Pas.cells) rfl (ho3.out.alloc _) w3.heap.size 1 x rfl hxk HONE.out (fun i u hi => by rw [World.cell?_alloc_mark]; simpa using hi) (by rw [List.length_map]; omega) (by simp; omega) ?_); intro v' w4 hown4 hg4))
                have HF4 := Lib.hid ((HF3.out.alloc (.cells x.toArray 63)).grownNew hg4 (fun j hj => ho3.out.block j hj))
                go_roundw
                case rel => exact ⟨k + 1, by omega, by go_num, by rw [HY.out, List.map_append, List.map_cons, List.map_nil, ← HX.out]; exact hown4, HF4.out⟩
                case measure => simp [intOf]; omega
              · rw [e4] at r11
                have HN := Lib.hid (HMISS.out (by rw [HMI.out, ea, e1, e2, e3, e4]; rfl))
                clear HMI HHIT HMISS ea e1 e2 e3 e4
                go_wp2
                go_roundw
                case rel => exact ⟨k + 1, by omega, by go_num, by rw [HN.out]; exact ho3.out, HF3.out⟩
                case measure => simp [intOf]; omega
            · rw [e3] at p8
              have HY := Lib.hid (HHIT.out (by rw [HMI.out, ea, e1, e2, e3]; rfl))
              clear HMI HHIT HMISS ea e1 e2 e3
              go_wp2_with (first | ((with_reducible refine wpList_at ⟨some 46, _, _, _, _, _⟩ ?_); go_must (refine wpList_load_row rfl 63 (.tmp 9) rfl wr.heap.size rfl _ x.toArray (0, 0) _ HB3.out Tryd.underlying63 rfl HXI2.out ?_)) | (at_builtin; go_must (refine wpList_row rfl _ _ 53 63 rfl 12 144 (.agg zPa) Tryd.underlying53 info_pass rfl (by decide) (by decide) w1.heap.size (.slice ao fs.length co) (fs.map Pas.cells) rfl (ho3.out.alloc _) w3.heap.size 1 x rfl hxk HONE.out (fun i u hi => by rw [World.cell?_alloc_mark]; simpa using hi) (by rw [List.length_map]; omega) (by simp; omega) ?_); intro v' w4 hown4 hg4))
              have HF4 := Lib.hid ((HF3.out.alloc (.cells x.toArray 63)).grownNew hg4 (fun j hj => ho3.out.block j hj))
              go_roundw
              case rel => exact ⟨k + 1, by omega, by go_num, by rw [HY.out, List.map_append, List.map_cons, List.map_nil, ← HX.out]; exact hown4, HF4.out⟩
              case measure => simp [intOf]; omega
    · have hki : ¬ (k : Int) < (ps.length : Int) := by omega
      have htl : ps.take k = ps := List.take_of_length_le (by omega)
      rw [htl] at ho hol ⊢
      obtain ⟨fs, hfs⟩ : ∃ fs, fs = bookFor ps rl now := ⟨_, rfl⟩
      rw [← hfs] at ho hol ⊢
      have HO := Lib.hid ho
      have HEQ := Lib.hid hfs
      clear ho hfs
      go_wp2
      go_ret
      exact ⟨.slice ao fs.length co, rfl, by rw [← HEQ.out]; exact HO.out.up hs1, HF1.out.trans hfr⟩
end Go.Proofs.YtkoobhgedoanhaaDoor
