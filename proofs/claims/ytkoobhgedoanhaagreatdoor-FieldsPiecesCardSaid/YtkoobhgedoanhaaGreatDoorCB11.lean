/- Package cors: Grant. Package cors: Fields. -/
import Derived.Test.YtkoobhgedoanhaaGreatDoorCB8
import Derived.Test.YtkoobhgedoanhaaGreatDoorCB10
import Derived.Test.YtkoobhgedoanhaaGreatDoorCB4
import Derived.Test.YtkoobhgedoanhaaGreatDoorCB7
import Derived.Test.YtkoobhgedoanhaaGreatDoorCB9
import Derived.Test.YtkoobhgedoanhaaGreatDoorCB3
namespace Go.Proofs.YtkoobhgedoanhaaGreatDoor
open Go.RowKit

theorem Strs.put {base : Nat} {w : World} {g n c : Nat} {ss : List ByteArray} (h : Strs base w (.slice (some ⟨g, 0, none⟩) n c) ss) {j : Nat} (x : ByteArray) :
    Strs base (w.setCell ⟨g, j, none⟩ (.string x)) (.slice (some ⟨g, 0, none⟩) n c) (ss.set j x) := by
  obtain ⟨h1, h2⟩ := h
  refine ⟨by simp, ?_⟩
  rcases h2 with ⟨hv, _⟩ | ⟨g', cap, cur, hv, hg, hh, h3, h4, h5, h6⟩
  · cases hv
  · have e1 : g' = g ∧ n = ss.length ∧ c = cap := by
      injection hv with a1 a2 a3
      injection a1 with a1
      injection a1 with a1
      exact ⟨a1.symm, a2, a3⟩
    obtain ⟨rfl, rfl, rfl⟩ := e1
    refine Or.inr ⟨g', c, cur.setIfInBounds j (.string x), by rw [List.length_set], hg, setCell_heap hh _ _, by rw [List.length_set]; exact h3, h4, by simpa using h5, ?_⟩
    rw [List.length_set, List.map_set, ← h6, Array.toList_setIfInBounds, List.take_set]
def LwRel (base : Nat) (u : World) (hv : Value) (ss : List ByteArray) (t : Value) (wr : World) : Prop :=
  ∃ k : Nat, k ≤ ss.length ∧ t = .int .i64 k ∧ Strs base wr hv ((ss.take k).map lowA ++ ss.drop k) ∧ Fr (own hv) u wr
theorem low_step {ss : List ByteArray} {k : Nat} {x : ByteArray} (h : ss[k]? = some x) : ((ss.take k).map lowA ++ ss.drop k).set k (lowA x) = (ss.take (k + 1)).map lowA ++ ss.drop (k + 1) := by
  obtain ⟨hk, e⟩ := List.getElem?_eq_some_iff.1 h
  have hl : ((ss.take k).map lowA).length = k := by simp; omega
  rw [List.set_append_right _ _ (by omega), hl, Nat.sub_self, List.drop_eq_getElem_cons hk, List.set_cons_zero, take_snocG h, List.map_append, List.append_assoc]
  rfl
theorem low_at {ss : List ByteArray} {k : Nat} {x : ByteArray} (h : ss[k]? = some x) : ((ss.take k).map lowA ++ ss.drop k)[k]? = some x := by
  obtain ⟨hk, e⟩ := List.getElem?_eq_some_iff.1 h
  have hl : ((ss.take k).map lowA).length = k := by simp; omega
  rw [List.getElem?_append_right (by omega), hl, Nat.sub_self, List.drop_eq_getElem_cons hk]
  simp [e]
/-- the words' sizes -/
theorem listN_subG : ∀ (f : Nat) (r : Bs) (ws : List Bs), listN f r = .ok ws → ∀ w ∈ ws, w.length ≤ r.length
  | 0, r, ws, h, w, hw => by rw [listN] at h; cases h; cases hw
  | f + 1, r, ws, h, w, hw => by
    rw [listN] at h
    have h1 := dropW_le blankB r
    have h2 := dropW_le byteB (r.dropWhile blankB)
    have h3 := dropW_le blankB ((r.dropWhile blankB).dropWhile byteB)
    have h4 := split_len byteB (r.dropWhile blankB)
    have hone : ∀ u ∈ (if ((r.dropWhile blankB).takeWhile byteB).isEmpty then [] else [(r.dropWhile blankB).takeWhile byteB]), u.length ≤ r.length := by
      intro u hu
      split at hu
      · cases hu
      · simp at hu; subst hu; omega
    cases e : ((r.dropWhile blankB).dropWhile byteB).dropWhile blankB with
    | nil =>
      rw [e] at h
      simp only at h
      cases h
      exact hone w hw
    | cons c r4 =>
      rw [e] at h h3
      simp only at h
      split at h
      · cases hr : listN f r4 with
        | error m => rw [hr] at h; cases h
        | ok w2 =>
          rw [hr] at h
          cases h
          rcases List.mem_append.1 hw with g | g
          · exact hone w g
          · have := listN_subG f r4 w2 hr w g
            simp at h3; omega
      · cases h
theorem words_size {ps : List Par} {n : Bs} {ws : List Bs} (hz : ParsSmall ps) (h : wordsP ps n = some ws) : ∀ w ∈ ws, w.length ≤ 100002000 := by
  obtain ⟨s, hs, hsz⟩ := field_get ps n hz
  unfold wordsP at h
  cases hl : listAll (fieldT ps n) with
  | error e => rw [hl] at h; cases h
  | ok m =>
    rw [hl] at h
    simp only at h
    split at h
    · cases h
    · cases h
      intro w hw
      have := listN_subG _ _ _ hl w hw
      rw [hs] at this
      have e : s.data.toList.length = s.size := by simp
      omega
theorem words_few {ps : List Par} {n : Bs} {ws : List Bs} (h : wordsP ps n = some ws) : ws.length ≤ 40 := by
  unfold wordsP at h
  cases hl : listAll (fieldT ps n) with
  | error e => rw [hl] at h; cases h
  | ok m =>
    rw [hl] at h
    simp only at h
    split at h
    · cases h
    · cases h; omega
theorem Strs.open' {base : Nat} {w : World} {a : Option Addr} {n c : Nat} {ss : List ByteArray} (h : Strs base w (.slice a n c) ss) (hne : ss ≠ []) :
    ∃ g, a = some ⟨g, 0, none⟩ ∧ n = ss.length ∧ base ≤ g ∧ g < w.heap.size ∧ n ≤ c ∧ c ≤ maxLen ∧ (∀ (j : Nat) x, ss[j]? = some x → w.cell? ⟨g, j, none⟩ = some (.string x)) ∧ ∀ i, w.frozen? ⟨g, i, none⟩ = false := by
  have hat := h.at
  obtain ⟨h1, h2⟩ := h
  rcases h2 with ⟨hv, h0⟩ | ⟨g, cap, cur, hv, hg, hh, h3, h4, h5, h6⟩
  · exact absurd (List.eq_nil_of_length_eq_zero h0) hne
  · cases hv
    refine ⟨g, rfl, rfl, hg, lt_of_some hh, h3, h4, ?_, fun i => by simp [World.frozen?, hh]⟩
    rcases hat with ⟨_, _, _, e, _⟩ | ⟨bk, o, c', hf, g1, g2, g3, g4⟩
    · exact absurd e hne
    · cases hf
      intro j x hj
      have := g4 j x hj
      simpa using this
theorem strsAt_lit (w : World) (x : ByteArray) : StrsAt (w.alloc (.cells #[.string x] 9)) (.slice (some ⟨w.heap.size, 0, none⟩) 1 1) [x] := by
  refine Or.inr ⟨w.heap.size, 0, 1, rfl, Nat.le_refl _, by simp [maxLen], by simp, fun j y hj => ?_⟩
  match j, hj with
  | 0, hj =>
    simp at hj; subst hj
    rw [World.cell?_alloc_mark]
    simp
/-- what Grant gives, by what it comes to -/
def GrRes (res : Except Nat (List Pas)) (w : World) (e : Ending) (w' : World) : Prop :=
  Fr noB w w' ∧ match res with
  | .ok m => ∃ v, e = .returned (.tuple #[v, .nilIface]) ∧ OwnRows w.heap.size 64 12 w' v (m.map Pas.cells)
  | .error n => e = .returned (.tuple #[.slice none 0 0, .iface 93 (.int .i64 n)])
theorem GrRes.bad {res : Except Nat (List Pas)} {w w' : World} (n : Nat) (h : res = .error n) (hf : Fr noB w w') : GrRes res w (.returned (.tuple #[.slice none 0 0, .iface 93 (.int .i64 n)])) w' := by
  subst h; exact ⟨hf, rfl⟩
theorem GrRes.good {res : Except Nat (List Pas)} {w w' : World} {m : List Pas} {v : Value} (h : res = .ok m) (hf : Fr noB w w') (ho : OwnRows w.heap.size 64 12 w' v (m.map Pas.cells)) : GrRes res w (.returned (.tuple #[v, .nilIface])) w' := by
  subst h; exact ⟨hf, v, rfl, ho⟩
def AdRel (base : Nat) (u : World) (bp : Nat) (ss : List ByteArray) (f : ByteArray → Pas) (a0 : List Pas) (t : Value) (wr : World) : Prop :=
  ∃ (k : Nat) (v : Value), k ≤ ss.length ∧ t = .int .i64 k ∧ wr.heap[bp]? = some (.cells #[v] 60 (0, 0)) ∧ OwnRows base 64 12 wr v ((((ss.take k).map f).foldl addP a0).map Pas.cells) ∧ Fr noB u wr
/-- the passes so far, in the variable's block bp -/
def wr2b (w6 : World) (bp : Nat) (v : Value) (base : Nat) (acc : List Pas) (w5 : World) : Prop :=
  w6.heap[bp]? = some (.cells #[v] 60 (0, 0)) ∧ OwnRows base 64 12 w6 v (acc.map Pas.cells) ∧ Fr noB w5 w6
theorem add_step {ss : List ByteArray} {k : Nat} {x : ByteArray} (f : ByteArray → Pas) (a0 : List Pas) (h : ss[k]? = some x) : ((ss.take (k + 1)).map f).foldl addP a0 = addP (((ss.take k).map f).foldl addP a0) (f x) := by
  rw [take_snocG h, List.map_append, List.foldl_append]; rfl
theorem addP_len (l : List Pas) : ∀ a0 : List Pas, (l.foldl addP a0).length ≤ a0.length + l.length := by
  induction l with
  | nil => intro a0; simp
  | cons p l ih =>
    intro a0
    have h1 := ih (addP a0 p)
    have h2 : (addP a0 p).length ≤ a0.length + 1 := by unfold addP; split <;> simp
    simp only [List.foldl_cons, List.length_cons]
    omega
set_option maxHeartbeats 8000000 in
set_option maxRecDepth 100000 in
theorem Grant_any (r : ReqOf Value) (hs : List Prm) (lv : Value) (ps : List Par) (now : Int) (w : World) (hr : PrmsAt w r.heads hs) (hl : ParsAt w lv ps) (hz : ParsSmall ps) (hq : ReqOk r hs) (ht : PwTab w) (p0 : -9223372036854775808 ≤ r.frm.port) (p1 : r.frm.port ≤ 9223372036854775807) (hh : r.frm.host.size < 100000) (n0 : 0 ≤ now) (n1 : now ≤ 1099511627776) :
    Calls Tryz.prog 29 #[.agg r.cells.toArray, lv, .int .i64 now] w (GrRes (grantL (r.toL hs) (oriB r.frm).data.toList ps now) w) := by
  obtain ⟨al, cl, hlf⟩ := RowsAt.form hl
  rw [List.length_map] at hlf
  subst hlf
  obtain ⟨n, hn⟩ : ∃ n, n = w.heap.size := ⟨_, rfl⟩
  obtain ⟨w1, hw1⟩ : ∃ w1, w1 = ((w.alloc (.cells r.cells.toArray 53)).alloc (.cells #[.slice al ps.length cl] 36)).alloc (.cells #[.int .i64 now] 3) := ⟨_, rfl⟩
  have hfb : Fr noB w w1 := by rw [hw1]; exact (((Fr.refl noB w).alloc _).alloc _).alloc _
  have hk1 : w1.heap[n]? = some (.cells r.cells.toArray 53 (0, 0)) := by rw [hw1, hn]; exact (((Fr.refl noB _).alloc _).alloc _).keep (new_block _ _) (fun h => h)
  have hk2 : w1.heap[n + 1]? = some (.cells #[.slice al ps.length cl] 36 (0, 0)) := by
    have h := new_block (w.alloc (.cells r.cells.toArray 53)) (.cells #[.slice al ps.length cl] 36)
    rw [World.size_alloc, ← hn] at h
    rw [hw1]; exact ((Fr.refl noB _).alloc _).keep h (fun h => h)
  have hk3 : w1.heap[n + 1 + 1]? = some (.cells #[.int .i64 now] 3 (0, 0)) := by
    have h := new_block ((w.alloc (.cells r.cells.toArray 53)).alloc (.cells #[.slice al ps.length cl] 36)) (.cells #[.int .i64 now] 3)
    rw [World.size_alloc, World.size_alloc, ← hn] at h
    rw [hw1]; exact h
  have HX2 := Lib.hid (show ∀ U, Fr noB w1 U → U.cell? ⟨n + 1, 0, none⟩ = some (.slice al ps.length cl) from fun U hU => by simp [World.cell?, hU.keep hk2 (fun h => h)])
  have HX := Lib.hid (show ∀ U, Fr noB w1 U → ReqLie U n r from fun U hU => ReqLie.blk (hU.keep hk1 (fun h => h)))
  have HWD := Lib.hid (show ∀ (nm : Bs), nm.length < 1000 → ∀ U, Fr noB w1 U → Calls Tryz.prog 74 #[.slice al ps.length cl, .string (bA nm)] U (WordsPost ps nm U) from fun nm hnm U hU => words_any _ ps nm U (RowsAt.frNone hl (hfb.trans hU)) hz hnm)
  have HMAY := Lib.hid (show ∀ U, Fr noB w1 U → Calls Tryz.prog 25 #[.agg r.cells.toArray, .slice al ps.length cl] U fun e w' => e = .returned (.bool (mayB (oriB r.frm).data.toList r.wth ps)) ∧ Fr noB U w' from fun U hU => May_any r _ ps U (RowsAt.frNone hl (hfb.trans hU)) hz (ht.fr (hfb.trans hU)) p0 p1 hh)
  have HMT := Lib.hid (show ∀ U, Calls Tryz.prog 75 #[.string r.method] U fun e w' => e = .returned (.string (methodB r.method)) ∧ Fr noB U w' from fun U => Method_any r.method U hq.1)
  have HCV := Lib.hid (show ∀ U, Fr noB w1 U → ∀ (pv : Value) (m : List Pas), PasAt U pv m → Calls Tryz.prog 30 #[.agg r.cells.toArray, pv] U fun e w' => e = .returned (.bool ((r.toL hs).covers m)) ∧ Fr noB U w' from fun U hU pv m hpv => Covers_any r hs pv m U (RowsAt.frNone hr (hfb.trans hU)) hpv hq)
  have HADD := Lib.hid (show ∀ U, Fr noB w1 U → ∀ (base bp : Nat) (v : Value) (acc : List Pas) (m hd : ByteArray), base ≤ bp → acc.length < 1000000 → U.heap[bp]? = some (.cells #[v] 60 (0, 0)) → OwnRows base 64 12 U v (acc.map Pas.cells) → Calls Tryz.prog 77 #[.string m, .string hd, .pointer (some ⟨n, 0, none⟩), .pointer (some ⟨n + 1 + 1, 0, none⟩), .pointer (some ⟨n + 1, 0, none⟩), .pointer (some ⟨bp, 0, none⟩)] U fun e w' => e = .returned (.tuple #[]) ∧ ∃ v', w'.heap[bp]? = some (.cells #[v'] 60 (0, 0)) ∧ OwnRows base 64 12 w' v' ((addP acc ((r.toL hs).pas (now + ageI ps) m hd)).map Pas.cells) ∧ Fr (fun k => k = bp ∨ own v k) U w' from fun U hU base bp v acc m hd hb hlen hp hown =>
    Add_any base m hd r hs now _ ps acc v n (n + 1 + 1) (n + 1) bp U (hU.keep hk1 (fun h => h)) (hU.keep hk3 (fun h => h)) (hU.keep hk2 (fun h => h)) hp (RowsAt.frNone hl (hfb.trans hU)) hz hown hb hlen n0 n1)
  have HFB := Lib.hid hfb
  obtain ⟨ah, ch, hhf⟩ := RowsAt.form hr
  rw [List.length_map] at hhf
  have hzz := Lib.hid hz
  clear hr hl hz hk1 hk2 hk3 hfb ht hq p0 p1 hh n0 n1
  have HG := Lib.hid (show grantL (r.toL hs) (oriB r.frm).data.toList ps now = (match wordsP ps nMeth, wordsP ps nHeads with
    | some ms, some hs' => if !mayB (oriB r.frm).data.toList r.wth ps then .error 6 else if !(r.toL hs).covers ((r.toL hs).grants (now + ageI ps) ms hs') then .error 6 else .ok ((r.toL hs).grants (now + ageI ps) ms hs')
    | _, _ => .error 3) from rfl)
  have HGS := Lib.hid (show ∀ ms hs', (r.toL hs).grants (now + ageI ps) ms hs' = (hs'.map fun h => (r.toL hs).pas (now + ageI ps) (bA []) (bA (lowL h))).foldl addP ((if ms.isEmpty then [methodB r.method] else ms.map bA).map (fun m => (r.toL hs).pas (now + ageI ps) m (bA [])) |>.foldl addP []) from fun _ _ => rfl)
  generalize (oriB r.frm).data.toList = otxt at *
  obtain ⟨part, ⟨fs, fh, fp⟩, ⟨os, oh, op⟩, path, query, method, heads, wth, body⟩ := r
  simp only at hhf
  subst hhf
  obtain ⟨R, hR⟩ : ∃ R : ReqOf Value, R = ⟨part, ⟨fs, fh, fp⟩, ⟨os, oh, op⟩, path, query, method, .slice ah hs.length ch, wth, body⟩ := ⟨_, rfl⟩
  rw [← hR] at HX HMAY HMT HCV HADD HG HGS ⊢
  have HARG := Lib.hid (show R.cells.toArray = #[.int .i64 part, .bool fs, .string fh, .int .i64 fp, .bool os, .string oh, .int .i64 op, .string path, .string query, .string method, .slice ah hs.length ch, .bool wth, .string body] by rw [hR]; rfl)
  have HRL := Lib.hid (show ∀ U, Fr noB w1 U → ReqLie U n ⟨part, ⟨fs, fh, fp⟩, ⟨os, oh, op⟩, path, query, method, .slice ah hs.length ch, wth, body⟩ from by rw [← hR]; exact HX.out)
  have HMR := Lib.hid (show R.method = method by rw [hR])
  clear HX
  rw [HARG.out] at HMAY HCV ⊢
  rw [HMR.out] at HMT HGS
  have HX := HRL
  unfold ReqLie at HX
  dsimp only at HX
  unfold ReqOf.cells at hw1
  dsimp only at hw1
  clear hR HARG HMR HRL
  generalize R.toL hs = rl at *
  generalize R.wth = rw0 at *
  obtain ⟨RES, hRES⟩ : ∃ RES, RES = grantL rl otxt ps now := ⟨_, rfl⟩
  rw [← hRES] at HG ⊢
  clear hRES R
  generalize mayB otxt rw0 ps = my at *
  generalize now + ageI ps = til at *
  generalize methodB method = mm at *
  subst hn
  have c2 := HX2.out w1 (Fr.refl _ _)
  have w1sz : w.heap.size ≤ w1.heap.size := HFB.out.size
  rw [hw1] at c2
  go_enter Tryz.func29, Tryz.ntmps29
  go_wp2_with fail
  rw [← hw1]
  clear hw1 c2
  refine (HWD.out nMeth (by decide) w1 (Fr.refl _ _)).mono ?_
  rintro e u1 ⟨hu1, hm1⟩
  have c2 := HX2.out u1 hu1
  cases hwm : wordsP ps nMeth with
  | none =>
    rw [hwm] at hm1 HG
    dsimp only at hm1
    subst hm1
    have HR := Lib.hid (show RES = .error 3 from HG.out)
    clear hwm HG
    go_wp2_with fail
    refine (HWD.out nHeads (by decide) u1 hu1).mono ?_
    rintro e u2 ⟨hu2, hm2⟩
    have HU2 := Lib.hid (HFB.out.trans (hu1.trans hu2))
    clear hu1 hu2 c2
    cases hwh : wordsP ps nHeads with
    | none =>
      rw [hwh] at hm2
      dsimp only at hm2
      subst hm2
      go_wp2
      go_ret2
      exact GrRes.bad 3 HR.out HU2.out
    | some hws =>
      rw [hwh] at hm2
      obtain ⟨hv, rfl, hst⟩ := hm2
      obtain ⟨ah', ch', hvf⟩ := hst.form
      subst hvf
      clear hst
      go_wp2
      go_ret2
      exact GrRes.bad 3 HR.out HU2.out
  | some ms =>
    rw [hwm] at hm1 HG
    obtain ⟨mv, rfl, hms⟩ := hm1
    obtain ⟨am, cm, hmvf⟩ := hms.form
    subst hmvf
    go_wp2_with fail
    refine (HWD.out nHeads (by decide) u1 hu1).mono ?_
    rintro e u2 ⟨hu2, hm2⟩
    have HU2 := Lib.hid (hu1.trans hu2)
    have hB1 : w1.heap.size ≤ u1.heap.size := hu1.size
    have HMFW := Lib.hid (words_few hwm)
    clear hwm
    have hmlt := fun k (hk : (Value.slice am (wordsB ms).length cm).ownBlock = some k) => (hms.lt k hk).2
    have hms2 := hms.fr hu2 (fun _ h => absurd h (fun h => h))
    clear hu1 hu2 c2 hms
    cases hwh : wordsP ps nHeads with
    | none =>
      rw [hwh] at hm2 HG
      dsimp only at hm2
      subst hm2
      have HR := Lib.hid (show RES = .error 3 from HG.out)
      clear hwh HG hmlt hms2
      go_wp2
      go_ret2
      exact GrRes.bad 3 HR.out (HFB.out.trans HU2.out)
    | some hws =>
      rw [hwh] at hm2 HG
      obtain ⟨hv, rfl, hst⟩ := hm2
      have hHG := HG.out
      dsimp only at hHG
      have HG := Lib.hid hHG
      clear hHG
      obtain ⟨ahh, chh, hvf⟩ := hst.form
      subst hvf
      have HHST := Lib.hid hst
      have HWSZ := Lib.hid (words_size hzz.out hwh)
      have HHF := Lib.hid (words_few hwh)
      have HMST := Lib.hid hms2
      have HMLT := Lib.hid hmlt
      clear hst hms2 hmlt hwh
      have c2 := HX2.out u2 HU2.out
      obtain ⟨e0, e1, e2, e3, e4, e5, e6, e7, e8, e9, e10, e11, e12⟩ := HX.out u2 HU2.out
      go_wp2_with fail
      refine (HMAY.out u2 HU2.out).mono ?_
      rintro e u3 ⟨rfl, hu3⟩
      have HU3 := Lib.hid (HU2.out.trans hu3)
      have HHST3 := Lib.hid (HHST.out.fr hu3 (fun _ h => absurd h (fun h => h)))
      have HMST3 := Lib.hid (HMST.out.fr hu3 (fun _ h => absurd h (fun h => h)))
      have HB1 := Lib.hid hB1
      clear hu3 c2 e0 e1 e2 e3 e4 e5 e6 e7 e8 e9 e10 e11 e12 HHST HMST HMAY hB1
      cases my
      · have HR := Lib.hid (show RES = .error 6 from HG.out)
        clear HG
        go_wp2
        go_ret2
        exact GrRes.bad 6 HR.out (HFB.out.trans HU3.out)
      have HG2 := Lib.hid (HG.out.trans (if_neg (by decide)))
      clear HG
      obtain ⟨hl2, hhl⟩ : ∃ hl2, hl2 = wordsB hws := ⟨_, rfl⟩
      have HSZ := Lib.hid (show ∀ x ∈ hl2, x.size < 17592186044416 from by
        intro x hx
        rw [hhl] at hx
        obtain ⟨y, hy, rfl⟩ := List.mem_map.1 hx
        have := HWSZ.out y hy
        show y.toArray.size < _
        simp; omega)
      have HGR := Lib.hid (HGS.out ms hws)
      have HHF2 := Lib.hid (show (wordsB hws).length ≤ 40 from by have h := HHF.out; unfold wordsB; rw [List.length_map]; exact h)
      have HLM := Lib.hid (show (hws.map fun h => rl.pas til (bA []) (bA (lowL h))) = (hl2.map lowA).map (fun h => rl.pas til (bA []) h) from by
        rw [hhl]
        unfold wordsB lowA bA
        simp [List.map_map, Function.comp])
      rw [← hhl] at HHST3 HHF2 ⊢
      clear HGS HWSZ hhl
      cases ms with
      | nil =>
        obtain ⟨_, _, _, _, _, _, _, _, _, e9, _⟩ := HX.out u3 HU3.out
        have hz0 : ((wordsB []).length : Int) = 0 := rfl
        go_wp2_with fail
        refine (HMT.out u3).mono ?_
        rintro e u4 ⟨rfl, hu4⟩
        obtain ⟨uL, huL⟩ : ∃ uL, uL = u4.alloc (.cells #[.string mm] 9) := ⟨_, rfl⟩
        have hf4 : Fr noB u3 uL := by rw [huL]; exact hu4.alloc _
        have HMV := Lib.hid (show StrsAt uL (.slice (some ⟨u4.heap.size, 0, none⟩) 1 1) [mm] from by rw [huL]; exact strsAt_lit u4 mm)
        have HDJ := Lib.hid (show ∀ k, (Value.slice (some ⟨u4.heap.size, 0, none⟩) 1 1).ownBlock = some k → ¬ own (.slice ahh hl2.length chh) k from fun k hk ho => by
          have h1 := (HHST3.out.lt k ho).2
          have h2 := hu4.size
          have e : u4.heap.size = k := by simpa [Value.ownBlock] using hk
          omega)
        have HHV := Lib.hid (HHST3.out.fr hf4 (fun _ h => absurd h (fun h => h)))
        have HUL := Lib.hid (HU3.out.trans hf4)
        obtain ⟨MS, hMS⟩ : ∃ MS : List ByteArray, MS = [mm] := ⟨_, rfl⟩
        obtain ⟨MA, hMA⟩ : ∃ MA : Option Addr, MA = some ⟨u4.heap.size, 0, none⟩ := ⟨_, rfl⟩
        obtain ⟨MC, hMC⟩ : ∃ MC : Nat, MC = 1 := ⟨_, rfl⟩
        have hval : Value.slice (some ⟨u4.heap.size, 0, none⟩) 1 1 = Value.slice MA MS.length MC := by rw [hMA, hMS, hMC]; rfl
        have HMM := Lib.hid (show (if ([] : List Bs).isEmpty then [mm] else ([] : List Bs).map bA) = MS from by rw [hMS]; rfl)
        have HMF := Lib.hid (show MS.length ≤ 40 from by rw [hMS]; simp)
        rw [← hMS] at HMV
        rw [hval] at HMV HDJ
        clear e9 hz0 hf4 hu4
        go_wp2
        rw [← huL]
        clear hval hMS hMA hMC huL
        go_loopw [51] (LwRel u1.heap.size uL (.slice ahh hl2.length chh) hl2) (fun t _ => hl2.length - (intOf t).toNat)
        case atStart => exact ⟨0, Nat.zero_le _, rfl, by simpa using HHV.out, Fr.refl _ _⟩
        case round =>
          obtain ⟨k, hk, rfl, hst, hfr⟩ := hrel
          by_cases hks : k < hl2.length
          · have hki : (k : Int) < (hl2.length : Int) := by omega
            have hki0 : (0 : Int) ≤ (k : Int) := by omega
            have hat := Lib.hid (List.getElem?_eq_getElem hks)
            have hmem := Lib.hid (List.getElem_mem hks)
            generalize hl2[k] = x at hat hmem
            have hne : (hl2.take k).map lowA ++ hl2.drop k ≠ [] := by
              intro e
              have := congrArg List.length e
              rw [List.length_append, List.length_map, List.length_take, List.length_drop, List.length_nil] at this
              omega
            obtain ⟨gh, hgh, hnl, g1, g2, g3, g4, g5, g6⟩ := Strs.open' hst hne
            subst hgh
            unfold maxLen at g4
            have hc := g5 k x (low_at hat.out)
            have hlow := Lib.hid (Lower_any x wr (HSZ.out x hmem.out))
            clear g5 g6 hnl
            go_wp2_with fail
            refine hlow.out.mono ?_
            rintro e wl ⟨rfl, hwl⟩
            have HST := Lib.hid (hst.fr hwl (fun _ h => absurd h (fun h => h)))
            obtain ⟨gh', hgh', hnl, q1, q2, q3, q4, q5, q6⟩ := Strs.open' HST.out hne
            obtain rfl : gh = gh' := by injection hgh' with h; injection h
            have hc2 := q5 k x (low_at hat.out)
            have hz2 := q6 k
            have HPUT := Lib.hid (HST.out.put (j := k) (lowA x))
            have HFR := Lib.hid (show Fr (own (.slice (some ⟨gh, 0, none⟩) hl2.length chh)) uL (wl.setCell ⟨gh, k, none⟩ (.string (lowA x))) from (hfr.step hwl (fun _ _ h => absurd h (fun h => h))).setCell (p := ⟨gh, k, none⟩) (fun _ => rfl) _)
            rw [low_step hat.out] at HPUT
            unfold lowA at HPUT HFR
            clear q5 q6 hst hfr hwl HST hlow hnl hgh' hne
            go_wp2
            go_roundw
            case rel => exact ⟨k + 1, by omega, by go_num, HPUT.out, HFR.out⟩
            case measure => simp [intOf]; omega
          · have hki : ¬ (k : Int) < (hl2.length : Int) := by omega
            have HHV2 := Lib.hid (show Strs u1.heap.size wr (.slice ahh hl2.length chh) (hl2.map lowA) from by
              have h := hst
              rw [List.take_of_length_le (by omega), List.drop_of_length_le (by omega), List.append_nil] at h
              exact h)
            have HMV2 := Lib.hid (HMV.out.fr hfr HDJ.out)
            have HUW := Lib.hid (show Fr noB w1 wr from HUL.out.step hfr (fun j hj ho => by
              have h1 := HHV2.out.block j ho
              have h2 := HB1.out
              omega))
            clear hst hfr HHV HMV HDJ HUL
            go_wp2
            obtain ⟨w5, rfl⟩ : ∃ w5, w5 = wr := ⟨_, rfl⟩
            obtain ⟨wq, hwq⟩ : ∃ wq, wq = (w5.alloc (.cells #[] 64)).alloc (.cells #[.slice (some ⟨w5.heap.size, 0, none⟩) 0 0] 60) := ⟨_, rfl⟩
            have hfq : Fr noB w5 wq := by rw [hwq]; exact ((Fr.refl _ _).alloc _).alloc _
            have hpq : wq.heap[w5.heap.size + 1]? = some (.cells #[.slice (some ⟨w5.heap.size, 0, none⟩) 0 0] 60 (0, 0)) := by
              have h := new_block (w5.alloc (.cells #[] 64)) (.cells #[.slice (some ⟨w5.heap.size, 0, none⟩) 0 0] 60)
              rw [World.size_alloc] at h
              rw [hwq]; exact h
            have hz0 : wq.heap[w5.heap.size]? = some (.cells #[] 64 (0, 0)) := by rw [hwq]; exact ((Fr.refl noB _).alloc _).keep (new_block _ _) (fun h => h)
            have HO0 := Lib.hid (show OwnRows w5.heap.size 64 12 wq (.slice (some ⟨w5.heap.size, 0, none⟩) 0 0) (([] : List Pas).map Pas.cells) from ⟨by simp, rfl, Or.inr ⟨w5.heap.size, 0, #[], rfl, Nat.le_refl _, hz0, Nat.le_refl _, by decide, rfl, rfl⟩⟩)
            have HPQ := Lib.hid hpq
            have HFQ := Lib.hid hfq
            obtain ⟨bp, hbp⟩ : ∃ bp, bp = w5.heap.size + 1 := ⟨_, rfl⟩
            have HBP := Lib.hid (show w5.heap.size ≤ bp from by omega)
            have HB2 := Lib.hid (show w.heap.size ≤ w5.heap.size from by have := HFB.out.size; have := HUW.out.size; omega)
            rw [← hwq, ← hbp]
            rw [← hbp] at HPQ
            clear hfq hpq hz0 hwq hbp hki hk hks
            go_loopw [66] (AdRel w5.heap.size w5 bp MS (fun m => rl.pas til m ⟨#[]⟩) []) (fun t _ => MS.length - (intOf t).toNat)
            case atStart => exact ⟨0, _, Nat.zero_le _, rfl, HPQ.out, HO0.out, HFQ.out⟩
            case round =>
              obtain ⟨k, vk, hk, rfl, hbk, hown, hfr⟩ := hrel
              by_cases hks : k < MS.length
              · have hki : (k : Int) < (MS.length : Int) := by omega
                have hki0 : (0 : Int) ≤ (k : Int) := by omega
                have hat := Lib.hid (List.getElem?_eq_getElem hks)
                rcases HMV2.out.frNone hfr with ⟨_, _, _, e, _⟩ | ⟨bk, o, c, hf, h1, h2, h3, h4⟩
                · rw [e] at hks; exact absurd hks (Nat.not_lt_zero _)
                cases hf
                unfold maxLen at h2
                have hc := h4 k _ hat.out
                generalize MS[k] = x at hat hc
                have HST := Lib.hid (add_step (fun m => rl.pas til m ⟨#[]⟩) [] hat.out)
                have hal := addP_len ((MS.take k).map (fun m => rl.pas til m ⟨#[]⟩)) []
                rw [List.length_map, List.length_take, List.length_nil] at hal
                have hadd := Lib.hid (HADD.out wr (HUW.out.trans hfr) w5.heap.size bp vk _ x ⟨#[]⟩ HBP.out (by have := HMF.out; omega) hbk hown)
                have HFR := Lib.hid hfr
                have HOW := Lib.hid hown
                clear h4 hbk hown hfr hal
                go_wp2_with fail
                refine hadd.out.mono ?_
                rintro e w6 ⟨rfl, v6, hb6, ho6, hf6⟩
                have H6 := Lib.hid (show wr2b w6 bp v6 w5.heap.size (((MS.take (k + 1)).map (fun m => rl.pas til m ⟨#[]⟩)).foldl addP []) w5 from ⟨hb6, by rw [HST.out]; exact ho6, HFR.out.step hf6 (fun j hj h => by
                  rcases h with h | h
                  · have := HBP.out; omega
                  · have := HOW.out.block j h; omega)⟩)
                clear hb6 ho6 hf6 hadd
                go_wp2
                go_roundw
                case rel => exact ⟨k + 1, v6, by omega, by go_num, H6.out.1, H6.out.2.1, H6.out.2.2⟩
                case measure => simp [intOf]; omega
              · have hki : ¬ (k : Int) < (MS.length : Int) := by omega
                rw [List.take_of_length_le (by omega)] at hown
                obtain ⟨acc2, hacc2⟩ : ∃ acc2, acc2 = (MS.map (fun m => rl.pas til m ⟨#[]⟩)).foldl addP [] := ⟨_, rfl⟩
                rw [← hacc2] at hown
                have hal := addP_len (MS.map (fun m => rl.pas til m ⟨#[]⟩)) []
                rw [← hacc2, List.length_map, List.length_nil] at hal
                have HAL := Lib.hid hal
                have HACC := Lib.hid hacc2
                obtain ⟨HL3, hHL3⟩ : ∃ HL3, HL3 = hl2.map lowA := ⟨_, rfl⟩
                have hl3n : hl2.length = HL3.length := by rw [hHL3, List.length_map]
                have HH3 := Lib.hid (show StrsAt w5 (.slice ahh hl2.length chh) HL3 from by rw [hHL3]; exact HHV2.out.at)
                have HLM2 := Lib.hid (show (hws.map fun h => rl.pas til (bA []) (bA (lowL h))) = HL3.map (fun h => rl.pas til ⟨#[]⟩ h) from by rw [hHL3]; exact HLM.out)
                have HLN := Lib.hid hl3n
                have HS := Lib.hid (show wr2b wr bp vk w5.heap.size acc2 w5 from ⟨hbk, hown, hfr⟩)
                clear hbk hown hfr hacc2 hHL3 hl3n hal hks hk
                go_wp2
                go_loopw [76] (AdRel w5.heap.size w5 bp HL3 (fun h => rl.pas til ⟨#[]⟩ h) acc2) (fun t _ => HL3.length - (intOf t).toNat)
                case atStart => exact ⟨0, _, Nat.zero_le _, rfl, HS.out.1, HS.out.2.1, HS.out.2.2⟩
                case round =>
                  obtain ⟨k, vk, hk, rfl, hbk, hown, hfr⟩ := hrel
                  by_cases hks : k < HL3.length
                  · have hki2 : (k : Int) < (hl2.length : Int) := by have := HLN.out; omega
                    have hki0 : (0 : Int) ≤ (k : Int) := by omega
                    have hat := Lib.hid (List.getElem?_eq_getElem hks)
                    have hHs := HH3.out.frNone hfr
                    rw [HLN.out] at hHs hki2 ⊢
                    rcases hHs with ⟨_, _, _, e, _⟩ | ⟨bk, o, c, hf, h1, h2, h3, h4⟩
                    · rw [e] at hks; exact absurd hks (Nat.not_lt_zero _)
                    cases hf
                    unfold maxLen at h2
                    have hc := h4 k _ hat.out
                    generalize HL3[k] = x at hat hc
                    have HST := Lib.hid (add_step (fun h => rl.pas til ⟨#[]⟩ h) acc2 hat.out)
                    have hal := addP_len ((HL3.take k).map (fun h => rl.pas til ⟨#[]⟩ h)) acc2
                    rw [List.length_map, List.length_take] at hal
                    have hadd := Lib.hid (HADD.out wr (HUW.out.trans hfr) w5.heap.size bp vk _ ⟨#[]⟩ x HBP.out (by have h1 := HMF.out; have h2 := HHF2.out; have h3 := HAL.out; have h4 := HLN.out; omega) hbk hown)
                    have HFR := Lib.hid hfr
                    have HOW := Lib.hid hown
                    clear h4 hbk hown hfr hal
                    go_wp2_with fail
                    refine hadd.out.mono ?_
                    rintro e w6 ⟨rfl, v6, hb6, ho6, hf6⟩
                    have H6 := Lib.hid (show wr2b w6 bp v6 w5.heap.size (((HL3.take (k + 1)).map (fun h => rl.pas til ⟨#[]⟩ h)).foldl addP acc2) w5 from ⟨hb6, by rw [HST.out]; exact ho6, HFR.out.step hf6 (fun j hj h => by
                      rcases h with h | h
                      · have := HBP.out; omega
                      · have := HOW.out.block j h; omega)⟩)
                    clear hb6 ho6 hf6 hadd
                    go_wp2
                    rw [← HLN.out]
                    go_roundw
                    case rel => exact ⟨k + 1, v6, by omega, by go_num, H6.out.1, H6.out.2.1, H6.out.2.2⟩
                    case measure => have hln := HLN.out; simp [intOf]; omega
                  · have hki2 : ¬ (k : Int) < (hl2.length : Int) := by have := HLN.out; omega
                    rw [List.take_of_length_le (by omega)] at hown
                    obtain ⟨G, hG⟩ : ∃ G, G = (HL3.map (fun h => rl.pas til ⟨#[]⟩ h)).foldl addP acc2 := ⟨_, rfl⟩
                    rw [← hG] at hown
                    have HGE := Lib.hid (show rl.grants til [] hws = G from by rw [HGR.out, HLM2.out, hG, HACC.out, HMM.out]; rfl)
                    have HWR := Lib.hid (HUW.out.trans hfr)
                    obtain ⟨av, cv, hvk⟩ := hown.form
                    rw [List.length_map] at hvk
                    subst hvk
                    have HOW := Lib.hid hown
                    have d0 : wr.cell? ⟨bp, 0, none⟩ = some (.slice av G.length cv) := by simp [World.cell?, hbk]
                    have HBK := Lib.hid hbk
                    have hcov := Lib.hid (HCV.out wr HWR.out _ G hown.at)
                    obtain ⟨e0, e1, e2, e3, e4, e5, e6, e7, e8, e9, e10, e11, e12⟩ := HX.out wr HWR.out
                    clear hbk hown hfr hG
                    have HG3 := Lib.hid (show RES = if !rl.covers G then .error 6 else .ok G from by rw [← HGE.out]; exact HG2.out)
                    generalize rl.covers G = cv2 at hcov HG3
                    go_wp2_with fail
                    refine hcov.out.mono ?_
                    rintro e w7 ⟨rfl, hf7⟩
                    have d1 : w7.cell? ⟨bp, 0, none⟩ = some (.slice av G.length cv) := by simp [World.cell?, hf7.keep HBK.out (fun h => h)]
                    have HF7 := Lib.hid hf7
                    clear hf7 e0 e1 e2 e3 e4 e5 e6 e7 e8 e9 e10 e11 e12 d0
                    cases cv2
                    · have HR := Lib.hid (show RES = .error 6 from HG3.out)
                      clear HG3
                      go_wp2
                      go_ret2
                      exact GrRes.bad 6 HR.out (HFB.out.trans (HWR.out.trans HF7.out))
                    · have HR := Lib.hid (show RES = .ok G from HG3.out)
                      clear HG3
                      go_wp2
                      go_ret2
                      exact GrRes.good HR.out (HFB.out.trans (HWR.out.trans HF7.out)) ((HOW.out.fr HF7.out (fun _ _ h => h)).up HB2.out)
      | cons m0 ms0 =>
        obtain ⟨MS, hMS⟩ : ∃ MS : List ByteArray, MS = wordsB (m0 :: ms0) := ⟨_, rfl⟩
        have HMM := Lib.hid (show (if (m0 :: ms0 : List Bs).isEmpty then [mm] else (m0 :: ms0 : List Bs).map bA) = MS from by rw [hMS]; rfl)
        have HMF := Lib.hid (show MS.length ≤ 40 from by rw [hMS]; have h := HMFW.out; unfold wordsB; rw [List.length_map]; exact h)
        have hz0 : ((MS.length : Int) == 0) = false := by rw [beq_eq_false_iff_ne, hMS]; unfold wordsB; simp; omega
        rw [← hMS] at HMST3 HMLT ⊢
        have HMV := Lib.hid HMST3.out.at
        have HDJ := Lib.hid (show ∀ k, (Value.slice am MS.length cm).ownBlock = some k → ¬ own (.slice ahh hl2.length chh) k from fun k hk ho => by
          have h1 := HHST3.out.block k ho
          have h2 := HMLT.out k hk
          omega)
        have HHV := Lib.hid HHST3.out
        have HUL := Lib.hid HU3.out
        obtain ⟨MA, hMA⟩ : ∃ MA, MA = am := ⟨_, rfl⟩
        obtain ⟨MC, hMC⟩ : ∃ MC, MC = cm := ⟨_, rfl⟩
        obtain ⟨uL, rfl⟩ : ∃ uL, uL = u3 := ⟨_, rfl⟩
        rw [← hMA, ← hMC] at HMV HDJ ⊢
        clear hMS hMA hMC
        go_wp2
        go_loopw [51] (LwRel u1.heap.size uL (.slice ahh hl2.length chh) hl2) (fun t _ => hl2.length - (intOf t).toNat)
        case atStart => exact ⟨0, Nat.zero_le _, rfl, by simpa using HHV.out, Fr.refl _ _⟩
        case round =>
          obtain ⟨k, hk, rfl, hst, hfr⟩ := hrel
          by_cases hks : k < hl2.length
          · have hki : (k : Int) < (hl2.length : Int) := by omega
            have hki0 : (0 : Int) ≤ (k : Int) := by omega
            have hat := Lib.hid (List.getElem?_eq_getElem hks)
            have hmem := Lib.hid (List.getElem_mem hks)
            generalize hl2[k] = x at hat hmem
            have hne : (hl2.take k).map lowA ++ hl2.drop k ≠ [] := by
              intro e
              have := congrArg List.length e
              rw [List.length_append, List.length_map, List.length_take, List.length_drop, List.length_nil] at this
              omega
            obtain ⟨gh, hgh, hnl, g1, g2, g3, g4, g5, g6⟩ := Strs.open' hst hne
            subst hgh
            unfold maxLen at g4
            have hc := g5 k x (low_at hat.out)
            have hlow := Lib.hid (Lower_any x wr (HSZ.out x hmem.out))
            clear g5 g6 hnl
            go_wp2_with fail
            refine hlow.out.mono ?_
            rintro e wl ⟨rfl, hwl⟩
            have HST := Lib.hid (hst.fr hwl (fun _ h => absurd h (fun h => h)))
            obtain ⟨gh', hgh', hnl, q1, q2, q3, q4, q5, q6⟩ := Strs.open' HST.out hne
            obtain rfl : gh = gh' := by injection hgh' with h; injection h
            have hc2 := q5 k x (low_at hat.out)
            have hz2 := q6 k
            have HPUT := Lib.hid (HST.out.put (j := k) (lowA x))
            have HFR := Lib.hid (show Fr (own (.slice (some ⟨gh, 0, none⟩) hl2.length chh)) uL (wl.setCell ⟨gh, k, none⟩ (.string (lowA x))) from (hfr.step hwl (fun _ _ h => absurd h (fun h => h))).setCell (p := ⟨gh, k, none⟩) (fun _ => rfl) _)
            rw [low_step hat.out] at HPUT
            unfold lowA at HPUT HFR
            clear q5 q6 hst hfr hwl HST hlow hnl hgh' hne
            go_wp2
            go_roundw
            case rel => exact ⟨k + 1, by omega, by go_num, HPUT.out, HFR.out⟩
            case measure => simp [intOf]; omega
          · have hki : ¬ (k : Int) < (hl2.length : Int) := by omega
            have HHV2 := Lib.hid (show Strs u1.heap.size wr (.slice ahh hl2.length chh) (hl2.map lowA) from by
              have h := hst
              rw [List.take_of_length_le (by omega), List.drop_of_length_le (by omega), List.append_nil] at h
              exact h)
            have HMV2 := Lib.hid (HMV.out.fr hfr HDJ.out)
            have HUW := Lib.hid (show Fr noB w1 wr from HUL.out.step hfr (fun j hj ho => by
              have h1 := HHV2.out.block j ho
              have h2 := HB1.out
              omega))
            clear hst hfr HHV HMV HDJ HUL
            go_wp2
            obtain ⟨w5, rfl⟩ : ∃ w5, w5 = wr := ⟨_, rfl⟩
            obtain ⟨wq, hwq⟩ : ∃ wq, wq = (w5.alloc (.cells #[] 64)).alloc (.cells #[.slice (some ⟨w5.heap.size, 0, none⟩) 0 0] 60) := ⟨_, rfl⟩
            have hfq : Fr noB w5 wq := by rw [hwq]; exact ((Fr.refl _ _).alloc _).alloc _
            have hpq : wq.heap[w5.heap.size + 1]? = some (.cells #[.slice (some ⟨w5.heap.size, 0, none⟩) 0 0] 60 (0, 0)) := by
              have h := new_block (w5.alloc (.cells #[] 64)) (.cells #[.slice (some ⟨w5.heap.size, 0, none⟩) 0 0] 60)
              rw [World.size_alloc] at h
              rw [hwq]; exact h
            have hz0 : wq.heap[w5.heap.size]? = some (.cells #[] 64 (0, 0)) := by rw [hwq]; exact ((Fr.refl noB _).alloc _).keep (new_block _ _) (fun h => h)
            have HO0 := Lib.hid (show OwnRows w5.heap.size 64 12 wq (.slice (some ⟨w5.heap.size, 0, none⟩) 0 0) (([] : List Pas).map Pas.cells) from ⟨by simp, rfl, Or.inr ⟨w5.heap.size, 0, #[], rfl, Nat.le_refl _, hz0, Nat.le_refl _, by decide, rfl, rfl⟩⟩)
            have HPQ := Lib.hid hpq
            have HFQ := Lib.hid hfq
            obtain ⟨bp, hbp⟩ : ∃ bp, bp = w5.heap.size + 1 := ⟨_, rfl⟩
            have HBP := Lib.hid (show w5.heap.size ≤ bp from by omega)
            have HB2 := Lib.hid (show w.heap.size ≤ w5.heap.size from by have := HFB.out.size; have := HUW.out.size; omega)
            rw [← hwq, ← hbp]
            rw [← hbp] at HPQ
            clear hfq hpq hz0 hwq hbp hki hk hks
            go_loopw [66] (AdRel w5.heap.size w5 bp MS (fun m => rl.pas til m ⟨#[]⟩) []) (fun t _ => MS.length - (intOf t).toNat)
            case atStart => exact ⟨0, _, Nat.zero_le _, rfl, HPQ.out, HO0.out, HFQ.out⟩
            case round =>
              obtain ⟨k, vk, hk, rfl, hbk, hown, hfr⟩ := hrel
              by_cases hks : k < MS.length
              · have hki : (k : Int) < (MS.length : Int) := by omega
                have hki0 : (0 : Int) ≤ (k : Int) := by omega
                have hat := Lib.hid (List.getElem?_eq_getElem hks)
                rcases HMV2.out.frNone hfr with ⟨_, _, _, e, _⟩ | ⟨bk, o, c, hf, h1, h2, h3, h4⟩
                · rw [e] at hks; exact absurd hks (Nat.not_lt_zero _)
                cases hf
                unfold maxLen at h2
                have hc := h4 k _ hat.out
                generalize MS[k] = x at hat hc
                have HST := Lib.hid (add_step (fun m => rl.pas til m ⟨#[]⟩) [] hat.out)
                have hal := addP_len ((MS.take k).map (fun m => rl.pas til m ⟨#[]⟩)) []
                rw [List.length_map, List.length_take, List.length_nil] at hal
                have hadd := Lib.hid (HADD.out wr (HUW.out.trans hfr) w5.heap.size bp vk _ x ⟨#[]⟩ HBP.out (by have := HMF.out; omega) hbk hown)
                have HFR := Lib.hid hfr
                have HOW := Lib.hid hown
                clear h4 hbk hown hfr hal
                go_wp2_with fail
                refine hadd.out.mono ?_
                rintro e w6 ⟨rfl, v6, hb6, ho6, hf6⟩
                have H6 := Lib.hid (show wr2b w6 bp v6 w5.heap.size (((MS.take (k + 1)).map (fun m => rl.pas til m ⟨#[]⟩)).foldl addP []) w5 from ⟨hb6, by rw [HST.out]; exact ho6, HFR.out.step hf6 (fun j hj h => by
                  rcases h with h | h
                  · have := HBP.out; omega
                  · have := HOW.out.block j h; omega)⟩)
                clear hb6 ho6 hf6 hadd
                go_wp2
                go_roundw
                case rel => exact ⟨k + 1, v6, by omega, by go_num, H6.out.1, H6.out.2.1, H6.out.2.2⟩
                case measure => simp [intOf]; omega
              · have hki : ¬ (k : Int) < (MS.length : Int) := by omega
                rw [List.take_of_length_le (by omega)] at hown
                obtain ⟨acc2, hacc2⟩ : ∃ acc2, acc2 = (MS.map (fun m => rl.pas til m ⟨#[]⟩)).foldl addP [] := ⟨_, rfl⟩
                rw [← hacc2] at hown
                have hal := addP_len (MS.map (fun m => rl.pas til m ⟨#[]⟩)) []
                rw [← hacc2, List.length_map, List.length_nil] at hal
                have HAL := Lib.hid hal
                have HACC := Lib.hid hacc2
                obtain ⟨HL3, hHL3⟩ : ∃ HL3, HL3 = hl2.map lowA := ⟨_, rfl⟩
                have hl3n : hl2.length = HL3.length := by rw [hHL3, List.length_map]
                have HH3 := Lib.hid (show StrsAt w5 (.slice ahh hl2.length chh) HL3 from by rw [hHL3]; exact HHV2.out.at)
                have HLM2 := Lib.hid (show (hws.map fun h => rl.pas til (bA []) (bA (lowL h))) = HL3.map (fun h => rl.pas til ⟨#[]⟩ h) from by rw [hHL3]; exact HLM.out)
                have HLN := Lib.hid hl3n
                have HS := Lib.hid (show wr2b wr bp vk w5.heap.size acc2 w5 from ⟨hbk, hown, hfr⟩)
                clear hbk hown hfr hacc2 hHL3 hl3n hal hks hk
                go_wp2
                go_loopw [76] (AdRel w5.heap.size w5 bp HL3 (fun h => rl.pas til ⟨#[]⟩ h) acc2) (fun t _ => HL3.length - (intOf t).toNat)
                case atStart => exact ⟨0, _, Nat.zero_le _, rfl, HS.out.1, HS.out.2.1, HS.out.2.2⟩
                case round =>
                  obtain ⟨k, vk, hk, rfl, hbk, hown, hfr⟩ := hrel
                  by_cases hks : k < HL3.length
                  · have hki2 : (k : Int) < (hl2.length : Int) := by have := HLN.out; omega
                    have hki0 : (0 : Int) ≤ (k : Int) := by omega
                    have hat := Lib.hid (List.getElem?_eq_getElem hks)
                    have hHs := HH3.out.frNone hfr
                    rw [HLN.out] at hHs hki2 ⊢
                    rcases hHs with ⟨_, _, _, e, _⟩ | ⟨bk, o, c, hf, h1, h2, h3, h4⟩
                    · rw [e] at hks; exact absurd hks (Nat.not_lt_zero _)
                    cases hf
                    unfold maxLen at h2
                    have hc := h4 k _ hat.out
                    generalize HL3[k] = x at hat hc
                    have HST := Lib.hid (add_step (fun h => rl.pas til ⟨#[]⟩ h) acc2 hat.out)
                    have hal := addP_len ((HL3.take k).map (fun h => rl.pas til ⟨#[]⟩ h)) acc2
                    rw [List.length_map, List.length_take] at hal
                    have hadd := Lib.hid (HADD.out wr (HUW.out.trans hfr) w5.heap.size bp vk _ ⟨#[]⟩ x HBP.out (by have h1 := HMF.out; have h2 := HHF2.out; have h3 := HAL.out; have h4 := HLN.out; omega) hbk hown)
                    have HFR := Lib.hid hfr
                    have HOW := Lib.hid hown
                    clear h4 hbk hown hfr hal
                    go_wp2_with fail
                    refine hadd.out.mono ?_
                    rintro e w6 ⟨rfl, v6, hb6, ho6, hf6⟩
                    have H6 := Lib.hid (show wr2b w6 bp v6 w5.heap.size (((HL3.take (k + 1)).map (fun h => rl.pas til ⟨#[]⟩ h)).foldl addP acc2) w5 from ⟨hb6, by rw [HST.out]; exact ho6, HFR.out.step hf6 (fun j hj h => by
                      rcases h with h | h
                      · have := HBP.out; omega
                      · have := HOW.out.block j h; omega)⟩)
                    clear hb6 ho6 hf6 hadd
                    go_wp2
                    rw [← HLN.out]
                    go_roundw
                    case rel => exact ⟨k + 1, v6, by omega, by go_num, H6.out.1, H6.out.2.1, H6.out.2.2⟩
                    case measure => have hln := HLN.out; simp [intOf]; omega
                  · have hki2 : ¬ (k : Int) < (hl2.length : Int) := by have := HLN.out; omega
                    rw [List.take_of_length_le (by omega)] at hown
                    obtain ⟨G, hG⟩ : ∃ G, G = (HL3.map (fun h => rl.pas til ⟨#[]⟩ h)).foldl addP acc2 := ⟨_, rfl⟩
                    rw [← hG] at hown
                    have HGE := Lib.hid (show rl.grants til (m0 :: ms0) hws = G from by rw [HGR.out, HLM2.out, hG, HACC.out, HMM.out]; rfl)
                    have HWR := Lib.hid (HUW.out.trans hfr)
                    obtain ⟨av, cv, hvk⟩ := hown.form
                    rw [List.length_map] at hvk
                    subst hvk
                    have HOW := Lib.hid hown
                    have d0 : wr.cell? ⟨bp, 0, none⟩ = some (.slice av G.length cv) := by simp [World.cell?, hbk]
                    have HBK := Lib.hid hbk
                    have hcov := Lib.hid (HCV.out wr HWR.out _ G hown.at)
                    obtain ⟨e0, e1, e2, e3, e4, e5, e6, e7, e8, e9, e10, e11, e12⟩ := HX.out wr HWR.out
                    clear hbk hown hfr hG
                    have HG3 := Lib.hid (show RES = if !rl.covers G then .error 6 else .ok G from by rw [← HGE.out]; exact HG2.out)
                    generalize rl.covers G = cv2 at hcov HG3
                    go_wp2_with fail
                    refine hcov.out.mono ?_
                    rintro e w7 ⟨rfl, hf7⟩
                    have d1 : w7.cell? ⟨bp, 0, none⟩ = some (.slice av G.length cv) := by simp [World.cell?, hf7.keep HBK.out (fun h => h)]
                    have HF7 := Lib.hid hf7
                    clear hf7 e0 e1 e2 e3 e4 e5 e6 e7 e8 e9 e10 e11 e12 d0
                    cases cv2
                    · have HR := Lib.hid (show RES = .error 6 from HG3.out)
                      clear HG3
                      go_wp2
                      go_ret2
                      exact GrRes.bad 6 HR.out (HFB.out.trans (HWR.out.trans HF7.out))
                    · have HR := Lib.hid (show RES = .ok G from HG3.out)
                      clear HG3
                      go_wp2
                      go_ret2
                      exact GrRes.good HR.out (HFB.out.trans (HWR.out.trans HF7.out)) ((HOW.out.fr HF7.out (fun _ _ h => h)).up HB2.out)
end Go.Proofs.YtkoobhgedoanhaaGreatDoor

namespace Go.Proofs.YtkoobhgedoanhaaGreatDoor
open Go.RowKit

theorem trimCR (l : Bs) : Lib.trimSuffix l [13] = endCR l := by
  unfold Lib.trimSuffix Lib.hasSuffix endCR
  rcases List.eq_nil_or_concat l with rfl | ⟨a, b, rfl⟩
  · rfl
  · have h1 : (List.isSuffixOf [13] (a.concat b) = true) ↔ b = 13 := by
      rw [List.isSuffixOf_iff_suffix, List.concat_eq_append]
      constructor
      · rintro ⟨t, ht⟩
        have := (List.append_inj' ht rfl).2
        simpa using this.symm
      · rintro rfl
        exact ⟨a, rfl⟩
    have h2 : (a.concat b).getLast? = some b := by rw [List.concat_eq_append]; simp
    rw [h2]
    by_cases hb : b = 13
    · rw [if_pos (h1.2 hb), if_pos (by rw [hb]), List.dropLast_eq_take]; rfl
    · rw [if_neg (fun h => hb (h1.1 h)), if_neg (fun h => hb (Option.some.inj h))]
theorem endCR_len (l : Bs) : (endCR l).length ≤ l.length := by unfold endCR; split <;> simp
theorem cutF_miss {c : UInt8} {s : ByteArray} (h : ¬ 0 ≤ Lib.indexByte s.data.toList c) : cutL c s.data.toList = (s.data.toList, [], false) :=
  cutL_miss c _ (fun hc => (idx_neg _ _).1 h c hc rfl)
theorem cutF_hit {c : UInt8} {s : ByteArray} {i : Nat} (h : Lib.indexByte s.data.toList c = (i : Int)) : cutL c s.data.toList = (s.data.toList.take i, s.data.toList.drop (i + 1), true) := by
  obtain ⟨he, hn⟩ := idx_split _ _ _ h
  have := cutL_hit c (s.data.toList.take i) (s.data.toList.drop (i + 1)) hn
  rw [← he] at this
  exact this
theorem splitF_le (c : UInt8) : ∀ d : Bs, (splitL c d).length ≤ d.length + 1 ∧ ∀ p ∈ splitL c d, p.length ≤ d.length
  | [] => by simp [splitL]
  | x :: d => by
    have ih := splitF_le c d
    by_cases hx : x = c
    · subst hx
      rw [splitL_hit]
      refine ⟨by simp; omega, fun p hp => ?_⟩
      rcases List.mem_cons.1 hp with rfl | hp
      · simp
      · have := ih.2 p hp; simp; omega
    · cases e : splitL c d with
      | nil => exact absurd e (splitL_ne c d)
      | cons q qs =>
        rw [e] at ih
        rw [splitL_step hx e]
        refine ⟨by simp at ih ⊢; omega, fun p hp => ?_⟩
        rcases List.mem_cons.1 hp with rfl | hp
        · have := ih.2 q (List.mem_cons_self ..); simp; omega
        · have := ih.2 p (List.mem_cons_of_mem _ hp); simp; omega
theorem fieldsN_len : ∀ (ls : List Bs) (acc out : List Par), fieldsN ls acc = .ok out → acc.length ≤ 40 → out.length ≤ 40
  | [], acc, out, h, hn => by rw [fieldsN] at h; cases h; exact hn
  | l :: ls, acc, out, h, hn => by
    rw [fieldsN] at h
    cases hl : lineR l with
    | none => rw [hl] at h; cases h
    | some q =>
      rw [hl] at h
      cases q with
      | none => exact fieldsN_len ls acc out h hn
      | some p =>
        simp only at h
        split at h
        · cases h
        · exact fieldsN_len ls _ out h (by simp; omega)
def FieldsPost (s : ByteArray) (w : World) (e : Ending) (w' : World) : Prop :=
  Fr noB w w' ∧ match fieldsL s.data.toList with
  | .ok ps => ∃ v, e = .returned (.tuple #[v, .nilIface]) ∧ OwnRows w.heap.size 79 2 w' v (ps.map parC)
  | .error n => ∃ er, e = .returned (.tuple #[.slice none 0 0, er]) ∧ ErrN n er w'
def FlRel (L : List Bs) (w : World) (out t : Value) (wr : World) : Prop :=
  ∃ (k : Nat) (acc : List Par), k ≤ L.length ∧ t = .int .i64 k ∧ OwnRows w.heap.size 79 2 wr out (acc.map parC) ∧ fieldsN L [] = fieldsN (L.drop k) acc ∧ acc.length ≤ 40 ∧ Fr noB w wr
theorem fields_step {L : List Bs} {k : Nat} {x : Bs} {acc : List Par} (h : L[k]? = some x) : fieldsN (L.drop k) acc = match lineR x with
    | none => .error 3
    | some none => fieldsN (L.drop (k + 1)) acc
    | some (some p) => if acc.length = 40 then .error 4 else fieldsN (L.drop (k + 1)) (acc ++ [p]) := by
  have hk := (List.getElem?_eq_some_iff.1 h).1
  have hx : L.drop k = x :: L.drop (k + 1) := by
    rw [List.drop_eq_getElem_cons hk]
    have := (List.getElem?_eq_some_iff.1 h).2
    rw [this]
  rw [hx, fieldsN]
  rfl
set_option maxRecDepth 100000 in
set_option maxHeartbeats 8000000 in
theorem Fields_any (s : ByteArray) (w : World) (hs : s.size < 100000) :
    Calls Tryz.prog 39 #[.string s] w (FieldsPost s w) := by
  by_cases h3 : 3000 < s.size
  · have h3' : (3000 : Int) < (s.size : Int) := by omega
    have HE := Lib.hid (show fieldsL s.data.toList = .error 4 by unfold fieldsL; rw [if_pos (show 3000 < s.data.toList.length from h3)])
    go_enter Tryz.func39, Tryz.ntmps39
    go_wp2
    go_ret2
    refine ⟨Fr.refl _ _, ?_⟩
    rw [HE.out]
    exact ⟨_, rfl, Or.inl rfl⟩
  · have h3' : ¬ (3000 : Int) < (s.size : Int) := by omega
    have HE := Lib.hid (show fieldsL s.data.toList = fieldsN (splitL 10 s.data.toList) [] by unfold fieldsL; rw [if_neg (show ¬ 3000 < s.data.toList.length from h3)])
    have hle := splitF_le 10 s.data.toList
    have HSP := Lib.hid (Split1_any s 10 w (by omega))
    obtain ⟨L, hL⟩ : ∃ L, L = splitL 10 s.data.toList := ⟨_, rfl⟩
    obtain ⟨B, hB⟩ : ∃ B, B = partsB 10 s := ⟨_, rfl⟩
    have hBL : B = L.map fun l => (⟨l.toArray⟩ : ByteArray) := by rw [hB, hL]; rfl
    have hlen : B.length = L.length := by rw [hBL, List.length_map]
    rw [← hL] at HE hle
    rw [← hB] at HSP
    have HLE := Lib.hid hle
    have hL1 : L.length ≤ 3001 := by have h := hle.1; have h2 : s.data.toList.length = s.size := rfl; omega
    have HBL := Lib.hid hBL
    have HSZ := Lib.hid (show ∀ p ∈ L, p.length ≤ 3000 from fun p hp => by have h := hle.2 p hp; have h2 : s.data.toList.length = s.size := rfl; omega)
    clear hle hL hB hBL
    go_enter Tryz.func39, Tryz.ntmps39
    go_wp2_with fail
    refine HSP.out.mono ?_
    rintro e w0 ⟨rfl, hw0⟩
    have hf0 : Fr noB w w0 := by rw [hw0]; exact (Fr.refl _ _).alloc _
    have hbk : w0.heap[w.heap.size]? = some (.cells (B.map Value.string).toArray 9 (0, 0)) := by rw [hw0]; exact new_block _ _
    have HC := Lib.hid (show ∀ U, Fr noB w0 U → ∀ (k : Nat) x, L[k]? = some x → U.cell? ⟨w.heap.size, k, none⟩ = some (.string ⟨x.toArray⟩) from fun U hU k x hx => by
      have h := hU.keep hbk (fun h => h)
      have e : (B.map Value.string)[k]? = some (.string ⟨x.toArray⟩) := by rw [List.getElem?_map, HBL.out, List.getElem?_map, hx]; rfl
      simp only [World.cell?, h]
      simpa using e)
    have HF0 := Lib.hid hf0
    rw [hlen]
    clear hw0 hf0 hbk HSP HBL hlen
    go_wp2
    go_loopw [4, 17] (FlRel L w0) (fun _ t _ => L.length - (intOf t).toNat)
    case atStart => exact ⟨0, [], Nat.zero_le _, rfl, OwnRows.nil _ _ _ _, by rw [List.drop_zero], by decide, Fr.refl _ _⟩
    case round =>
      obtain ⟨k, acc, hk, rfl, ho, hn, hacc, hfr⟩ := hrel
      obtain ⟨ao, co, hoe⟩ := ho.form
      rw [List.length_map] at hoe
      subst hoe
      by_cases hks : k < L.length
      · have hki : (k : Int) < (L.length : Int) := by omega
        have hat := Lib.hid (List.getElem?_eq_getElem hks)
        have hmem := Lib.hid (List.getElem_mem hks)
        generalize L[k] = x at hat hmem
        have hxz := HSZ.out x hmem.out
        have c0 := HC.out wr hfr k x hat.out
        obtain ⟨lb, hlb⟩ : ∃ lb : ByteArray, lb = ⟨x.toArray⟩ := ⟨_, rfl⟩
        have hlx : lb.data.toList = x := by rw [hlb]
        rw [← hlb] at c0
        obtain ⟨y, hy⟩ : ∃ y : ByteArray, y = ⟨(Lib.trimSuffix lb.data.toList [13]).toArray⟩ := ⟨_, rfl⟩
        have hyl : y.data.toList = endCR x := by rw [hy, hlx, trimCR]
        have hyz : y.size ≤ 3000 := by
          have h := endCR_len x
          have h2 : y.data.toList.length = y.size := rfl
          rw [hyl] at h2; omega
        have hlz : lb.size ≤ 3000 := by have h2 : lb.data.toList.length = lb.size := rfl; rw [hlx] at h2; omega
        have HTS := Lib.hid (show Calls Tryz.prog 102 #[.string lb, .string ⟨#[13]⟩] wr fun e w' => e = .returned (.string y) ∧ wr = w' from (Tryz.strings_TrimSuffix lb ⟨#[13]⟩ wr (by omega)).mono (by rintro e w' ⟨rfl, rfl⟩; exact ⟨by rw [hy], rfl⟩))
        have HST := Lib.hid (fields_step (acc := acc) hat.out)
        have HN := Lib.hid hn
        have HO := Lib.hid ho
        have HLR := Lib.hid (show lineR x = if y.data.toList.isEmpty then some none else if !(cutL 58 y.data.toList).2.2 || !isL (cutL 58 y.data.toList).1 then none else some (some ((cutL 58 y.data.toList).1, trimB (cutL 58 y.data.toList).2.1)) by rw [hyl]; rfl)
        clear hlb hlx hy hyl hn ho
        have hty : y.toList = y.data.toList := ByteArray.toList_eq _
        by_cases hy0 : y.size = 0
        · have hy1 := byteArray_nil.2 hy0
          have hty0 : y.toList = [] := by rw [hty]; exact hy1
          have hty1 : (y.toList == []) = true := by rw [hty0]; rfl
          have HR := Lib.hid (show fieldsN L [] = fieldsN (L.drop (k + 1)) acc by rw [HN.out, HST.out, HLR.out, hy1]; rfl)
          clear hty hy1
          go_wp2_with fail
          refine HTS.out.mono ?_
          rintro e u ⟨rfl, rfl⟩
          go_wp2
          go_roundw
          case rel => exact ⟨k + 1, acc, by omega, by go_num, HO.out, HR.out, hacc, hfr⟩
          case measure => simp [intOf]; omega
        · have hy1 : ¬ y.data.toList = [] := fun h => hy0 (byteArray_nil.1 h)
          have hty0 : ¬ y.toList = [] := by rw [hty]; exact hy1
          have hty1 : (y.toList == []) = false := by rw [beq_eq_false_iff_ne]; exact hty0
          have HLR2 := Lib.hid (show lineR x = if !(cutL 58 y.data.toList).2.2 || !isL (cutL 58 y.data.toList).1 then none else some (some ((cutL 58 y.data.toList).1, trimB (cutL 58 y.data.toList).2.1)) by
            rw [HLR.out, if_neg (by simpa using hy1)])
          clear hty hy1 HLR
          by_cases hix : 0 ≤ Lib.indexByte y.data.toList 58
          · obtain ⟨i, hi⟩ : ∃ i : Nat, Lib.indexByte y.data.toList 58 = (i : Int) := ⟨(Lib.indexByte y.data.toList 58).toNat, by omega⟩
            have hil : i < y.size := idx_lt hi
            have hcut := cutF_hit hi
            obtain ⟨nm, hnm⟩ : ∃ nm : ByteArray, nm = y.extract 0 i := ⟨_, rfl⟩
            obtain ⟨vl, hvl⟩ : ∃ vl : ByteArray, vl = y.extract (i + 1) y.size := ⟨_, rfl⟩
            have hnl : nm.data.toList = y.data.toList.take i := by rw [hnm, ofList_extract]; simp
            have hvll : vl.data.toList = y.data.toList.drop (i + 1) := by
              rw [hvl, ofList_extract]
              exact List.take_of_length_le (by rw [List.length_drop]; exact Nat.le_refl _)
            have hnz : nm.size ≤ 3000 := by
              have h2 : nm.data.toList.length = nm.size := rfl
              rw [hnl, List.length_take] at h2
              have h3 : y.data.toList.length = y.size := rfl
              omega
            have hvz : vl.size ≤ 3000 := by
              have h2 : vl.data.toList.length = vl.size := rfl
              rw [hvll, List.length_drop] at h2
              have h3 : y.data.toList.length = y.size := rfl
              omega
            have HCUT := Lib.hid (cut1_hit y 58 i wr (by omega) hi hil)
            rw [← hnm, ← hvl] at HCUT
            rw [hcut] at HLR2
            simp only at HLR2
            rw [← hnl, ← hvll] at HLR2
            clear hnm hvl hnl hvll hcut
            cases hisl : isL nm.data.toList
            · have HR := Lib.hid (show fieldsL s.data.toList = .error 3 by rw [HE.out, HN.out, HST.out, HLR2.out, hisl]; rfl)
              have HIS := Lib.hid (fun U => Is_any nm U (by omega))
              rw [hisl] at HIS
              clear hisl hi hix
              go_wp2_with fail
              refine HTS.out.mono ?_
              rintro e u ⟨rfl, rfl⟩
              go_wp2_with fail
              refine HCUT.out.mono ?_
              rintro e u ⟨rfl, n, rfl⟩
              go_wp2_with fail
              refine (HIS.out _).mono ?_
              rintro e u ⟨rfl, rfl⟩
              have hbk := new_block (wr.drewN n) (.cells #[.int .i64 3, .int .i64 k] 150)
              have HBK := Lib.hid hbk
              have HFF := Lib.hid ((hfr.drewN n).alloc (.cells #[.int .i64 3, .int .i64 k] 150))
              clear hbk
              go_wp2
              go_ret2
              refine ⟨HF0.out.trans HFF.out, ?_⟩
              rw [HR.out]
              exact ⟨_, rfl, Or.inr ⟨_, k, rfl, HBK.out⟩⟩
            · by_cases h40 : acc.length = 40
              · have HR := Lib.hid (show fieldsL s.data.toList = .error 4 by rw [HE.out, HN.out, HST.out, HLR2.out, hisl]; simp [h40])
                have HIS := Lib.hid (fun U => Is_any nm U (by omega))
                rw [hisl] at HIS
                have i40 : (acc.length : Int) = 40 := by omega
                clear hisl hi hix
                go_wp2_with fail
                refine HTS.out.mono ?_
                rintro e u ⟨rfl, rfl⟩
                go_wp2_with fail
                refine HCUT.out.mono ?_
                rintro e u ⟨rfl, n, rfl⟩
                go_wp2_with fail
                refine (HIS.out _).mono ?_
                rintro e u ⟨rfl, rfl⟩
                have HFF := Lib.hid (hfr.drewN n)
                go_wp2
                go_ret2
                refine ⟨HF0.out.trans HFF.out, ?_⟩
                rw [HR.out]
                exact ⟨_, rfl, Or.inl rfl⟩
              · have HIS := Lib.hid (fun U => Is_any nm U (by omega))
                have HTR := Lib.hid (fun U => TrimSet_any vl ⟨#[32, 9]⟩ U (by omega) (by decide) (by decide) (by decide))
                obtain ⟨tv, htv⟩ : ∃ tv : ByteArray, tv = ⟨(Lib.trimS vl.data.toList [32, 9]).toArray⟩ := ⟨_, rfl⟩
                have htl : tv.data.toList = trimB vl.data.toList := by rw [htv]; rfl
                have HTR2 := Lib.hid (show ∀ U, Calls Tryz.prog 103 #[.string vl, .string ⟨#[32, 9]⟩] U fun e w' => e = .returned (.string tv) ∧ Fr noB U w' from fun U => by rw [htv]; exact HTR.out U)
                have HPC := Lib.hid (show parC (nm.data.toList, tv.data.toList) = [.string nm, .string tv] by unfold parC; simp only [bA_of])
                have HR := Lib.hid (show fieldsN L [] = fieldsN (L.drop (k + 1)) (acc ++ [(nm.data.toList, tv.data.toList)]) by rw [HN.out, HST.out, HLR2.out, hisl, htl]; simp [h40])
                rw [hisl] at HIS
                have i40 : ¬ (acc.length : Int) = 40 := by omega
                clear hisl hi hix htv htl HTR
                go_wp2_with fail
                refine HTS.out.mono ?_
                rintro e u ⟨rfl, rfl⟩
                go_wp2_with fail
                refine HCUT.out.mono ?_
                rintro e u ⟨rfl, n, rfl⟩
                go_wp2_with fail
                refine (HIS.out _).mono ?_
                rintro e u ⟨rfl, rfl⟩
                go_wp2_with fail
                refine (HTR2.out _).mono ?_
                rintro e u ⟨rfl, hu⟩
                have HFU := Lib.hid ((hfr.drewN n).trans hu)
                have HOU := Lib.hid (HO.out.drewN (n := n) |>.fr hu (fun _ _ h => h))
                have hsu : w0.heap.size ≤ u.heap.size := HFU.out.size
                clear hu
                go_wp2_with (at_builtin; go_must (refine wpList_row rfl _ _ 36 79 rfl 2 32 (.agg #[.string ⟨#[]⟩, .string ⟨#[]⟩]) Tryz.underlying36 info_par rfl (by decide) (by decide) w0.heap.size (.slice ao acc.length co) (acc.map parC) rfl (HOU.out.alloc _) u.heap.size 1 [.string nm, .string tv] rfl rfl (by simp [Value.oneCell']) (fun i u hi => by rw [World.cell?_alloc_mark]; simpa using hi) (by rw [List.length_map]; omega) (by simp; omega) ?_); intro v' w4 hown4 hg4)
                have HF4 := Lib.hid ((HFU.out.alloc (.cells #[.string nm, .string tv] 79)).grownNew hg4 (fun j hj => HOU.out.block j hj))
                go_roundw
                case rel => exact ⟨k + 1, acc ++ [(nm.data.toList, tv.data.toList)], by omega, by go_num, by rw [List.map_append, List.map_cons, List.map_nil, HPC.out]; exact hown4, HR.out, by simp; omega, HF4.out⟩
                case measure => simp [intOf]; omega
          · have hcut := cutF_miss hix
            have HR := Lib.hid (show fieldsL s.data.toList = .error 3 by rw [HE.out, HN.out, HST.out, HLR2.out, hcut]; rfl)
            have HCUT := Lib.hid (cut1_miss y 58 wr hix)
            clear hix hcut
            go_wp2_with fail
            refine HTS.out.mono ?_
            rintro e u ⟨rfl, rfl⟩
            go_wp2_with fail
            refine HCUT.out.mono ?_
            rintro e u ⟨rfl, rfl⟩
            have hbk := new_block u (.cells #[.int .i64 3, .int .i64 k] 150)
            have HBK := Lib.hid hbk
            have HFF := Lib.hid (hfr.alloc (.cells #[.int .i64 3, .int .i64 k] 150))
            clear hbk
            go_wp2
            go_ret2
            refine ⟨HF0.out.trans HFF.out, ?_⟩
            rw [HR.out]
            exact ⟨_, rfl, Or.inr ⟨_, k, rfl, HBK.out⟩⟩
      · have hki : ¬ (k : Int) < (L.length : Int) := by omega
        have hnil : L.drop k = [] := List.drop_of_length_le (by omega)
        have HR := Lib.hid (show fieldsL s.data.toList = .ok acc by rw [HE.out, hn, hnil]; rfl)
        have HO := Lib.hid ho
        clear ho hn
        go_wp2
        go_ret2
        refine ⟨HF0.out.trans hfr, ?_⟩
        rw [HR.out]
        exact ⟨_, rfl, HO.out.up HF0.out.size⟩
end Go.Proofs.YtkoobhgedoanhaaGreatDoor
