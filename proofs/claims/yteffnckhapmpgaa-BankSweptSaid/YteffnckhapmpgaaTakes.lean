/- The law BankTakes. -/
import Derived.Test.YteffnckhapmpgaaAsked
import Derived.Test.YteffnckhapmpgaaFarthest
import Derived.Test.YteffnckhapmpgaaSameG
import Derived.StillTailTactics
namespace Go.Proofs.Yteffnckhapmpgaa
open Go.RowKit

/-- one wait of each origin -/
def WApart (ws : List (WaitOf Texts)) : Prop := ws.Pairwise (fun x y => forW y.o y.proxy x = false)
theorem forW_iff {o : Ori} {p : Bool} {g : WaitOf Texts} : forW o p g = true ↔ g.o = o ∧ g.proxy = p := by
  unfold forW
  rw [Bool.and_eq_true, Ori.eqB_iff, beq_iff_eq]
theorem takeL_sub (o : Ori) (p : Bool) : ∀ (ws : List (WaitOf Texts)), (takeL o p ws).1.Sublist ws
  | [] => List.Sublist.refl _
  | g :: l => by
    rw [takeL]
    split
    · exact List.sublist_cons_self _ _
    · exact (takeL_sub o p l).cons_cons g
theorem takeL_clean (o : Ori) (p : Bool) : ∀ {ws : List (WaitOf Texts)}, WApart ws → (takeL o p ws).1.any (forW o p) = false
  | [], _ => rfl
  | g :: l, h => by
    unfold WApart at h
    rw [List.pairwise_cons] at h
    rw [takeL]
    split
    · rename_i hg
      rw [List.any_eq_false]
      intro y hy hf
      have := h.1 y hy
      rw [forW_iff] at hg hf
      have h2 : forW y.o y.proxy g = true := forW_iff.2 ⟨by rw [hg.1, hf.1], by rw [hg.2, hf.2]⟩
      rw [h2] at this
      cases this
    · rename_i hg
      simp only [List.any_cons, takeL_clean o p (ws := l) h.2, Bool.or_false]
      simpa using hg
theorem askL_apart {ws : List (WaitOf Texts)} (h : WApart ws) (m : WaitOf Texts) : WApart (askL ws m) := by
  unfold askL WApart
  refine List.Pairwise.drop ?_
  rw [List.pairwise_append]
  refine ⟨List.Pairwise.sublist (takeL_sub _ _ _) h, by simp, fun x hx y hy => ?_⟩
  simp at hy
  subst hy
  have := List.any_eq_false.1 (takeL_clean y.o y.proxy h) x hx
  simpa using this
theorem askL_last {ws : List (WaitOf Texts)} (h : WApart ws) (m : WaitOf Texts) : ∃ l, askL ws m = l ++ [m] ∧ l.any (forW m.o m.proxy) = false := by
  have hc := takeL_clean m.o m.proxy h
  unfold askL
  generalize (takeL m.o m.proxy ws).1 = l at hc
  refine ⟨l.drop (l.length + 1 - 8), ?_, ?_⟩
  · simp only [List.length_append, List.length_cons, List.length_nil]
    rw [List.drop_append_of_le_length (by omega)]
  · rw [List.any_eq_false] at hc ⊢
    exact fun x hx => hc x (List.mem_of_mem_drop hx)
theorem take_asked {ws : List (WaitOf Texts)} (h : WApart ws) (m : WaitOf Texts) : ∃ l, takeL m.o m.proxy (askL ws m) = (l, some m) ∧ takeL m.o m.proxy l = (l, none) ∧ l.length ≤ 8 := by
  obtain ⟨l, h1, h2⟩ := askL_last h m
  refine ⟨l, ?_, takeL_none h2, ?_⟩
  · rw [h1, takeL_hit (k := l.length) (g := m) (by simpa using h2) (by simp) (forW_iff.2 ⟨rfl, rfl⟩)]
    simp
  · have := askL_len ws m
    rw [h1] at this
    simp at this
    omega

theorem GrantsArg.lit1 (w : World) (r : GrantOf Value) (g : GrantOf Texts) (h : r.Reads (StrsArg w) g) (hone : ∀ u ∈ r.cells, u.oneCell' = true) (hs : g.Sized) :
    GrantsArg (w.alloc (.cells r.cells.toArray 48)) (.slice (some ⟨w.heap.size, 0, none⟩) 1 1) [g] := by
  have hf : Fr noB w (w.alloc (.cells r.cells.toArray 48)) := (Fr.refl noB w).alloc _
  refine ⟨[r], ⟨?_, Or.inr ⟨w.heap.size, 0, 1, rfl, Nat.le_refl _, by simp [maxLen], by simp, ?_⟩⟩, .cons (h.mono (fun _ _ h => StrsAt.frNone h hf)) .nil, ?_⟩
  · intro x hx
    simp at hx; subst hx
    exact ⟨rfl, hone⟩
  · intro j x hj i u hu
    have hb : (w.alloc (.cells r.cells.toArray 48)).heap[w.heap.size]? = some (.cells r.cells.toArray 48 (0, 0)) := new_block _ _
    match j, hj with
    | 0, hj =>
      simp at hj; subst hj
      simp only [World.cell?, hb]
      simpa using hu
  · intro g' hg'
    simp at hg'; subst hg'
    exact hs
theorem GrantOf.Reads.one {w : World} {r : GrantOf Value} {g : GrantOf Texts} (h : r.Reads (StrsArg w) g) : ∀ u ∈ r.cells, u.oneCell' = true := by
  obtain ⟨a, c, e1⟩ := StrsAt.form h.2.2.2.2.1.2.2.2.2.2.2.2
  obtain ⟨b, d, e2⟩ := StrsAt.form h.2.2.2.2.2.2
  exact grant_one e1 e2
/-- the wait that the law makes of a grant -/
def GrantOf.wait {D : Type} (g : GrantOf D) (path : ByteArray) : WaitOf D := ⟨g.o, g.proxy, path, g.a⟩

def TaRel (base b : Nat) (U : World) (n : Nat) (i : Value) (wr : World) : Prop :=
  ∃ (k : Nat) (gv wv : Value) (ws : List (WaitOf Texts)), k ≤ n ∧ i = .int .i64 k ∧ BankIs base wr b gv wv [] ws ∧ WApart ws ∧ ws.length ≤ 8 ∧ Fr noB U wr
theorem AskedPost.frame {base : Nat} {a w w' : World} {b : Nat} {gv wv : Value} {gs gs' : List (GrantOf Texts)} {ws ws' : List (WaitOf Texts)} (h : BankPost base w b gv wv gs ws w') (h0 : BankIs base w b gv wv gs' ws') (hf : Fr noB a w) (hb : a.heap.size ≤ base) : Fr noB a w' := BankPost.frame h h0 hf hb
set_option maxHeartbeats 8000000 in
set_option maxRecDepth 100000 in
theorem BankTakes_walk (v0 : Value) (gs : List (GrantOf Texts)) (r : GrantOf Value) (g : GrantOf Texts) (path : ByteArray) (hz : path.size ≤ 140737488351232) (w : World) (st0 : GrantsFit w v0 gs) (st1 : GrantFit w r g) :
    Calls Try.prog 9 #[v0, .agg r.cells.toArray, .string path] w fun e w' => e = .returned (.bool true) ∧ Below w.heap.size w w' := by
  have hg0 := st0.1
  have hr0 := st1.1
  have hsz := st1.2.1.to
  clear st0 st1
  have hone := hr0.one
  obtain ⟨x, hx⟩ : ∃ x, x = r.cells := ⟨_, rfl⟩
  have hxk : x.length = 16 := by rw [hx]; rfl
  have hf0 : Fr noB w (w.alloc (.cells x.toArray 48)) := (Fr.refl noB w).alloc _
  have hbx : (w.alloc (.cells x.toArray 48)).heap[w.heap.size]? = some (.cells x.toArray 48 (0, 0)) := new_block _ _
  have hw0 : w.heap.size < (w.alloc (.cells x.toArray 48)).heap.size := by simp
  have HX := Lib.hid hx
  have HONE := Lib.hid hone
  have hxi := Lib.hid (show (Try.prog.info? 48).map (·.size) = some x.toArray.size by rw [List.size_toArray, hxk]; kernel_rfl)
  rw [← hx]
  clear hx hone
  go_enter Try.func9, Try.ntmps9
  go_wp2_with fail
  generalize w.alloc (.cells x.toArray 48) = W at *
  refine (banked_any W).mono ?_
  rintro e u1 ⟨rfl, hf1⟩
  have hF1 := hf0.trans hf1
  have hg1 := hg0.frN hF1
  have hbx1 := hf1.keep hbx (fun h => h)
  have HELD := Lib.hid (held_any v0 gs u1 hg1)
  clear hg0 hf1 hf0 hbx
  go_wp2_with fail
  refine HELD.out.mono ?_
  rintro e u2 ⟨rfl, hf2⟩
  clear HELD
  have hF2 := hF1.trans hf2
  have hg2 := hg1.frN hf2
  have hbx2 := Lib.hid (hf2.keep hbx1 (fun h => h))
  clear hg1 hbx1 hF1 hf2
  cases hh : heldB gs
  · go_wp2
    go_ret
    exact ⟨rfl, hF2.none_below⟩
  · have hxl : ∀ i u, r.cells[i]? = some u → u2.cell? ⟨w.heap.size, i, none⟩ = some u := fun i u hu => by
      have e := HX.out
      rw [← e] at hu
      simp only [World.cell?, hbx2.out]; simpa using hu
    have x0 := hxl 0 _ rfl
    have x1 := hxl 1 _ rfl
    have x2 := hxl 2 _ rfl
    have x3 := hxl 3 _ rfl
    have x4 := hxl 4 _ rfl
    have x5 := hxl 5 _ rfl
    have x6 := hxl 6 _ rfl
    have x7 := hxl 7 _ rfl
    have x8 := hxl 8 _ rfl
    have x9 := hxl 9 _ rfl
    have x10 := hxl 10 _ rfl
    have x11 := hxl 11 _ rfl
    have x12 := hxl 12 _ rfl
    have x13 := hxl 13 _ rfl
    have x14 := hxl 14 _ rfl
    have x15 := hxl 15 _ rfl
    have hlit : GrantsArg (u2.alloc (.cells #[.bool r.o.secure, .string r.o.host, .int .i64 r.o.port, .bool r.proxy, .string r.user, .string r.pass, .int .i64 r.a.scheme, .string r.a.realm, .string r.a.nonce, .string r.a.opaq, .bool r.a.sess, .string r.a.qop, .bool r.a.stale, r.a.dom, .int .i64 r.count, r.paths] 48)) _ [g] := GrantsArg.lit1 u2 r g (hr0.mono (fun _ _ h => StrsAt.frNone h hF2)) HONE.out hsz
    have hfl : Fr noB u2 (u2.alloc (.cells #[.bool r.o.secure, .string r.o.host, .int .i64 r.o.port, .bool r.proxy, .string r.user, .string r.pass, .int .i64 r.a.scheme, .string r.a.realm, .string r.a.nonce, .string r.a.opaq, .bool r.a.sess, .string r.a.qop, .bool r.a.stale, r.a.dom, .int .i64 r.count, r.paths] 48)) := (Fr.refl noB u2).alloc _
    have HELD := Lib.hid (held_any _ [g] _ hlit)
    have HF3 := Lib.hid (hF2.trans hfl)
    have HG3 := Lib.hid (hg2.frN hfl)
    have HBX3 := Lib.hid (hfl.keep hbx2.out (fun h => h))
    clear hlit hfl hg2 hF2 hxl
    have hpz : (path.size : Int) ≤ 140737488351232 := by omega
    go_wp2_with fail
    clear x0 x1 x2 x3 x4 x5 x6 x7 x8 x9 x10 x11 x12 x13 x14 x15
    generalize u2.alloc (.cells #[.bool r.o.secure, .string r.o.host, .int .i64 r.o.port, .bool r.proxy, .string r.user, .string r.pass, .int .i64 r.a.scheme, .string r.a.realm, .string r.a.nonce, .string r.a.opaq, .bool r.a.sess, .string r.a.qop, .bool r.a.stale, r.a.dom, .int .i64 r.count, r.paths] 48) = W3 at *
    refine HELD.out.mono ?_
    rintro e u3 ⟨rfl, hf3⟩
    clear HELD
    have HF4 := Lib.hid (HF3.out.trans hf3)
    have HG4 := Lib.hid (HG3.out.frN hf3)
    have HBX4 := Lib.hid (hf3.keep HBX3.out (fun h => h))
    have HH := Lib.hid hh
    clear HF3 HG3 HBX3 hf3 hh
    cases hh1 : heldB [g]
    · go_wp2
      go_ret
      exact ⟨rfl, HF4.out.none_below⟩
    · by_cases hp : (100 : Int) < path.size
      · go_wp2
        go_ret
        exact ⟨rfl, HF4.out.none_below⟩
      · have HH1 := Lib.hid hh1
        clear hh1
        have hB5 := Lib.hid (BankIs.new u3)
        have hfa : Fr noB u3 (u3.alloc (.cells #[.slice none 0 0, .slice none 0 0] 63)) := (Fr.refl noB u3).alloc _
        have HG5 := Lib.hid (HG4.out.frN hfa)
        have HBX5 := Lib.hid (hfa.keep HBX4.out (fun h => h))
        have HFA := Lib.hid hfa
        have hul : w.heap.size < u3.heap.size := lt_of_some HBX4.out
        obtain ⟨rs4, hrows, hbm, hsz4⟩ := HG4.out
        have hml := hbm.len
        obtain ⟨am, cm, hform⟩ := hrows.form
        rw [List.length_map, hml] at hform
        subst hform
        obtain ⟨hm30, hmfew⟩ := heldB_few HH.out
        obtain ⟨_, hgfew⟩ := heldB_few HH1.out
        have HROWS := Lib.hid (And.intro hrows (And.intro hbm hmfew))
        have HGF := Lib.hid hgfew
        clear hfa hrows hbm hsz4 hmfew hgfew
        go_wp2
        generalize u3.alloc (.cells #[.slice none 0 0, .slice none 0 0] 63) = W5 at *
        go_loopw [8] (TaRel u3.heap.size u3.heap.size u3 gs.length) (fun i _ => gs.length - (intOf i).toNat)
        case atStart => exact ⟨0, _, _, [], Nat.zero_le _, rfl, hB5.out, List.Pairwise.nil, by simp, HFA.out⟩
        case round =>
          obtain ⟨k, gv, wv, ws, hk, rfl, hB, hap, hl8, hfr⟩ := hrel
          have HAP := Lib.hid hap
          clear hap
          by_cases hks : k < gs.length
          · obtain ⟨hrows2, hb2, hmfew⟩ := HROWS.out
            have hl := hb2.len
            obtain ⟨q, hri⟩ : ∃ q, rs4[k]? = some q := ⟨_, List.getElem?_eq_getElem (by omega)⟩
            obtain ⟨h4, hg, hr⟩ := hb2.get hri
            have hFu : Fr noB u3 wr := hfr
            rcases hrows2.2 with ⟨_, _, e1, e2, _⟩ | ⟨bk, o, c, e1, q1, q2, q3, q4⟩
            · simp at e2; rw [e2] at hl; simp at hl; omega
            · rw [List.length_map, hl] at e1
              cases e1
              have hcell0 := q4 k q.cells (by rw [List.getElem?_map, hri]; rfl)
              have hcell : ∀ (i : Nat) u, q.cells[i]? = some u → wr.cell? ⟨bk, o + k * 16 + i, none⟩ = some u := fun i u hu => (hFu.cell (p := ⟨bk, o + k * 16 + i, none⟩) q3 (fun h => h)).trans (hcell0 i u hu)
              unfold maxLen at q2
              rw [List.length_map, hl] at q1
              have hqin := (hr.in hFu (Nat.le_refl _) (hmfew h4 (List.mem_of_getElem? hg)))
              have hfd : Fr noB wr wr.drew := Fr.drew (Fr.refl noB wr)
              have hBd := Lib.hid (hB.frN hfd)
              have HFD := Lib.hid (hfr.trans hfd)
              have hpost := Lib.hid (Asked_any u3.heap.size wr.drew u3.heap.size gv wv [] ws (q.wait ⟨#[]⟩) (h4.wait ⟨#[]⟩) hBd.out ⟨hqin.1, hqin.2.1, rfl, hqin.2.2.2.2.1.mono (fun _ _ h => h.frN hfd)⟩ (by omega))
              have y0 := hcell 0 _ rfl
              have y1 := hcell 1 _ rfl
              have y2 := hcell 2 _ rfl
              have y3 := hcell 3 _ rfl
              have y6 := hcell 6 _ rfl
              have y7 := hcell 7 _ rfl
              have y8 := hcell 8 _ rfl
              have y9 := hcell 9 _ rfl
              have y10 := hcell 10 _ rfl
              have y11 := hcell 11 _ rfl
              have y12 := hcell 12 _ rfl
              have y13 := hcell 13 _ rfl
              clear hcell hcell0 q4 hri hg hr hb2 hrows2 hmfew hqin
              simp only [Nat.add_zero] at y0
              unfold WaitOf.cells GrantOf.wait at hpost
              go_wp2_with fail
              go_still_tail 17, (by kernel_rfl)
              change wpList _ _ _ _ _ wr.drew
              clear y0 y1 y2 y3 y6 y7 y8 y9 y10 y11 y12 y13
              generalize wr.drew = Wd at *
              go_wp2_with fail
              refine hpost.out.mono ?_
              intro e w6 hp
              obtain ⟨rfl, hp⟩ := hp
              have hF6 := hp.frame hBd.out HFD.out (Nat.le_refl _)
              obtain ⟨gv6, wv6, hB6, _, _⟩ := hp
              have H6 := Lib.hid (And.intro hB6 (And.intro (askL_apart HAP.out (h4.wait ⟨#[]⟩)) (And.intro (askL_len ws (h4.wait ⟨#[]⟩)) hF6)))
              clear hpost hB6 hF6
              go_wp2
              go_roundw
              case rel => exact ⟨k + 1, gv6, wv6, _, by omega, by go_num, H6.out.1, H6.out.2.1, H6.out.2.2.1, H6.out.2.2.2⟩
              case measure => simp [intOf]; omega
          · have hbxr := hfr.keep HBX4.out (fun h => h)
            have hxl : ∀ i u, r.cells[i]? = some u → wr.cell? ⟨w.heap.size, i, none⟩ = some u := fun i u hu => by
              have e := HX.out
              rw [← e] at hu
              simp only [World.cell?, hbxr]; simpa using hu
            have x0 := hxl 0 _ rfl
            have x1 := hxl 1 _ rfl
            have x2 := hxl 2 _ rfl
            have x3 := hxl 3 _ rfl
            have x6 := hxl 6 _ rfl
            have x7 := hxl 7 _ rfl
            have x8 := hxl 8 _ rfl
            have x9 := hxl 9 _ rfl
            have x10 := hxl 10 _ rfl
            have x11 := hxl 11 _ rfl
            have x12 := hxl 12 _ rfl
            have x13 := hxl 13 _ rfl
            have HBXR := Lib.hid hbxr
            have hrin := hr0.in (base := u3.heap.size) (HF4.out.trans hfr) (by omega) (HGF.out g (by simp))
            obtain ⟨m, hm⟩ : ∃ m, m = g.wait path := ⟨_, rfl⟩
            have hpost := Lib.hid (Asked_any u3.heap.size wr u3.heap.size gv wv [] ws (r.wait path) m hB (by rw [hm]; exact ⟨hrin.1, hrin.2.1, rfl, hrin.2.2.2.2.1⟩) (by omega))
            have HQ := Lib.hid (show r.o = m.o ∧ r.proxy = m.proxy ∧ m.path = path ∧ m.a = g.a from by rw [hm]; exact ⟨hr0.1, hr0.2.1, rfl, rfl⟩)
            clear hm
            unfold WaitOf.cells GrantOf.wait at hpost
            have HRIN := Lib.hid hrin
            clear hxl hbxr hrin
            go_wp2_with fail
            clear x0 x1 x2 x3 x6 x7 x8 x9 x10 x11 x12 x13
            refine hpost.out.mono ?_
            intro e w6 hp
            obtain ⟨rfl, hp⟩ := hp
            have hF6 := hp.frame hB hfr (Nat.le_refl _)
            obtain ⟨gv6, wv6, hB6, _, _⟩ := hp
            obtain ⟨l, ht1, ht2, hll⟩ := take_asked HAP.out m
            have hal := askL_len ws m
            have HT1 := Lib.hid ht1
            have HT2 := Lib.hid ht2
            have hbx6 := hF6.keep HBX4.out (fun h => h)
            have hxl : ∀ i u, r.cells[i]? = some u → w6.cell? ⟨w.heap.size, i, none⟩ = some u := fun i u hu => by
              have e := HX.out
              rw [← e] at hu
              simp only [World.cell?, hbx6]; simpa using hu
            have x0 := hxl 0 _ rfl
            have x1 := hxl 1 _ rfl
            have x2 := hxl 2 _ rfl
            have x3 := hxl 3 _ rfl
            have htake := Lib.hid (Take_any u3.heap.size w6 u3.heap.size gv6 wv6 [] _ r.o r.proxy hB6 (by omega))
            have HF6 := Lib.hid hF6
            have HB6 := Lib.hid hB6
            unfold Ori.cells at htake
            clear ht1 ht2 hxl hbx6 hpost hF6 hB6
            go_wp2_with fail
            clear x0 x1 x2 x3
            refine htake.out.mono ?_
            intro e w7 hp
            rw [show takeL r.o r.proxy (askL ws m) = (l, some m) from by rw [HQ.out.1, HQ.out.2.1]; exact HT1.out] at hp
            have hF7 := hp.1.frame HB6.out HF6.out (Nat.le_refl _)
            obtain ⟨⟨gv7, wv7, hB7, _, _⟩, r7, rfl, hr7, hone7⟩ := hp
            obtain ⟨y, hy⟩ : ∃ y, y = r7.cells := ⟨_, rfl⟩
            have hyk : y.length = 13 := by rw [hy]; rfl
            have hst := fun W => run_storeCells_new (P := Try.prog) W 66 zWa y (by rw [hyk]; rfl) (by rw [hy]; exact hone7)
            rw [← hy]
            have HY := Lib.hid hy
            have hfa7 : Fr noB w7 (w7.alloc (.cells y.toArray 66)) := (Fr.refl noB w7).alloc _
            have hby : (w7.alloc (.cells y.toArray 66)).heap[w7.heap.size]? = some (.cells y.toArray 66 (0, 0)) := new_block _ _
            have hF8 := hF7.trans hfa7
            have hB8 : BankIs u3.heap.size _ u3.heap.size gv7 wv7 [] l := hB7.frN hfa7
            have hnb : ¬ bankF u3.heap.size gv7 wv7 w7.heap.size := by
              rintro (h | h | h)
              · have := hB7.lt; omega
              · obtain ⟨c, e⟩ := hB7.gkind h; have := lt_of_some e; omega
              · obtain ⟨c, e⟩ := hB7.wkind h; have := lt_of_some e; omega
            have HR8 := Lib.hid (hr7.mono (fun _ _ h => h.frN hfa7))
            have hbx8 := hF8.keep HBX4.out (fun h => h)
            have hxl : ∀ i u, r.cells[i]? = some u → (w7.alloc (.cells y.toArray 66)).cell? ⟨w.heap.size, i, none⟩ = some u := fun i u hu => by
              have e := HX.out
              rw [← e] at hu
              simp only [World.cell?, hbx8]; simpa using hu
            have x0 := hxl 0 _ rfl
            have x1 := hxl 1 _ rfl
            have x2 := hxl 2 _ rfl
            have x3 := hxl 3 _ rfl
            have htake2 := Lib.hid (Take_any u3.heap.size _ u3.heap.size gv7 wv7 [] _ r.o r.proxy hB8 (by omega))
            have HF8 := Lib.hid hF8
            have HB8 := Lib.hid hB8
            have HBY := Lib.hid hby
            unfold Ori.cells at htake2
            clear hy hone7 hr7 hfa7 hby hF8 hB7 hB8 hbx8 hxl hF7 htake HF6 HB6
            go_wp2_with fail
            clear x0 x1 x2 x3 hst
            have hw7 : w7.heap.size < (w7.alloc (.cells y.toArray 66)).heap.size := by simp
            generalize w7.alloc (.cells y.toArray 66) = W8 at *
            refine htake2.out.mono ?_
            intro e w9 hp
            rw [show takeL r.o r.proxy l = (l, none) from by rw [HQ.out.1, HQ.out.2.1]; exact HT2.out] at hp
            have hF9 := hp.1.frame HB8.out HF8.out (Nat.le_refl _)
            obtain ⟨⟨gv9, wv9, hB9, hf9, _⟩, rfl⟩ := hp
            have hby9 := hf9.keep HBY.out hnb
            have hr9 := HR8.out.mono (fun _ _ h => h.fr hf9 HB8.out.off)
            have hst := fun W => run_storeCells_new (P := Try.prog) W 66 zWa zWa.toList rfl zWa_one
            have hfa9 : Fr noB w9 (w9.alloc (.cells zWa 66)) := (Fr.refl noB w9).alloc _
            have hF10 := hF9.trans hfa9
            have hB10 := hB9.frN hfa9
            have hr10 := hr9.mono (fun _ _ h => h.frN hfa9)
            have hby10 := hfa9.keep hby9 (fun h => h)
            have hbx10 := hF10.keep HBX4.out (fun h => h)
            have hyl : ∀ i u, r7.cells[i]? = some u → (w9.alloc (.cells zWa 66)).cell? ⟨w7.heap.size, i, none⟩ = some u := fun i u hu => by
              have e := HY.out
              rw [← e] at hu
              simp only [World.cell?, hby10]; simpa using hu
            have hxl : ∀ i u, r.cells[i]? = some u → (w9.alloc (.cells zWa 66)).cell? ⟨w.heap.size, i, none⟩ = some u := fun i u hu => by
              have e := HX.out
              rw [← e] at hu
              simp only [World.cell?, hbx10]; simpa using hu
            have y2 := hyl 4 _ rfl
            have y5 := hyl 5 _ rfl
            have y6 := hyl 6 _ rfl
            have y7 := hyl 7 _ rfl
            have y8 := hyl 8 _ rfl
            have y9 := hyl 9 _ rfl
            have y10 := hyl 10 _ rfl
            have y11 := hyl 11 _ rfl
            have y12 := hyl 12 _ rfl
            have x6 := hxl 6 _ rfl
            have x7 := hxl 7 _ rfl
            have x8 := hxl 8 _ rfl
            have x9 := hxl 9 _ rfl
            have x10 := hxl 10 _ rfl
            have x11 := hxl 11 _ rfl
            have x12 := hxl 12 _ rfl
            have x13 := hxl 13 _ rfl
            have hpe : r7.path = path := hr10.2.2.1.trans HQ.out.2.2.1
            rw [hpe] at y2
            have hdl := HGF.out g (by simp)
            have SA := Lib.hid (sameAsk_same r7.a r.a g.a _ ((HQ.out.2.2.2 ▸ hr10.2.2.2 : r7.a.Reads _ g.a).mono (fun _ _ h => h.rd)) ((hr0.2.2.2.2.1).mono (fun _ _ h => StrsAt.frNone h (HF4.out.trans hF10))) (by omega))
            have HB10 := Lib.hid hB10
            have HF10 := Lib.hid hF10
            unfold AskOf.cells at SA
            clear hpe hyl hxl hbx10 hby10 hr10 hB10 hF10 hfa9 hr9 hby9 hnb hf9 hF9 hB9 HR8 htake2
            go_wp2_with fail
            clear y2 y5 y6 y7 y8 y9 y10 y11 y12 x6 x7 x8 x9 x10 x11 x12 x13 hst
            generalize w9.alloc (.cells zWa 66) = W10 at *
            refine SA.out.mono ?_
            rintro e w11 ⟨rfl, hf11⟩
            have WT := Lib.hid (Waits_any u3.heap.size w11 u3.heap.size gv9 wv9 [] l (HB10.out.frN hf11) (by omega))
            have HF11 := Lib.hid (HF10.out.trans hf11)
            go_wp2_with fail
            refine WT.out.mono ?_
            intro e w12 hp
            obtain ⟨v, rfl, ⟨hgi, _⟩, hf12⟩ := hp
            obtain ⟨av, cv, hv⟩ := hgi.form
            subst hv
            have HF12 := Lib.hid (HF4.out.trans (HF11.out.trans hf12))
            have hl8' : (l.length : Int) ≤ 8 := by omega
            go_wp2
            go_ret
            exact ⟨rfl, HF12.out.none_below⟩
end Go.Proofs.Yteffnckhapmpgaa
