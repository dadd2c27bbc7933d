/- url.host, url.Right. -/
import Derived.Test.YtkoobhgedoanhaaGreatDoorHost
import Derived.Test.YtkoobhgedoanhaaGreatDoorTrim
import Derived.Test.YtkoobhgedoanhaaGreatDoorTypes
import Derived.Test.YtkoobhgedoanhaaGreatDoorClean
namespace Go.Proofs.YtkoobhgedoanhaaGreatDoor
open Go.RowKit Go.Shelf
attribute [local go_sem] Oper.semAt_some

set_option maxHeartbeats 1000000 in
theorem SplitSeq_any (s sep : ByteArray) (w : World) :
    Calls Tryz.prog 211 #[.string s, .string sep] w fun e w' =>
      e = .returned (.func (.func 231) #[] #[.pointer (some ⟨w.heap.size + 1, 0, none⟩), .pointer (some ⟨w.heap.size, 0, none⟩), .pointer (some ⟨w.heap.size + 2, 0, none⟩)]) ∧
      w' = ((w.alloc (.cells #[.string s] 9)).alloc (.cells #[.string sep] 9)).alloc (.cells #[.int .i64 0] 3) := by
  have hin : Calls Tryz.prog 227 #[.string s, .string sep, .int .i64 0] w fun e w' =>
      e = .returned (.func (.func 231) #[] #[.pointer (some ⟨w.heap.size + 1, 0, none⟩), .pointer (some ⟨w.heap.size, 0, none⟩), .pointer (some ⟨w.heap.size + 2, 0, none⟩)]) ∧
      w' = ((w.alloc (.cells #[.string s] 9)).alloc (.cells #[.string sep] 9)).alloc (.cells #[.int .i64 0] 3) := by
    go_enter Tryz.func227, Tryz.ntmps227
    go_wp2
    go_ret
    exact ⟨rfl, rfl⟩
  go_enter Tryz.func211, Tryz.ntmps211
  go_wp2_with fail
  refine hin.mono ?_
  rintro e w1 ⟨rfl, rfl⟩
  go_wp2
  go_ret
  exact ⟨rfl, rfl⟩

theorem le_sum (f : List UInt8 → Nat) : ∀ (L : List (List UInt8)) (l : List UInt8), l ∈ L → f l ≤ (L.map f).sum
  | a :: L, l, h => by
    simp only [List.map_cons, List.sum_cons]
    rcases List.mem_cons.1 h with rfl | h
    · omega
    · have := le_sum f L l h; omega
theorem parts_size {c : UInt8} {s x : ByteArray} (h : x ∈ partsB c s) : x.size ≤ s.size := by
  unfold partsB at h
  obtain ⟨l, hl, rfl⟩ := List.mem_map.1 h
  have h1 := split_sum c s.data.toList
  have h2 : l.length + 1 ≤ ((splitL c s.data.toList).map fun p => p.length + 1).sum := le_sum (fun p => p.length + 1) _ l hl
  have h3 : s.data.toList.length = s.size := by simp
  show l.toArray.size ≤ _
  simp only [List.size_toArray]
  omega
def hostSet : ByteArray := ⟨#[97, 98, 99, 100, 101, 102, 103, 104, 105, 106, 107, 108, 109, 110, 111, 112, 113, 114, 115, 116, 117, 118, 119, 120, 121, 122, 48, 49, 50, 51, 52, 53, 54, 55, 56, 57, 45]⟩
theorem hostSet_ascii : ∀ b ∈ hostSet.data.toList, b.toNat < 128 := by decide +kernel
theorem hostSet_has : ∀ n : Fin 256, hostSet.data.toList.contains n.val.toUInt8 = hostC n.val.toUInt8 := by decide +kernel
theorem hostSet_all (l : List UInt8) : l.all (hostSet.data.toList.contains ·) = l.all hostC := by
  congr 1; funext c
  have h := hostSet_has ⟨c.toNat, c.toNat_lt⟩
  simpa using h
/-- a host, as bytes -/
def hostOk (s : ByteArray) : Bool := hostB s.data.toList
/-- what the loop's body finds and leaves -/
def HostW (w wc W : World) : Prop := W.heap[w.heap.size]? = some (.cells #[.bool false] 4 (0, 0)) ∧ Fr noB w W ∧ wc.heap.size ≤ W.heap.size
def HostI (w wc : World) (pre : List ByteArray) (W : World) : Prop := (∀ p ∈ pre, labB p.data.toList = true) ∧ HostW w wc W
def HostX (w wc : World) (pre : List ByteArray) (W : World) : Prop := (∃ p ∈ pre, labB p.data.toList = false) ∧ HostW w wc W
theorem HostW.fr {w wc A B : World} (hz : wc.heap.size = w.heap.size + 4) (h : HostW w wc A) (hf : Fr (kept2 (w.heap.size + 1) wc.heap.size) A B) : HostW w wc B :=
  ⟨hf.keep h.1 (by unfold kept2; omega), h.2.1.step hf (fun j hj hk => by unfold kept2 at hk; omega), Nat.le_trans h.2.2 hf.size⟩
theorem HostW.grow {w wc A B : World} (h : HostW w wc A) (hf : Fr noB A B) : HostW w wc B := ⟨hf.keep h.1 (fun h => h), h.2.1.trans hf, Nat.le_trans h.2.2 hf.size⟩
theorem HostW.put {w wc A : World} (h : HostW w wc A) : HostW w wc (A.setCell ⟨w.heap.size, 0, none⟩ (.bool false)) :=
  ⟨by simp [World.setCell, Array.getElem?_modify, h.1], h.2.1.setNew (p := ⟨w.heap.size, 0, none⟩) (Nat.le_refl _) _, by simpa [World.setCell] using h.2.2⟩
theorem Fr.others {A B : World} (h : Fr noB A B) : KeepsOthers A B := ⟨h.size, fun _ _ hk _ => h.keep hk (fun h => h)⟩
theorem Fr.keeps3 {k : Nat} {A B : World} (h : Fr noB A B) (hk : k + 3 ≤ A.heap.size) : Keeps3 k A B := fun j _ h2 => h.block j (by omega) (fun h => h)
theorem host_bad {w wc W : World} {pre : List ByteArray} {x : ByteArray} (h : HostI w wc pre W) (hx : labB x.data.toList = false) (A : World) (hA : Fr noB W A) (aa : Act) :
    roundS (w.heap.size + 1) (HostI w wc) (HostX w wc) (pre ++ [x]) W .ret aa (A.setCell ⟨w.heap.size, 0, none⟩ (.bool false)) :=
  ⟨hA.others.trans (KeepsOthers.setCell A _ _), ⟨x, by simp, hx⟩, (h.2.grow hA).put⟩
theorem host_good {w wc W : World} {pre : List ByteArray} {x : ByteArray} (hz : wc.heap.size = w.heap.size + 4) (h : HostI w wc pre W) (hx : labB x.data.toList = true) (A : World) (hA : Fr noB W A) (aa : Act) :
    roundS (w.heap.size + 1) (HostI w wc) (HostX w wc) (pre ++ [x]) W .normal aa A :=
  ⟨hA.others, hA.keeps3 (by have := h.2.2.2; omega), fun p hp => by
    rcases List.mem_append.1 hp with hp | hp
    · exact h.1 p hp
    · rw [List.mem_singleton] at hp; subst hp; exact hx, h.2.grow hA⟩
set_option maxRecDepth 100000 in
set_option maxHeartbeats 4000000 in
theorem host_any (s : ByteArray) (w : World) (hs : s.size < 100000) :
    Calls Tryz.prog 177 #[.string s] w fun e w' => e = .returned (.bool (hostOk s)) ∧ Fr noB w w' := by
  by_cases h60 : 60 < s.size
  · have i60 : (60 : Int) < (s.size : Int) := by omega
    have HT := Lib.hid (show hostOk s = false by unfold hostOk hostB; rw [decide_eq_false (by simpa using h60)]; rfl)
    go_enter Tryz.func177, Tryz.ntmps177
    go_wp2
    refine bodyPost_ret (v := .bool false) ?_ rfl ⟨by rw [HT.out], ?_⟩
    · simp [results, Tryz.f177, go_sem]
    · first | exact (Fr.refl noB w).alloc _ | exact ((Fr.refl noB w).alloc _).setNew (p := ⟨w.heap.size, 0, none⟩) (Nat.le_refl _) _
  · have i60 : ¬ (60 : Int) < (s.size : Int) := by omega
    obtain ⟨wb, hwb⟩ : ∃ wb, wb = w.alloc (.cells #[.bool false] 4) := ⟨_, rfl⟩
    have hzb : wb.heap.size = w.heap.size + 1 := by rw [hwb]; simp
    have hfb : Fr noB w wb := by rw [hwb]; exact (Fr.refl noB w).alloc _
    have hkb : wb.heap[w.heap.size]? = some (.cells #[.bool false] 4 (0, 0)) := by rw [hwb]; exact new_block _ _
    obtain ⟨wc, hwc⟩ : ∃ wc, wc = ((wb.alloc (.cells #[.string s] 9)).alloc (.cells #[.string ⟨#[46]⟩] 9)).alloc (.cells #[.int .i64 0] 3) := ⟨_, rfl⟩
    have hfc : Fr noB wb wc := by rw [hwc]; exact (((Fr.refl noB wb).alloc _).alloc _).alloc _
    have hzc : wc.heap.size = w.heap.size + 4 := by rw [hwc]; simp [hzb]
    have hc0 : wc.heap[w.heap.size + 1]? = some (.cells #[.string s] 9 (0, 0)) := by
      rw [hwc, ← hzb]
      exact (((Fr.refl noB _).alloc _).alloc _).keep (new_block wb _) (fun h => h)
    have hc1 : wc.heap[w.heap.size + 1 + 1]? = some (.cells #[.string ⟨#[46]⟩] 9 (0, 0)) := by
      rw [hwc, ← hzb]
      have := ((Fr.refl noB _).alloc (.cells #[.int .i64 0] 3)).keep (new_block (wb.alloc (.cells #[.string s] 9)) (.cells #[.string ⟨#[46]⟩] 9)) (fun h => h)
      simpa using this
    have hc2 : wc.heap[w.heap.size + 1 + 2]? = some (.cells #[.int .i64 0] 3 (0, 0)) := by
      rw [hwc, ← hzb]
      have := new_block ((wb.alloc (.cells #[.string s] 9)).alloc (.cells #[.string ⟨#[46]⟩] 9)) (.cells #[.int .i64 0] 3)
      simpa using this
    have HSS := Lib.hid ((SplitSeq_any s ⟨#[46]⟩ wb).mono (R' := fun e w' => e = .returned (.func (.func 231) #[] #[.pointer (some ⟨w.heap.size + 1 + 1, 0, none⟩), .pointer (some ⟨w.heap.size + 1, 0, none⟩), .pointer (some ⟨w.heap.size + 1 + 2, 0, none⟩)]) ∧ wc = w') (fun e w' h => by rw [hzb, ← hwc] at h; exact ⟨h.1, h.2.symm⟩))
    have HWB := Lib.hid hwb
    clear hwb hwc
    refine (callsIn_wide (n := 5)).1 ?_
    refine callsIn_of_wp_marks Tryz.func177 rfl trivial ?_ rfl
    simp only [Tryz.ntmps177, List.size_toArray, List.length_cons, List.length_nil, Nat.reduceAdd, Nat.reduceSub, Array.replicate_succ, Array.replicate_zero, List.push_toArray, List.append_toArray, List.nil_append, List.cons_append]
    gi_wp2_with fail
    rw [← HWB.out]
    refine ⟨trivial, ?_⟩
    refine (callsIn_wide.2 HSS.out).mono ?_
    rintro e u ⟨rfl, rfl⟩
    gi_wp2
    have hkc := hfc.keep hkb (fun h => h)
    have hfwc := hfb.trans hfc
    have HLAB := Lib.hid (show hostOk s = (partsB 46 s).all (fun p => labB p.data.toList) by
      unfold hostOk hostB partsB
      rw [decide_eq_true (by simpa using Nat.le_of_not_lt h60), Bool.true_and, List.all_map]
      rfl)
    refine wpIn_range_state rfl (by decide) (gf := 231) (lb := #[.pointer (some ⟨w.heap.size + 1 + 1, 0, none⟩), .pointer (some ⟨w.heap.size + 1, 0, none⟩), .pointer (some ⟨w.heap.size + 1 + 2, 0, none⟩)]) rfl trivial (enters_of Tryz.func231 (by kernel_rfl) rfl)
      (enc := fun x : ByteArray => Value.string x) (k := w.heap.size + 1) (ys := partsB 46 s) (by omega) (splitSeq1_gives s (w.heap.size + 1) 4 wc (by decide) hs hc0 hc1 hc2) rfl
      (HostI w wc) (HostX w wc) (fun xs A B h f => ⟨h.1, h.2.fr hzc f⟩) (fun xs A B h f => ⟨h.1, h.2.fr hzc f⟩) ⟨(fun p hp => by cases hp), hkc, hfwc, Nat.le_refl _⟩
      (fun x => { tmps := #[.string s, undef, .pointer (some ⟨w.heap.size, 0, none⟩), .string x, .string s, .int .i64 s.size, .bool false, .string s, .func (.func 231) #[] #[.pointer (some ⟨w.heap.size + 1 + 1, 0, none⟩), .pointer (some ⟨w.heap.size + 1, 0, none⟩), .pointer (some ⟨w.heap.size + 1 + 2, 0, none⟩)], .string x, undef, undef, undef, undef, undef, undef, undef, undef, undef, undef, undef, undef, undef, undef, undef, undef, undef, undef, undef, undef], defers := [] }) ?assign ?body ?done ?stop
    case assign =>
      intro l x W K hK
      gi_wp2
      exact hK
    case body =>
      intro l pre x W hi hxp
      have hxz : x.size ≤ s.size := parts_size (hxp.subset (by simp))
      clear hxp
      have HGOOD := Lib.hid (fun hx => host_good (x := x) hzc hi hx)
      have HBAD := Lib.hid (fun hx => host_bad (x := x) hi hx)
      obtain ⟨_, hr, _, _⟩ := hi
      have HR := Lib.hid hr
      have c0 : W.cell? ⟨w.heap.size, 0, none⟩ = some (.bool false) := by simp [World.cell?, hr]
      have c1 : W.frozen? ⟨w.heap.size, 0, none⟩ = false := by simp [World.frozen?, hr]
      clear hr hkb hkc hc0 hc1 hc2 hfb hfc hfwc hzb HSS HWB HLAB
      by_cases hx0 : x.size = 0
      · have hl : labB x.data.toList = false := by
          have : x.data.toList = [] := by apply List.eq_nil_of_length_eq_zero; simpa using hx0
          rw [this]; rfl
        have hem : x.toList = [] := by rw [ByteArray.toList_eq]; apply List.eq_nil_of_length_eq_zero; simpa using hx0
        have hem2 : x.toList.isEmpty = true := by rw [hem]; rfl
        have HB := Lib.hid (HBAD.out hl)
        clear hl HBAD HGOOD
        gi_wp2
        refine ⟨trivial, ?_⟩
        gi_wp2
        exact HB.out W (Fr.refl _ _) _
      · obtain ⟨m, hm⟩ : ∃ m, x.size = m + 1 := ⟨x.size - 1, by omega⟩
        have hne : ¬ x.toList = [] := by rw [ByteArray.toList_eq]; intro h; apply hx0; have := congrArg List.length h; simpa using this
        have hne2 : x.toList.isEmpty = false := by simpa using hne
        have HEM := Lib.hid (show x.data.toList.isEmpty = false by rw [← ByteArray.toList_eq]; exact hne2)
        have HH0 := Lib.hid (show x.data.toList.head? = some (x[0]'(by omega)) by rw [List.head?_eq_getElem?]; exact byte_at x 0 (by omega))
        have HHL := Lib.hid (show x.data.toList.getLast? = some (x[m]'(by omega)) by
          rw [List.getLast?_eq_getElem?]
          have : x.data.toList.length - 1 = m := by have : x.data.toList.length = x.size := by simp
                                                    omega
          rw [this]; exact byte_at x m (by omega))
        have hm1 : ((x.size : Nat) : Int) - 1 = (m : Int) := by omega
        have hm2 : (m : Int) < (x.size : Int) := by omega
        have hm3 : (0 : Int) ≤ (m : Int) := by omega
        have hm4 : m < x.size := by omega
        have hm5 : 0 < x.size := by omega
        have hm6 : (0 : Int) < (x.size : Int) := by omega
        have e45 : ∀ c : UInt8, c = 45 ↔ (c.toNat : Int) = 45 := fun c => by
          constructor
          · rintro rfl; rfl
          · intro h; exact UInt8.toNat.inj (by have : (45 : UInt8).toNat = 45 := rfl; omega)
        by_cases h45 : x[0]'(by omega) = 45
        · have i0 : (((x[0]'(by omega)).toNat : Int) == 45) = true := beq_iff_eq.2 ((e45 _).1 h45)
          have i0' : ((x[0]'(by omega)).toNat : Int) = 45 := (e45 _).1 h45
          have HB := Lib.hid (HBAD.out (by unfold labB; rw [HH0.out, h45]; simp))
          clear HBAD HGOOD HEM HH0 HHL e45 h45
          gi_wp2
          refine ⟨trivial, ?_⟩
          gi_wp2
          exact HB.out W (Fr.refl _ _) _
        · have i0 : (((x[0]'(by omega)).toNat : Int) == 45) = false := beq_eq_false_iff_ne.2 (fun h => h45 ((e45 _).2 h))
          have i0' : ¬ ((x[0]'(by omega)).toNat : Int) = 45 := fun h => h45 ((e45 _).2 h)
          by_cases g45 : x[m]'(by omega) = 45
          · have i1 : (((x[m]'(by omega)).toNat : Int) == 45) = true := beq_iff_eq.2 ((e45 _).1 g45)
            have i1' : ((x[m]'(by omega)).toNat : Int) = 45 := (e45 _).1 g45
            have HB := Lib.hid (HBAD.out (by unfold labB; rw [HHL.out, g45]; simp))
            clear HBAD HGOOD HEM HH0 HHL e45 g45 h45
            gi_wp2
            refine ⟨trivial, ?_⟩
            gi_wp2
            exact HB.out W (Fr.refl _ _) _
          · have i1 : (((x[m]'(by omega)).toNat : Int) == 45) = false := beq_eq_false_iff_ne.2 (fun h => g45 ((e45 _).2 h))
            have i1' : ¬ ((x[m]'(by omega)).toNat : Int) = 45 := fun h => g45 ((e45 _).2 h)
            have HLB := Lib.hid (show labB x.data.toList = x.data.toList.all hostC by
              unfold labB
              rw [HEM.out, HH0.out, HHL.out, show (some (x[0]'(by omega)) == some 45) = false by simpa using h45, show (some (x[m]'(by omega)) == some 45) = false by simpa using g45]
              rfl)
            have HTR := Lib.hid (TrimSet_any x hostSet W (by omega) (by decide) (by decide) hostSet_ascii)
            clear HEM HH0 HHL e45 g45 h45
            gi_wp2_with fail
            refine ⟨trivial, ?_⟩
            refine (CallsIn.inRound l (callsIn_wide.2 HTR.out)).mono ?_
            rintro e u ⟨rfl, hfu⟩
            cases hall : x.data.toList.all hostC
            · have htn : Lib.trimS x.data.toList hostSet.data.toList ≠ [] := fun h => by rw [trimS_nil, hostSet_all, hall] at h; cases h
              have t1 : ¬ (⟨(Lib.trimS x.data.toList hostSet.data.toList).toArray⟩ : ByteArray).toList = [] := by rw [ByteArray.toList_eq]; simpa using htn
              have t2 : (⟨(Lib.trimS x.data.toList hostSet.data.toList).toArray⟩ : ByteArray).toList.isEmpty = false := by simpa using t1
              have HB := Lib.hid (HBAD.out (HLB.out.trans hall))
              have hk0 := hfu.keep HR.out (fun h => h)
              have d0 : u.cell? ⟨w.heap.size, 0, none⟩ = some (.bool false) := by simp [World.cell?, hk0]
              have d1 : u.frozen? ⟨w.heap.size, 0, none⟩ = false := by simp [World.frozen?, hk0]
              clear htn hall HBAD HGOOD HLB HTR c0 c1
              generalize (⟨(Lib.trimS x.data.toList hostSet.data.toList).toArray⟩ : ByteArray) = z at *
              gi_wp2
              exact HB.out u hfu _
            · have htn : Lib.trimS x.data.toList hostSet.data.toList = [] := by rw [trimS_nil, hostSet_all, hall]
              rw [htn]
              have HG := Lib.hid (HGOOD.out (HLB.out.trans hall))
              clear htn hall HBAD HGOOD HLB HTR
              gi_wp2
              exact HG.out u hfu _
    case done =>
      rintro D W rfl ⟨hall, hw⟩ hd
      have c0 : W.cell? ⟨w.heap.size, 0, none⟩ = some (.bool false) := by simp [World.cell?, hw.1]
      have c1 : W.frozen? ⟨w.heap.size, 0, none⟩ = false := by simp [World.frozen?, hw.1]
      have HT := Lib.hid (show hostOk s = true by rw [HLAB.out, List.all_eq_true]; exact hall)
      have HF := Lib.hid hw.2.1
      clear hw
      gi_wp2
      have hd' := (KeepsOthers.setCell W ⟨w.heap.size, 0, none⟩ (.bool true)).same _ _ hd rfl
      refine ⟨by simp, .inl ⟨_, _, rfl, run_takeDeferred hd', ?_⟩⟩
      have hc5 := cell_kept (World.cell?_setCell_same' W ⟨w.heap.size, 0, none⟩ (.bool true) (by rw [c0]; rfl)) (grownBy_putObj' _ wc.heap.size (.deferred none)) (fun r e => by cases e; exact ⟨_, hd', rfl⟩)
      refine ⟨.bool true, ?_, by rw [HT.out], (HF.out.setNew (p := ⟨w.heap.size, 0, none⟩) (Nat.le_refl _) _).putObj (fun hl => by omega) _⟩
      simp [results, Tryz.f177, go_sem, hc5]
    case stop =>
      rintro D xs W rfl hxs ⟨⟨p, hp, hlp⟩, hw⟩ hd
      have HT := Lib.hid (show hostOk s = false by rw [HLAB.out, List.all_eq_false]; exact ⟨p, hxs.subset hp, by simp [hlp]⟩)
      have c0 : W.cell? ⟨w.heap.size, 0, none⟩ = some (.bool false) := by simp [World.cell?, hw.1]
      have HF := Lib.hid hw.2.1
      clear hw
      gi_wp2
      refine ⟨by simp, .inl ⟨_, _, rfl, run_takeDeferred hd, ?_⟩⟩
      have hc5 := cell_kept c0 (grownBy_putObj' _ wc.heap.size (.deferred none)) (fun r e => by cases e; exact ⟨_, hd, rfl⟩)
      refine ⟨.bool false, ?_, by rw [HT.out], HF.out.putObj (fun hl => by omega) _⟩
      simp [results, Tryz.f177, go_sem, hc5]

/-- url.Right -/
def rightO (o : Ori) : Bool := rightB ⟨o.secure, o.host.data.toList, o.port⟩
set_option maxHeartbeats 1000000 in
theorem Right_any (o : Ori) (w : World) (hs : o.host.size < 100000) :
    Calls Tryz.prog 134 #[.agg o.cells.toArray] w fun e w' => e = .returned (.bool (rightO o)) ∧ Fr noB w w' := by
  obtain ⟨sec, host, port⟩ := o
  unfold Ori.cells
  have HR := Lib.hid (show rightO ⟨sec, host, port⟩ = (hostOk host && (decide (1 ≤ port) && decide (port ≤ 65535))) from rfl)
  obtain ⟨wb, hwb⟩ : ∃ wb, wb = w.alloc (.cells #[.bool sec, .string host, .int .i64 port] 49) := ⟨_, rfl⟩
  have hfb : Fr noB w wb := by rw [hwb]; exact (Fr.refl noB w).alloc _
  have hk1 : wb.heap[w.heap.size]? = some (.cells #[.bool sec, .string host, .int .i64 port] 49 (0, 0)) := by rw [hwb]; exact new_block _ _
  have HWB := Lib.hid hwb
  clear hwb
  go_enter Tryz.func134, Tryz.ntmps134
  go_wp2_with fail
  rw [← HWB.out]
  refine (host_any host wb hs).mono ?_
  rintro e u ⟨rfl, hfu⟩
  have hk2 := hfu.keep hk1 (fun h => h)
  have c2 : u.cell? ⟨w.heap.size, 2, none⟩ = some (.int .i64 port) := by simp [World.cell?, hk2]
  generalize hostOk host = b at *
  cases b
  · go_wp2
    go_ret
    exact ⟨by rw [HR.out]; rfl, hfb.trans hfu⟩
  · by_cases h1 : 1 ≤ port
    · have d1 : decide (1 ≤ port) = true := decide_eq_true h1
      go_wp2
      go_ret
      exact ⟨by rw [HR.out, d1]; rfl, hfb.trans hfu⟩
    · have d1 : decide (1 ≤ port) = false := decide_eq_false h1
      go_wp2
      go_ret
      exact ⟨by rw [HR.out, d1]; rfl, hfb.trans hfu⟩
end Go.Proofs.YtkoobhgedoanhaaGreatDoor
