/- The package bank: copied, and slices.Clone at strings. -/
import Derived.Test.YtkoobhgedoanhaaDoorBank2
namespace Go.Proofs.YtkoobhgedoanhaaDoor
open Go.RowKit

/-- slices.Clone at strings -/
theorem CloneS_any (base : Nat) (v : Value) (ss : List ByteArray) (w : World) (h : StrsIn base w v ss) :
    Calls Tryd.prog 79 #[v] w fun e w' => ∃ a c, e = .returned (.slice a ss.length c) ∧ StrsIn base w' (.slice a ss.length c) ss ∧ Fr noB w w' := by
  have hl := h.few
  rcases h.rd with ⟨a, c, rfl, rfl, _⟩ | ⟨bk, o, c, rfl, h1, h2, h3, h4⟩
  · cases a with
    | none => exact (Tryd.slices_Clone_string_nil 0 c w).mono fun e w' ⟨he, hw⟩ => ⟨none, 0, he, StrsIn.nil _ _, hw ▸ Fr.refl _ _⟩
    | some a =>
      refine (Tryd.slices_Clone_string_zero a c w).mono fun e w' ⟨v', he, ho, _, hb⟩ => ?_
      have hs : Strs w.heap.size w' v' [] := ho
      obtain ⟨a', c', hv⟩ := hs.form
      exact ⟨a', c', by rw [he, hv], by rw [← hv]; exact hs.in hl, Fr.of_below hb⟩
  · refine (Tryd.slices_Clone_string bk o ss.length c ss w (Nat.le_refl _) (by omega) (fun j hj => h4 j _ (by simp [List.getD, hj]))).mono fun e w' ⟨v', he, ho, _, hb⟩ => ?_
    rw [List.take_of_length_le (Nat.le_refl _)] at ho
    have hs : Strs w.heap.size w' v' ss := ho
    obtain ⟨a', c', hv⟩ := hs.form
    exact ⟨a', c', by rw [he, hv], by rw [← hv]; exact hs.in hl, Fr.of_below hb⟩

/-- what copied gives: the same, its slices its own -/
def Copied (base : Nat) (m : GrantOf Texts) (w : World) (e : Ending) (w' : World) : Prop :=
  ∃ r : GrantOf Value, e = .returned (.agg r.cells.toArray) ∧ r.Reads (StrsIn base w') m ∧ (∀ u ∈ r.cells, u.oneCell' = true) ∧ Fr noB w w'
theorem grant_one {r : GrantOf Value} {a b : Option Addr} {n m c d : Nat} (h1 : r.a.dom = .slice a n c) (h2 : r.paths = .slice b m d) : ∀ u ∈ r.cells, u.oneCell' = true := by
  intro u hu
  simp only [GrantOf.cells, List.mem_cons, List.not_mem_nil, or_false] at hu
  rcases hu with rfl | rfl | rfl | rfl | rfl | rfl | rfl | rfl | rfl | rfl | rfl | rfl | rfl | rfl | rfl | rfl <;> first | rfl | (rw [h1]; rfl) | (rw [h2]; rfl)

set_option maxHeartbeats 2000000 in
set_option maxRecDepth 100000 in
theorem copied_any (base : Nat) (g : GrantOf Value) (m : GrantOf Texts) (w : World) (hbase : base ≤ w.heap.size) (h : g.Reads (StrsIn base w) m) :
    Calls Tryd.prog 54 #[.agg g.cells.toArray] w (Copied base m w) := by
  have hpi := h.2.2.2.2.2.2
  have hdi := h.2.2.2.2.1.2.2.2.2.2.2.2
  have H := Lib.hid h
  clear h
  unfold GrantOf.cells
  obtain ⟨ad, cd, hd⟩ := hdi.rd.form
  obtain ⟨ap, cp, hp⟩ := hpi.rd.form
  rw [hp] at hpi
  rw [hd] at hdi
  rw [hd, hp]
  clear hd hp
  go_enter Tryd.func54, Tryd.ntmps54
  go_wp2_with fail
  have hf0 : Fr noB w _ := ((Fr.refl noB w).alloc (.cells #[.bool g.o.secure, .string g.o.host, .int .i64 g.o.port, .bool g.proxy, .string g.user, .string g.pass, .int .i64 g.a.scheme, .string g.a.realm, .string g.a.nonce, .string g.a.opaq, .bool g.a.sess, .string g.a.qop, .bool g.a.stale, .slice ad m.a.dom.length cd, .int .i64 g.count, .slice ap m.paths.length cp] 34)).alloc (.cells zGrant 34)
  have b0 := Below.heap_alloc (w.alloc (.cells #[.bool g.o.secure, .string g.o.host, .int .i64 g.o.port, .bool g.proxy, .string g.user, .string g.pass, .int .i64 g.a.scheme, .string g.a.realm, .string g.a.nonce, .string g.a.opaq, .bool g.a.sess, .string g.a.qop, .bool g.a.stale, .slice ad m.a.dom.length cd, .int .i64 g.count, .slice ap m.paths.length cp] 34)) (.cells zGrant 34) w.heap.size (by simp)
  rw [new_block] at b0
  have b1 := new_block (w.alloc (.cells #[.bool g.o.secure, .string g.o.host, .int .i64 g.o.port, .bool g.proxy, .string g.user, .string g.pass, .int .i64 g.a.scheme, .string g.a.realm, .string g.a.nonce, .string g.a.opaq, .bool g.a.sess, .string g.a.qop, .bool g.a.stale, .slice ad m.a.dom.length cd, .int .i64 g.count, .slice ap m.paths.length cp] 34)) (.cells zGrant 34)
  rw [show (w.alloc (.cells #[.bool g.o.secure, .string g.o.host, .int .i64 g.o.port, .bool g.proxy, .string g.user, .string g.pass, .int .i64 g.a.scheme, .string g.a.realm, .string g.a.nonce, .string g.a.opaq, .bool g.a.sess, .string g.a.qop, .bool g.a.stale, .slice ad m.a.dom.length cd, .int .i64 g.count, .slice ap m.paths.length cp] 34)).heap.size = w.heap.size + 1 from by simp] at b1
  generalize (w.alloc (.cells _ 34)).alloc _ = W at hf0 b0 b1
  have hpi := hpi.frN hf0
  have hdi := hdi.frN hf0
  refine (CloneS_any base _ m.paths W hpi).mono ?_
  rintro e u1 ⟨a1, c1, rfl, hs1, hf1⟩
  have b0' := hf1.keep b0 (fun h => h)
  have b1' := hf1.keep b1 (fun h => h)
  have hdi' := hdi.frN hf1
  have hf01 := hf0.trans hf1
  have c13 : u1.cell? ⟨w.heap.size, 13, none⟩ = some (.slice ad m.a.dom.length cd) := by simp [World.cell?, b0']
  have c15 : u1.cell? ⟨w.heap.size, 15, none⟩ = some (.slice ap m.paths.length cp) := by simp [World.cell?, b0']
  have f15 : u1.frozen? ⟨w.heap.size, 15, none⟩ = false := by simp [World.frozen?, b0']
  clear hf0 b0 b1 hf1 hpi hdi
  have hlw : w.heap.size ≤ u1.heap.size := hf01.size
  go_wp2_with fail
  have hf2 := hf01.setNew (p := ⟨w.heap.size, 15, none⟩) (Nat.le_refl _) (.slice a1 m.paths.length c1)
  have b0 := setCell_heap b0' 15 (.slice a1 m.paths.length c1)
  have b1 := (setCell_other (w := u1) (b := w.heap.size) (g := w.heap.size + 1) (by omega) 15 (.slice a1 m.paths.length c1)).trans b1'
  have hof : Off base u1 (one w.heap.size) := by
    rintro k rfl hk
    exact ⟨hbase, fun c f e => by rw [b0'] at e; cases e⟩
  have hfs : Fr (one w.heap.size) u1 (u1.setCell ⟨w.heap.size, 15, none⟩ (.slice a1 m.paths.length c1)) := (Fr.refl (one w.heap.size) u1).setCell (p := ⟨w.heap.size, 15, none⟩) (fun _ => rfl) _
  have hs2 := hs1.fr hfs hof
  have hd2 := hdi'.fr hfs hof
  clear hs1 hdi' hof hfs b0' b1' hf01 c13 c15 f15
  generalize u1.setCell ⟨w.heap.size, 15, none⟩ (.slice a1 m.paths.length c1) = U at *
  refine (CloneS_any base _ m.a.dom U hd2).mono ?_
  rintro e u2 ⟨a2, c2, rfl, hs3, hf3⟩
  have b0' : u2.heap[w.heap.size]? = some (.cells #[.bool g.o.secure, .string g.o.host, .int .i64 g.o.port, .bool g.proxy, .string g.user, .string g.pass, .int .i64 g.a.scheme, .string g.a.realm, .string g.a.nonce, .string g.a.opaq, .bool g.a.sess, .string g.a.qop, .bool g.a.stale, .slice ad m.a.dom.length cd, .int .i64 g.count, .slice a1 m.paths.length c1] 34 (0, 0)) := hf3.keep b0 (fun h => h)
  have b1' := hf3.keep b1 (fun h => h)
  have hs4 := hs2.frN hf3
  have HF := hf2.trans hf3
  have c13 : u2.cell? ⟨w.heap.size, 13, none⟩ = some (.slice ad m.a.dom.length cd) := by simp [World.cell?, b0']
  have f13 : u2.frozen? ⟨w.heap.size, 13, none⟩ = false := by simp [World.frozen?, b0']
  have b2 : (u2.setCell ⟨w.heap.size, 13, none⟩ (.slice a2 m.a.dom.length c2)).heap[w.heap.size]? = some (.cells #[.bool g.o.secure, .string g.o.host, .int .i64 g.o.port, .bool g.proxy, .string g.user, .string g.pass, .int .i64 g.a.scheme, .string g.a.realm, .string g.a.nonce, .string g.a.opaq, .bool g.a.sess, .string g.a.qop, .bool g.a.stale, .slice a2 m.a.dom.length c2, .int .i64 g.count, .slice a1 m.paths.length c1] 34 (0, 0)) := setCell_heap b0' 13 (.slice a2 m.a.dom.length c2)
  have b3 := (setCell_other (w := u2) (b := w.heap.size) (g := w.heap.size + 1) (by omega) 13 (.slice a2 m.a.dom.length c2)).trans b1'
  have hof : Off base u2 (one w.heap.size) := by
    rintro k rfl hk
    exact ⟨hbase, fun c f e => by rw [b0'] at e; cases e⟩
  have hfs : Fr (one w.heap.size) u2 (u2.setCell ⟨w.heap.size, 13, none⟩ (.slice a2 m.a.dom.length c2)) := (Fr.refl (one w.heap.size) u2).setCell (p := ⟨w.heap.size, 13, none⟩) (fun _ => rfl) _
  have hs5 := hs4.fr hfs hof
  have hd5 := hs3.fr hfs hof
  have HF2 := HF.setNew (p := ⟨w.heap.size, 13, none⟩) (Nat.le_refl _) (.slice a2 m.a.dom.length c2)
  have B2 := Lib.hid b2
  have B3 := Lib.hid b3
  clear b0 b1 b0' b1' b2 b3 hof hfs hs4 hs2 hd2 hs3 HF hf2 hf3
  have hx1 : (#[.bool g.o.secure, .string g.o.host, .int .i64 g.o.port, .bool g.proxy, .string g.user, .string g.pass, .int .i64 g.a.scheme, .string g.a.realm, .string g.a.nonce, .string g.a.opaq, .bool g.a.sess, .string g.a.qop, .bool g.a.stale, .slice a2 m.a.dom.length c2, .int .i64 g.count, .slice a1 m.paths.length c1] : Array Value).all (·.oneCell') = true := all_oneCell_toArray (grant_one (r := { g with a := { g.a with dom := .slice a2 m.a.dom.length c2 }, paths := .slice a1 m.paths.length c1 }) rfl rfl)
  have HX1 := Lib.hid hx1
  clear hx1
  go_wp2_with (first | ((with_reducible refine wpList_at ⟨some 13, _, _, _, _, _⟩ ?_); refine wpList_load_row rfl 34 (.tmp 1) rfl w.heap.size rfl _ _ (0, 0) _ B2.out Tryd.underlying34 rfl (by kernel_rfl) ?_) | ((with_reducible refine wpList_at ⟨none, .store 34 _ _, _, _, _, _⟩ ?_); go_must (refine wpList_store_row rfl 34 (.tmp 2) (.tmp 13) rfl (w.heap.size + 1) _ rfl rfl _ zGrant B3.out (by kernel_rfl) rfl HX1.out ?_)) | fail)
  have hof : Off base (u2.setCell ⟨w.heap.size, 13, none⟩ (.slice a2 m.a.dom.length c2)) (one (w.heap.size + 1)) := by
    rintro k rfl hk
    exact ⟨by omega, fun c f e => by rw [B3.out] at e; cases e⟩
  generalize (u2.setCell ⟨w.heap.size, 13, none⟩ (.slice a2 m.a.dom.length c2)) = V at *
  have hfs : Fr (one (w.heap.size + 1)) V (V.setRow (w.heap.size + 1) #[.bool g.o.secure, .string g.o.host, .int .i64 g.o.port, .bool g.proxy, .string g.user, .string g.pass, .int .i64 g.a.scheme, .string g.a.realm, .string g.a.nonce, .string g.a.opaq, .bool g.a.sess, .string g.a.qop, .bool g.a.stale, .slice a2 m.a.dom.length c2, .int .i64 g.count, .slice a1 m.paths.length c1]) := (Fr.refl (one (w.heap.size + 1)) V).setRow (fun _ => rfl) _
  refine bodyPost_ret (results_cell_row (by rfl) _ _ (w.heap.size + 1) 34 #[.bool g.o.secure, .string g.o.host, .int .i64 g.o.port, .bool g.proxy, .string g.user, .string g.pass, .int .i64 g.a.scheme, .string g.a.realm, .string g.a.nonce, .string g.a.opaq, .bool g.a.sess, .string g.a.qop, .bool g.a.stale, .slice a2 m.a.dom.length c2, .int .i64 g.count, .slice a1 m.paths.length c1] (0, 0) _ rfl (setRow_heap V (w.heap.size + 1) _ _ _ _ B3.out) Tryd.underlying34 rfl (by kernel_rfl)) rfl ?_
  obtain ⟨h1, h2, h3, h4, ⟨k1, k2, k3, k4, k5, k6, k7, _⟩, h6, _⟩ := H.out
  exact ⟨{ g with a := { g.a with dom := .slice a2 m.a.dom.length c2 }, paths := .slice a1 m.paths.length c1 }, rfl, ⟨h1, h2, h3, h4, ⟨k1, k2, k3, k4, k5, k6, k7, hd5.fr hfs hof⟩, h6, hs5.fr hfs hof⟩, grant_one rfl rfl, HF2.setRow (fun h => absurd h (by omega)) _⟩
end Go.Proofs.YtkoobhgedoanhaaDoor
