/- From the row's condition: the tables of package sum. -/
import Derived.Test.YtghimbpihmehoaaDoorSha1
import Derived.Stop.LaidErr
namespace Go.Proofs.YtghimbpihmehoaaDoor
open Go.RowKit

theorem laid_at {P : Program} {W : World} {x : String × DataW Unit} : ∀ {laid : List (String × DataW Unit)}, laidMet P laid W → x ∈ laid → ∃ r, laidMet P (x :: r) W
  | y :: l, h, hm => by
    rcases List.mem_cons.1 hm with rfl | hm
    · exact ⟨l, h⟩
    · exact laid_at (laidMet.tail h) hm
theorem tabIs_laid {P : Program} {W : World} {laid : List (String × DataW Unit)} {name : String} {k : IntKind} {zs : List Int} {g : Nat} {t e : TypeId} {n : Nat}
    (h : laidMet P laid W) (hm : (name, Lib.tabData k zs) ∈ laid)
    (hg : P.globalNamed name = some g) (hty : (P.globals[g]?).map (·.type) = some t) (ht : P.underlying t = some (.array n e)) (he : P.underlying e = some (.int k)) (hce : P.cellsOf e = 1) (hct : P.cellsOf t = n) : Lib.TabIs P W name k zs := by
  obtain ⟨r, hr⟩ := laid_at h hm
  exact Lib.tabIs_of_head hg hty ht he hce hct hr
theorem cell_lt {w : World} {g i : Nat} {v : Value} (h : w.cell? ⟨g, i, none⟩ = some v) : g < w.heap.size := by
  cases hb : w.heap[g]? with
  | none => simp [World.cell?, hb] at h
  | some o => exact lt_of_some hb
theorem tabAt_of {P : Program} {W : World} {name : String} {k : IntKind} {zs : List Int} {g : Nat} (hT : Lib.TabIs P W name k zs) (hg : P.globalNamed name = some g) (hz : 0 < zs.length) : TabAt W g k zs := by
  have hc : ∀ (i : Nat) z, zs[i]? = some z → W.cell? ⟨g, i, none⟩ = some (.int k z) := fun i z hi => by
    obtain ⟨hl, he⟩ := List.getElem?_eq_some_iff.1 hi
    rw [hT.cell hg i hl, List.getD_eq_getElem?_getD, hi]; rfl
  exact ⟨cell_lt (hc 0 _ (List.getElem?_eq_getElem hz)), hc⟩
theorem MdTabs_laid {W : World} {laid : List (String × DataW Unit)} (h : laidMet Tryd.prog laid W) (hm : ("gatepost/api.Sines", Lib.tabData .u32 sinesL) ∈ laid ∧ ("gatepost/sum.turns", Lib.tabData .i64 (turnsL.map Int.ofNat)) ∈ laid) : MdTabs W :=
  ⟨tabAt_of (tabIs_laid h hm.1 (g := 0) (by kernel_rfl) (by kernel_rfl) Tryd.underlying91 Tryd.underlying88 (by kernel_rfl) (by kernel_rfl)) (by kernel_rfl) (by decide),
   tabAt_of (tabIs_laid h hm.2 (g := 1) (by kernel_rfl) (by kernel_rfl) Tryd.underlying94 Tryd.underlying3 (by kernel_rfl) (by kernel_rfl)) (by kernel_rfl) (by decide)⟩
theorem ShTabs_laid {W : World} {laid : List (String × DataW Unit)} (h : laidMet Tryd.prog laid W) (hm : ("gatepost/api.Roots", Lib.tabData .u32 rootsL) ∈ laid ∧ ("gatepost/api.Begin", Lib.tabData .u32 beginL) ∈ laid) : ShTabs W :=
  ⟨tabAt_of (tabIs_laid h hm.1 (g := 3) (by kernel_rfl) (by kernel_rfl) Tryd.underlying91 Tryd.underlying88 (by kernel_rfl) (by kernel_rfl)) (by kernel_rfl) (by decide),
   tabAt_of (tabIs_laid h hm.2 (g := 2) (by kernel_rfl) (by kernel_rfl) Tryd.underlying97 Tryd.underlying88 (by kernel_rfl) (by kernel_rfl)) (by kernel_rfl) (by decide)⟩
end Go.Proofs.YtghimbpihmehoaaDoor
