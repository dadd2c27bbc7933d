/- From the row's condition: a table among those that it lists; the powers of ten. -/
import Derived.Test.YtkoobhgedoanhaaGreatDoorBytes
import Derived.Stop.LaidErr
import Derived.Lib.SmallJoins
import Derived.Lib.AppendIntMem
namespace Go.Proofs.YtkoobhgedoanhaaGreatDoor
open Go.RowKit

theorem laid_at0 {P : Program} {W : World} {x : String × DataW Unit} : ∀ {laid : List (String × DataW Unit)}, laidMet P laid W → x ∈ laid → ∃ r, laidMet P (x :: r) W
  | y :: l, h, hm => by
    rcases List.mem_cons.1 hm with rfl | hm
    · exact ⟨l, h⟩
    · exact laid_at0 (laidMet.tail h) hm
theorem tabIs_laid0 {P : Program} {W : World} {laid : List (String × DataW Unit)} {name : String} {k : IntKind} {zs : List Int} {g : Nat} {t e : TypeId} {n : Nat}
    (h : laidMet P laid W) (hm : (name, Lib.tabData k zs) ∈ laid)
    (hg : P.globalNamed name = some g) (hty : (P.globals[g]?).map (·.type) = some t) (ht : P.underlying t = some (.array n e)) (he : P.underlying e = some (.int k)) (hce : P.cellsOf e = 1) (hct : P.cellsOf t = n) : Lib.TabIs P W name k zs := by
  obtain ⟨r, hr⟩ := laid_at0 h hm
  exact Lib.tabIs_of_head hg hty ht he hce hct hr
def PwTab (w : World) : Prop := Lib.TabIs Tryz.prog w "internal/strconv.uint64pow10" .u64 Lib.pow10Tab
theorem PwTab.fr {w w' : World} (h : PwTab w) (hf : Fr noB w w') : PwTab w' := Go.Joins.tab_stays (g := 6) (by kernel_rfl) h hf.none_below (Nat.le_refl _)
theorem PwTab_laid {W : World} {laid : List (String × DataW Unit)} (h : laidMet Tryz.prog laid W) (hm : ("internal/strconv.uint64pow10", Lib.tabData .u64 Lib.pow10Tab) ∈ laid ∧ True) : PwTab W :=
  tabIs_laid0 h hm.1 (g := 6) (by kernel_rfl) (by kernel_rfl) Tryz.underlying217 Tryz.underlying196 (by kernel_rfl) (by kernel_rfl)
end Go.Proofs.YtkoobhgedoanhaaGreatDoor
