/- unicode.CaseRanges, the tables of unicode/utf8: laid, and kept. -/
import Derived.Test.YtkoobhgedoanhaaGreatDoorBase
import Derived.Test.YtkoobhgedoanhaaGreatDoorShelf
import GoSem.PinnedTables
import Derived.Shelf.Strings.CaseAny
import Derived.Lib.LaidCase
import Derived.Lib.LaidU8
namespace Go.Proofs.YtkoobhgedoanhaaGreatDoor
open Go.RowKit

theorem case_is : Go.Pinned.caseRanges = Lib.caseData := by kernel_rfl
theorem first_is : Go.Pinned.utf8First = Lib.firstData := by kernel_rfl
def CaTab (w : World) : Prop := Lib.CaseVar 5 Lib.caseA w
def U8Tab (w : World) : Prop := Lib.Utf8Tabs 7 8 w
theorem CaTab.fr {w w' : World} (h : CaTab w) (hf : Fr noB w w') : CaTab w' := Lib.CaseVar_below h hf.none_below
theorem U8Tab.fr {w w' : World} (h : U8Tab w) (hf : Fr noB w w') : U8Tab w' := Utf8Tabs_below h hf.none_below
theorem CaTab_laid {W : World} {laid : List (String × DataW Unit)} (h : laidMet Tryz.prog laid W) (hm : ("unicode.CaseRanges", Go.Pinned.caseRanges) ∈ laid ∧ True) : CaTab W :=
  caseVar_of_reads (ρ := Tryz.lays158_ren) { Tryz.lays158 with } Tryz.lays158.t206 ⟨by kernel_rfl, by kernel_rfl, by kernel_rfl, by kernel_rfl, by kernel_rfl, by kernel_rfl⟩ (by rw [← case_is]; exact Lib.laidMet.reads h hm.1)
theorem U8Tab_laid {W : World} {laid : List (String × DataW Unit)} (h : laidMet Tryz.prog laid W) (hm : ("unicode/utf8.first", Go.Pinned.utf8First) ∈ laid ∧ ("unicode/utf8.acceptRanges", (Lib.acceptData : DataW Unit)) ∈ laid) : U8Tab W :=
  utf8Tabs_of_reads (ρ := Tryz.lays158_ren) { Tryz.lays158 with } ⟨by kernel_rfl, by kernel_rfl, by kernel_rfl, by kernel_rfl, by kernel_rfl, by kernel_rfl, by kernel_rfl⟩ (by rw [← first_is]; exact Lib.laidMet.reads h hm.1) (Lib.laidMet.reads h hm.2)
/-- the number that internal/bytealg.MaxLen holds -/
def MaxAt (w : World) : Prop := ∃ m, w.cell? ⟨0, 0, none⟩ = some (.int .i64 m)
theorem MaxAt.fr {w w' : World} (h : MaxAt w) (hf : Fr noB w w') : MaxAt w' := by
  obtain ⟨m, hm⟩ := h
  refine ⟨m, ?_⟩
  rw [hf.cell ?_ (fun h => h)]
  · exact hm
  · cases hb : w.heap[(0 : Nat)]? with
    | some o => exact lt_of_some hb
    | none =>
      unfold World.cell? at hm
      rw [hb] at hm
      cases hm
theorem MaxAt.of {w : World} (h : w.ShapedOpen Tryz.prog) : MaxAt w := Tryz.laysM143.s1_3 w h
end Go.Proofs.YtkoobhgedoanhaaGreatDoor
