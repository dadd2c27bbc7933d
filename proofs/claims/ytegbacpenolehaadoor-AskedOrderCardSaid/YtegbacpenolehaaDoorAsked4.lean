/- fetched: its walk (under way). -/
import Derived.Test.YtegbacpenolehaaDoorPlain2
import Derived.Test.YtegbacpenolehaaDoorSortS
import Derived.Test.YtegbacpenolehaaDoorFetch1
namespace Go.Proofs.YtegbacpenolehaaDoor
open Go.RowKit

/-- what lies in the four params of fetched -/
def p4 : List (ByteArray × ByteArray) := [(⟨#[88, 45, 66]⟩, ⟨#[]⟩), (⟨#[65, 99, 99, 101, 112, 116]⟩, ⟨#[97, 47, 98]⟩), (⟨#[120, 45, 97]⟩, ⟨#[]⟩), (⟨#[88, 45, 98]⟩, ⟨#[]⟩)]
def outsOf (ps : List (ByteArray × ByteArray)) : List ByteArray := (ps.filter fun p => !plainB p.1 p.2).map fun p => ⟨(lowL p.1.data.toList).toArray⟩
theorem outs4 : outsOf p4 = [⟨#[120, 45, 98]⟩, ⟨#[120, 45, 97]⟩, ⟨#[120, 45, 98]⟩] := by decide +kernel
theorem plain4 : p4.map (fun p => plainB p.1 p.2) = [false, true, false, false] := by decide +kernel
theorem le4 : decide (([120, 45, 98] : List UInt8) ≤ [120, 45, 97]) = false ∧ decide (([120, 45, 97] : List UInt8) ≤ [120, 45, 98]) = true ∧ decide (([120, 45, 98] : List UInt8) ≤ [120, 45, 98]) = true ∧ decide (([120, 45, 97] : List UInt8) ≤ [120, 45, 97]) = true := by decide +kernel
theorem sort4 : sortLs [[120, 45, 98], [120, 45, 97], [120, 45, 98]] = [[120, 45, 97], [120, 45, 98], [120, 45, 98]] := by
  obtain ⟨h1, h2, h3, h4⟩ := le4
  have e2 : (([[120, 45, 98], [120, 45, 97]] : List (List UInt8)).mergeSort fun x y => decide (x ≤ y)) = [[120, 45, 97], [120, 45, 98]] := by
    rw [List.mergeSort]
    simp [List.MergeSort.Internal.splitInTwo, List.splitAt, List.splitAt.go, List.cons_merge_cons]
    decide +kernel
  unfold sortLs
  rw [List.mergeSort]
  simp [List.MergeSort.Internal.splitInTwo, List.splitAt, List.splitAt.go]
  rw [e2]
  simp [List.cons_merge_cons]
  decide +kernel
theorem sorted4 : Lib.compact (sortLs [[120, 45, 98], [120, 45, 97], [120, 45, 98]]) = [[120, 45, 97], [120, 45, 98]] := by
  rw [sort4]; decide +kernel
end Go.Proofs.YtegbacpenolehaaDoor
