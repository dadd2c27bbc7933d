/- Package url: the texts of Print and Target, plain. -/
import Derived.Test.YtkoobhgedoanhaaGreatDoorUrl1
namespace Go.Proofs.YtkoobhgedoanhaaGreatDoor
open Go.RowKit

/-- url.Target -/
def targetB (path query : ByteArray) : ByteArray := if query.size = 0 then path else (path ++ ⟨#[63]⟩) ++ query
/-- url.Print -/
def printB (o : Ori) (path query : ByteArray) : ByteArray := if query.size = 0 then oriB o ++ path else (oriB o ++ path) ++ (⟨#[63]⟩ ++ query)
theorem print_target (o : Ori) (path query : ByteArray) : printB o path query = oriB o ++ targetB path query := by
  unfold printB targetB
  split
  · rfl
  · apply Go.WideShapes.bytes_inj
    simp
theorem oriB_size (o : Ori) (h0 : -9223372036854775808 ≤ o.port) (h1 : o.port ≤ 9223372036854775807) : (oriB o).size ≤ o.host.size + 40 := by
  have hi := Lib.itoa_length_le o.port h0 h1
  show (textO o.toL).toArray.size ≤ _
  unfold textO Ori.toL headL httpL httpsL
  have hz : o.host.data.toList.length = o.host.size := by simp
  simp only [List.size_toArray, List.length_append]
  split <;> split <;> simp <;> omega
end Go.Proofs.YtkoobhgedoanhaaGreatDoor
