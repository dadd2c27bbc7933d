/- The law MethodTwice: its walk. -/
import Derived.Test.YtghimbpihmehoaaDoorFetched
namespace Go.Proofs.YtghimbpihmehoaaDoor
open Go.RowKit
theorem MethodTwice_walk (s t : ByteArray) (z0 : s.size ≤ 140737488351232) (z1 : t.size ≤ 140737488351232) (w : World) :
    Calls Tryd.prog 7 #[.string s, .string t] w fun e w' => e = .returned (.bool true) ∧ Below w.heap.size w w' := MethodTwice_core fetched_any s t z0 z1 w
end Go.Proofs.YtghimbpihmehoaaDoor
