/- MD5 at the facts' texts. -/
import Derived.Test.YtghimbpihmehoaaDoorMd5
import Derived.KernelRfl
namespace Go.Proofs.YtghimbpihmehoaaDoor
open Go.RowKit
set_option maxRecDepth 1000000 in
theorem md5_abc : md5L [97, 98, 99] = [57, 48, 48, 49, 53, 48, 57, 56, 51, 99, 100, 50, 52, 102, 98, 48, 100, 54, 57, 54, 51, 102, 55, 100, 50, 56, 101, 49, 55, 102, 55, 50] := by decide +kernel
end Go.Proofs.YtghimbpihmehoaaDoor
