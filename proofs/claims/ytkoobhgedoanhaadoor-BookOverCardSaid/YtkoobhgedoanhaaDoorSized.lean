/- Sizes of passes and requests among the arguments. -/
import Derived.Test.YtkoobhgedoanhaaDoorCovers
namespace Go.Proofs.YtkoobhgedoanhaaDoor
open Go.RowKit

/-- sizes that a pass among the arguments has -/
def Pas.Sized (p : Pas) : Prop := p.method.size ≤ 140737488351232 ∧ p.head.size ≤ 140737488351232 ∧ p.path.size ≤ 140737488351232 ∧ p.query.size ≤ 140737488351232 ∧ p.o.host.size ≤ 140737488351232 ∧ p.frm.host.size ≤ 140737488351232
def ReqOf.Sized {D : Type} (r : ReqOf D) : Prop := r.method.size ≤ 140737488351232 ∧ r.path.size ≤ 140737488351232 ∧ r.query.size ≤ 140737488351232 ∧ r.o.host.size ≤ 140737488351232 ∧ r.frm.host.size ≤ 140737488351232
end Go.Proofs.YtkoobhgedoanhaaDoor
