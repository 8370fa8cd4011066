/- slices.Clone, Insert, Delete at the types of pages. Conditions: none. -/
import Derived.Test.YtkkignkoneeieaaSlOpsm
import Derived.Test.YtkkignkoneeieaaTyLinem
namespace Go.Proofs.Ytkkignkoneeieaa
open Go Go.RowKit

theorem Try.infoStr : (Try.prog.info? 9).map (fun i => (i.zero, i.size, i.bytes)) = some (some (.string .empty), str.size, 16) := by kernel_rfl
end Go.Proofs.Ytkkignkoneeieaa
