/- Pages: how many words a line has. Conditions: none. -/
import Derived.Test.YtiagikhgcblhnaaPgTo
namespace Go.Proofs.Ytiagikhgcblhnaa
open Go Go.RowKit

end Go.Proofs.Ytiagikhgcblhnaa
