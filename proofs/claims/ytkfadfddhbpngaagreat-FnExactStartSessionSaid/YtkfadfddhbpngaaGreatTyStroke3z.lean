/- The type Stroke: the law's own sz over it. Conditions: none. -/
import Derived.Test.YtkfadfddhbpngaaGreatTyStrokez
namespace Go.Proofs.YtkfadfddhbpngaaGreat
open Go Go.RowKit

/-- What strokes weigh. -/
def szStrokes (xs : List PStroke) : Nat := xs.length + (xs.map List.length).sum
end Go.Proofs.YtkfadfddhbpngaaGreat
