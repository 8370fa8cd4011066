/- slices.ContainsFunc over strings. Conditions: none. -/
import Derived.Test.YtkkignkoneeieaaStrSm
namespace Go.Proofs.Ytkkignkoneeieaa
open Go Go.RowKit

theorem ret_boolF {a b : Bool} (h : a = b) : Ending.returned (.bool a) = .returned (.bool b) := by rw [h]
/-- An index that tells whether there is such an element. -/
def FoundAt (b : Bool) (w : World) (e : Ending) (w' : World) : Prop := ∃ r : Int, e = .returned (.int .i64 r) ∧ (decide (0 ≤ r)) = b ∧ Below w.heap.size w w'


end Go.Proofs.Ytkkignkoneeieaa
