/- ValidSetup of both, over a setup's value. Conditions: none. -/
import Derived.Test.YtkfadfddhbpngaaGreatSeSetv
import Derived.Test.YtkfadfddhbpngaaGreatSeIsv
namespace Go.Proofs.YtkfadfddhbpngaaGreat
open Go Go.RowKit

theorem impl_ValidSetup_p {I : Ids} {o : Bool} {p : PSetup} {v : Value} {F : List Nat} (w : World) (h : SetupIs I o w p v F) (hp : SeSmall p) (hb : SeBytes p) : Calls Tryz.prog 49 #[v] w fun e w' => e = .returned (.bool (setupB p)) ∧ Below w.heap.size w w' := by
 obtain ⟨a, b, c, F1, F2, F3, rfl, rfl, h1, h2, h3⟩ := h
 exact impl_ValidSetup_c w h1 h2 h3 hp hb
end Go.Proofs.YtkfadfddhbpngaaGreat
