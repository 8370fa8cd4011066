/- eqAlignStepS. Conditions: none. -/
import Derived.Test.YtelkggafmnckoaaEvTo
import Derived.StillTailTactics
import Derived.BigQuiet
import Derived.Deep.QuietTactic
namespace Go.Proofs.Ytelkggafmnckoaa
open Go Go.RowKit

def eqSteps : List AStep → List AStep → Bool := fun a b => decide (a = b)
theorem eq_split {α : Type} {a b : List α} (hl : a.length = b.length) : a = b ↔ ∀ k (h : k < a.length), a[k] = b[k] := by
  constructor
  · rintro rfl k h; rfl
  · intro h; exact List.ext_getElem hl (fun k h1 h2 => h k h1)

end Go.Proofs.Ytelkggafmnckoaa
