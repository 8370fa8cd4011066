/- Pages: one step done. Conditions: none. -/
import Derived.Test.YtkfadfddhbpngaaGreatPgTox
namespace Go.Proofs.YtkfadfddhbpngaaGreat
open Go Go.RowKit

theorem PageIs.make {el es : TypeId} {o : Bool} {w : World} {p : PPage} {a b c : Value} {F1 F2 F3 : List Nat} (h1 : (pLines el).rep o w p.lines [a] F1) (h2 : (pSteps es).rep o w p.done [b] F2) (h3 : (pSteps es).rep o w p.undone [c] F3) : PageIs el es o w p (.agg #[a, b, c]) (F1 ++ (F2 ++ F3)) := ⟨a, b, c, F1, F2, F3, rfl, rfl, h1, h2, h3⟩
end Go.Proofs.YtkfadfddhbpngaaGreat
