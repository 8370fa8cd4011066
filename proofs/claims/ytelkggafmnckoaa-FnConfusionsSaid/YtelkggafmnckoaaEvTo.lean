/- toAlignStepS. Conditions: none. -/
import Derived.Test.YtelkggafmnckoaaRows
import Derived.Test.YtelkggafmnckoaaEvStep
import Derived.Test.YtelkggafmnckoaaRow
namespace Go.Proofs.Ytelkggafmnckoaa
open Go Go.RowKit

def stepCells (s : AStep) : List Value := [.int .i64 s.op, .int .i64 s.i, .int .i64 s.j]

theorem stepCells_len (xs : List AStep) : (xs.flatMap stepCells).length = xs.length * 3 := by
  induction xs with
  | nil => rfl
  | cons a r ih => simp only [List.flatMap_cons, List.length_append, ih, List.length_cons]; simp [stepCells]; omega
def okStep (s : AStep) : Prop := I64 s.op ∧ I64 s.i ∧ I64 s.j
theorem repL_steps {o : Bool} {w : World} : ∀ (xs : List AStep), (∀ s ∈ xs, okStep s) → repL astep o w xs (xs.flatMap stepCells) []
  | [], _ => ⟨rfl, rfl⟩
  | s :: r, h => ⟨_, _, [], [], rfl, rfl, astep_rep.2 ⟨rfl, rfl, h s (by simp)⟩, repL_steps r (fun t ht => h t (by simp [ht]))⟩

end Go.Proofs.Ytelkggafmnckoaa
