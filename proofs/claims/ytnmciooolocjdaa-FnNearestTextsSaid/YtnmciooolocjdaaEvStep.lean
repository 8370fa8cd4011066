/- StepCost. Conditions: none. -/
import Derived.Test.YtnmciooolocjdaaRows
import Derived.Test.YtnmciooolocjdaaEvTypes
import Derived.Test.YtnmciooolocjdaaMark
namespace Go.Proofs.Ytnmciooolocjdaa
open Go Go.RowKit

def cost : List AStep → Int
  | [] => 0
  | s :: r => (if s.op = 0 then 0 else 1) + cost r
theorem cost_app (xs : List AStep) (s : AStep) : cost (xs ++ [s]) = cost xs + (if s.op = 0 then 0 else 1) := by
  induction xs with
  | nil => simp [cost]
  | cons a r ih => simp [cost, ih]; omega
theorem cost_take (xs : List AStep) (k : Nat) (h : k < xs.length) : cost (xs.take (k+1)) = cost (xs.take k) + (if xs[k].op = 0 then 0 else 1) := by
  rw [List.take_succ_eq_append_getElem h, cost_app]
theorem cost_le (xs : List AStep) : 0 ≤ cost xs ∧ cost xs ≤ xs.length := by
  induction xs with
  | nil => simp [cost]
  | cons a r ih => simp only [cost, List.length_cons]; split <;> omega

end Go.Proofs.Ytnmciooolocjdaa
