/- Confusions, in plain Lean: counting into an ordered list is sorting and counting neighbours; the order of strings. No program is named here. Conditions: none. -/
import Derived.Test.YtkfadfddhbpngaaGreatStrSx
import Derived.Laws.Strings
namespace Go.Proofs.YtkfadfddhbpngaaGreat
open Go Go.RowKit

section
variable {K : Type} [DecidableEq K] (lt : K → K → Bool)
/-- A strict total order. -/
structure STO : Prop where
 irr : ∀ a, lt a a = false
 tr : ∀ a b c, lt a b = true → lt b c = true → lt a c = true
 tot : ∀ a b, lt a b = false → lt b a = false → a = b
variable {lt}
omit [DecidableEq K] in
theorem STO.asym (h : STO lt) {a b : K} (h1 : lt a b = true) : lt b a = false := by
 cases h2 : lt b a with
 | false => rfl
 | true => have := h.tr _ _ _ h1 h2; rw [h.irr] at this; cases this
omit [DecidableEq K] in
theorem STO.ne (h : STO lt) {a b : K} (h1 : lt a b = true) : a ≠ b := fun e => by rw [e, h.irr] at h1; cases h1
omit [DecidableEq K] in
theorem STO.cases (h : STO lt) (a b : K) : (lt a b = true ∧ lt b a = false ∧ a ≠ b ∧ b ≠ a) ∨ a = b ∨ (lt a b = false ∧ lt b a = true ∧ a ≠ b ∧ b ≠ a) := by
 cases h1 : lt a b with
 | true => exact .inl ⟨rfl, h.asym h1, h.ne h1, (h.ne h1).symm⟩
 | false =>
  cases h2 : lt b a with
  | true => exact .inr (.inr ⟨rfl, rfl, (h.ne h2).symm, h.ne h2⟩)
  | false => exact .inr (.inl (h.tot _ _ h1 h2))
omit [DecidableEq K] in
end

end Go.Proofs.YtkfadfddhbpngaaGreat
