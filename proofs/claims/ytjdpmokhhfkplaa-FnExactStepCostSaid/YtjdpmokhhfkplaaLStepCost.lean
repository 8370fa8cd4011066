/- The walk of the law FnExactStepCost. Conditions: none. -/
import Derived.Test.YtjdpmokhhfkplaaEvEq
namespace Go.Proofs.Ytjdpmokhhfkplaa
open Go Go.RowKit Go.ChangeShapes Go.WideShapes Go.ChangeAt

set_option maxHeartbeats 400000 in
theorem law_StepCost {e : TypeId} {xs : List AStep} {v : Value} {F : List Nat} (w : World) (h : (asteps e).rep false w xs [v] F) :
    Calls Try.prog 5 #[v] w fun e w' => e = .returned (.bool true) ∧ Below w.heap.size w w' := by
  go_enter Try.func5, Try.ntmps5
  go_wp2_with fail
  refine (szAlignStepS_c _ h 1048576 (by omega)).mono ?_
  rintro e w1 ⟨r, rfl, hr, rfl⟩
  by_cases h0 : r < 0
  · go_wp2_with fail
    go_ret
    exact ⟨rfl, Below.refl _ _⟩
  · have hx : xs.length ≤ 1048576 := by have := hr (by omega); omega
    have h0' : ¬ (r < 0) := h0
    clear hr
    go_wp2_with fail
    refine (toAlignStepS_c _ h hx).mono ?_
    rintro e w1 ⟨u1, G1, rfl, r1, f1, b1⟩
    go_wp2_with fail
    refine (spec_StepCost_c _ r1 hx).mono ?_
    rintro e w2 ⟨rfl, b2⟩
    have h2 := h.below (b1.trans (b2.mono b1.size))
    go_wp2_with fail
    refine (toAlignStepS_c _ h2 hx).mono ?_
    rintro e w3 ⟨u3, G3, rfl, r3, f3, b3⟩
    go_wp2_with fail
    refine (impl_StepCost_c _ r3 hx).mono ?_
    rintro e w4 ⟨rfl, b4⟩
    go_wp2_with fail
    have h4 := (h2.below b3).below b4
    refine (toAlignStepS_c _ h4 hx).mono ?_
    rintro e w5 ⟨u5, G5, rfl, r5, f5, b5⟩
    go_wp2_with fail
    refine (eqAlignStepS_c _ ((r3.below b4).below b5) r5 hx hx).mono ?_
    rintro e w6 ⟨rfl, b6⟩
    go_wp2_with fail
    go_ret
    exact ⟨rfl, ((((b1.trans (b2.mono b1.size)).trans (b3.mono (b1.trans (b2.mono b1.size)).size)).trans (b4.mono (by have := b1.size; have := b2.size; have := b3.size; omega))).trans (b5.mono (by have := b1.size; have := b2.size; have := b3.size; have := b4.size; omega))).trans (b6.mono (by have := b1.size; have := b2.size; have := b3.size; have := b4.size; have := b5.size; omega))⟩
end Go.Proofs.Ytjdpmokhhfkplaa
