/- The walk of the law FnExactIsAlignment. Conditions: none. -/
import Derived.Test.YtjdpmokhhfkplaaEvAl2
namespace Go.Proofs.Ytjdpmokhhfkplaa
open Go Go.RowKit

set_option maxHeartbeats 400000 in
theorem law_IsAlignment {e : TypeId} {a b : ByteArray} {xs : List AStep} {v : Value} {F : List Nat} (w : World) (ha0 : a.size ≤ maxLen) (hb0 : b.size ≤ maxLen) (h : (asteps e).rep false w xs [v] F) :
    Calls Try.prog 7 #[.string a, .string b, v] w fun e w' => e = .returned (.bool true) ∧ Below w.heap.size w w' := by
  unfold maxLen at ha0 hb0
  by_cases hA : (1048576 : Int) < a.size
  · go_enter Try.func7, Try.ntmps7
    go_wp2_with fail
    go_ret
    exact ⟨rfl, Below.refl _ _⟩
  · have ha : a.size ≤ 1048576 := by omega
    by_cases hB : (1048576 : Int) < b.size
    · go_enter Try.func7, Try.ntmps7
      go_wp2_with fail
      go_ret
      exact ⟨rfl, Below.refl _ _⟩
    · have hb : b.size ≤ 1048576 := by omega
      go_enter Try.func7, Try.ntmps7
      go_wp2_with fail
      refine (szAlignStepS_c _ h 1048576 (by omega)).mono ?_
      rintro e w1 ⟨r, rfl, hr, rfl⟩
      by_cases h0 : r < 0
      · go_wp2_with fail
        go_ret
        exact ⟨rfl, Below.refl _ _⟩
      · have hx : xs.length ≤ 1048576 := by have := hr (by omega); omega
        clear hr
        go_wp2_with fail
        refine (toAlignStepS_c _ h hx).mono ?_
        rintro e w1 ⟨u1, G1, rfl, r1, f1, b1⟩
        go_wp2_with fail
        refine (spec_IsAlignment_c _ _ _ r1 hx ha hb).mono ?_
        rintro e w2 ⟨rfl, b2⟩
        have c2 := bt b1 b2
        have h2 := h.below c2
        go_wp2_with fail
        refine (toAlignStepS_c _ h2 hx).mono ?_
        rintro e w3 ⟨u3, G3, rfl, r3, f3, b3⟩
        have c3 := bt c2 b3
        go_wp2_with fail
        refine (impl_IsAlignment_c _ _ _ r3 hx ha hb).mono ?_
        rintro e w4 ⟨rfl, b4⟩
        have c4 := bt c3 b4
        have h4 := (h2.below b3).below b4
        have hq : (isAl a b xs 0 0 != isAl a b xs 0 0) = false := by simp
        go_wp2_with fail
        refine (toAlignStepS_c _ h4 hx).mono ?_
        rintro e w5 ⟨u5, G5, rfl, r5, f5, b5⟩
        go_wp2_with fail
        refine (eqAlignStepS_c _ ((r3.below b4).below b5) r5 hx hx).mono ?_
        rintro e w6 ⟨rfl, b6⟩
        go_wp2_with fail
        go_ret
        exact ⟨rfl, bt (bt c4 b5) b6⟩
end Go.Proofs.Ytjdpmokhhfkplaa
