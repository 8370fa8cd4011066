/- The walk of the law FnExactEditDistance. Conditions: none. -/
import Derived.Test.YtjdpmokhhfkplaaEvEd
namespace Go.Proofs.Ytjdpmokhhfkplaa
open Go Go.RowKit

set_option maxHeartbeats 400000 in
theorem law_EditDistance {a b : ByteArray} (w : World) (ha0 : a.size ≤ maxLen) (hb0 : b.size ≤ maxLen) :
    Calls Try.prog 6 #[.string a, .string b] w fun e w' => e = .returned (.bool true) ∧ Below w.heap.size w w' := by
  unfold maxLen at ha0 hb0
  by_cases hA : (1048576 : Int) < a.size
  · go_enter Try.func6, Try.ntmps6
    go_wp2_with fail
    go_ret
    exact ⟨rfl, Below.refl _ _⟩
  · have ha : a.size ≤ 1048576 := by omega
    by_cases hB : (1048576 : Int) < b.size
    · go_enter Try.func6, Try.ntmps6
      go_wp2_with fail
      go_ret
      exact ⟨rfl, Below.refl _ _⟩
    · have hb : b.size ≤ 1048576 := by omega
      have S := spec_EditDistance_c a b
      have I := impl_EditDistance_c a b
      generalize (edist a b : Int) = n at S I
      have hq : (n != n) = false := by simp
      cases hs : (shortB a && shortB b)
      all_goals
        rw [hs] at S I
        have HS := Lib.hid S
        have HI := Lib.hid I
        clear S I hs
        go_enter Try.func6, Try.ntmps6
        go_wp2_with fail
        refine (HS.out _ ha hb).mono ?_
        rintro e w1 ⟨he, b1⟩
        simp only [Bool.false_eq_true, if_false, if_true] at he
        subst he
        go_wp2_with fail
        refine (HI.out _ ha hb).mono ?_
        rintro e w2 ⟨he, b2⟩
        simp only [Bool.false_eq_true, if_false, if_true] at he
        subst he
        go_wp2_with fail
        go_ret
        exact ⟨rfl, bt b1 b2⟩
end Go.Proofs.Ytjdpmokhhfkplaa
