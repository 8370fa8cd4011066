/- Is a number in its bounds? The program's and the reference's. Conditions: none. -/
import Derived.Test.YtkkignkoneeieaaLibm
import Derived.Test.YtkkignkoneeieaaRows
namespace Go.Proofs.Ytkkignkoneeieaa
open Go Go.RowKit

theorem ret_boolI {a b : Bool} (h : a = b) : Ending.returned (.bool a) = .returned (.bool b) := by rw [h]
/-- lo ≤ n ≤ hi. -/
def inR (n lo hi : Int) : Bool := decide (lo ≤ n) && decide (n ≤ hi)
set_option maxHeartbeats 400000 in
theorem spec_inR_c (n lo hi : Int) (w : World) :
    Calls Try.prog 55 #[.int .i64 n, .int .i64 lo, .int .i64 hi] w fun e w' => e = .returned (.bool (inR n lo hi)) ∧ w = w' := by
  by_cases h : lo ≤ n
  · have g : decide (lo ≤ n) = true := by simpa using h
    go_enter Try.func55, Try.ntmps55
    go_wp2_with fail
    all_goals go_ret
    all_goals exact ⟨ret_boolI (by simp [inR, *]), rfl⟩
  · have g : decide (lo ≤ n) = false := by simpa using h
    go_enter Try.func55, Try.ntmps55
    go_wp2_with fail
    all_goals go_ret
    all_goals exact ⟨ret_boolI (by simp [inR, *]), rfl⟩
set_option maxHeartbeats 400000 in
theorem impl_inR_c (n lo hi : Int) (w : World) :
    Calls Try.prog 27 #[.int .i64 n, .int .i64 lo, .int .i64 hi] w fun e w' => e = .returned (.bool (inR n lo hi)) ∧ w = w' := by
  by_cases h : lo ≤ n
  · have g : decide (lo ≤ n) = true := by simpa using h
    go_enter Try.func27, Try.ntmps27
    go_wp2_with fail
    all_goals go_ret
    all_goals exact ⟨ret_boolI (by simp [inR, *]), rfl⟩
  · have g : decide (lo ≤ n) = false := by simpa using h
    go_enter Try.func27, Try.ntmps27
    go_wp2_with fail
    all_goals go_ret
    all_goals exact ⟨ret_boolI (by simp [inR, *]), rfl⟩
end Go.Proofs.Ytkkignkoneeieaa
