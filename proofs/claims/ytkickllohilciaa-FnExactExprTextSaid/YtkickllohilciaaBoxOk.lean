/- Which boxes are valid, in the program and in the reference. Conditions: none. -/
import Derived.Test.YtkickllohilciaaTyBox
import Derived.Test.YtkickllohilciaaIn
namespace Go.Proofs.Ytkickllohilciaa
open Go Go.RowKit

def boxOkB (b : PBox) : Bool := inR b.x1 0 b.x2 && (inR b.y1 0 b.y2 && (decide (b.x2 ≤ 4095) && decide (b.y2 ≤ 4095)))
theorem boxOkB_iff {b : PBox} : boxOkB b = true ↔ 0 ≤ b.x1 ∧ b.x1 ≤ b.x2 ∧ 0 ≤ b.y1 ∧ b.y1 ≤ b.y2 ∧ b.x2 ≤ 4095 ∧ b.y2 ≤ 4095 := by
  simp only [boxOkB, inR, Bool.and_eq_true, decide_eq_true_eq]
  omega
set_option maxHeartbeats 1000000 in
theorem impl_ValidBox_c (b : PBox) (w : World) :
    Calls Try.prog 62 #[.agg #[.int .i64 b.x1, .int .i64 b.y1, .int .i64 b.x2, .int .i64 b.y2]] w fun e w' => e = .returned (.bool (boxOkB b)) ∧ w' = w.alloc (.cells #[.int .i64 b.x1, .int .i64 b.y1, .int .i64 b.x2, .int .i64 b.y2] 67) := by
  have CX := impl_inR_c b.x1 0 b.x2
  have CY := impl_inR_c b.y1 0 b.y2
  unfold boxOkB
  generalize inR b.x1 0 b.x2 = bx at CX ⊢
  generalize inR b.y1 0 b.y2 = cy at CY ⊢
  have HX := Lib.hid CX
  have HY := Lib.hid CY
  clear CX CY
  by_cases h : b.x2 ≤ 4095
  · have g : decide (b.x2 ≤ 4095) = true := by simpa using h
    clear h
    cases bx <;> cases cy
    all_goals
      go_enter Try.func62, Try.ntmps62
      go_wp2_with (first | (go_at_call_of 73 (Value.int .i64 b.x1); refine (HX.out _).mono ?_; rintro e w1 ⟨rfl, rfl⟩) | (go_at_call_of 73 (Value.int .i64 b.y1); refine (HY.out _).mono ?_; rintro e w1 ⟨rfl, rfl⟩))
      all_goals go_ret
      all_goals exact ⟨ret_boolI (by simp [*]), rfl⟩
  · have g : decide (b.x2 ≤ 4095) = false := by simpa using h
    clear h
    cases bx <;> cases cy
    all_goals
      go_enter Try.func62, Try.ntmps62
      go_wp2_with (first | (go_at_call_of 73 (Value.int .i64 b.x1); refine (HX.out _).mono ?_; rintro e w1 ⟨rfl, rfl⟩) | (go_at_call_of 73 (Value.int .i64 b.y1); refine (HY.out _).mono ?_; rintro e w1 ⟨rfl, rfl⟩))
      all_goals go_ret
      all_goals exact ⟨ret_boolI (by simp [*]), rfl⟩
set_option maxHeartbeats 1000000 in
theorem spec_l02Box_c (b : PBox) (w : World) :
    Calls Try.prog 54 #[.agg #[.int .i64 b.x1, .int .i64 b.y1, .int .i64 b.x2, .int .i64 b.y2]] w fun e w' => e = .returned (.bool (boxOkB b)) ∧ w' = w.alloc (.cells #[.int .i64 b.x1, .int .i64 b.y1, .int .i64 b.x2, .int .i64 b.y2] 67) := by
  have CX := spec_inR_c b.x1 0 b.x2
  have CY := spec_inR_c b.y1 0 b.y2
  unfold boxOkB
  generalize inR b.x1 0 b.x2 = bx at CX ⊢
  generalize inR b.y1 0 b.y2 = cy at CY ⊢
  have HX := Lib.hid CX
  have HY := Lib.hid CY
  clear CX CY
  by_cases h : b.x2 ≤ 4095
  · have g : decide (b.x2 ≤ 4095) = true := by simpa using h
    clear h
    cases bx <;> cases cy
    all_goals
      go_enter Try.func54, Try.ntmps54
      go_wp2_with (first | (go_at_call_of 55 (Value.int .i64 b.x1); refine (HX.out _).mono ?_; rintro e w1 ⟨rfl, rfl⟩) | (go_at_call_of 55 (Value.int .i64 b.y1); refine (HY.out _).mono ?_; rintro e w1 ⟨rfl, rfl⟩))
      all_goals go_ret
      all_goals exact ⟨ret_boolI (by simp [*]), rfl⟩
  · have g : decide (b.x2 ≤ 4095) = false := by simpa using h
    clear h
    cases bx <;> cases cy
    all_goals
      go_enter Try.func54, Try.ntmps54
      go_wp2_with (first | (go_at_call_of 55 (Value.int .i64 b.x1); refine (HX.out _).mono ?_; rintro e w1 ⟨rfl, rfl⟩) | (go_at_call_of 55 (Value.int .i64 b.y1); refine (HY.out _).mono ?_; rintro e w1 ⟨rfl, rfl⟩))
      all_goals go_ret
      all_goals exact ⟨ret_boolI (by simp [*]), rfl⟩
end Go.Proofs.Ytkickllohilciaa
