/- Ink: which points and strokes are valid, in the program and in the reference. Conditions: none. -/
import Derived.Test.YtnochonfhpkibaaTyInk
namespace Go.Proofs.Ytnochonfhpkibaa
open Go Go.RowKit

theorem ret_boolI {a b : Bool} (h : a = b) : Ending.returned (.bool a) = .returned (.bool b) := by rw [h]
/-- lo ≤ n ≤ hi. -/
def inR (n lo hi : Int) : Bool := decide (lo ≤ n) && decide (n ≤ hi)
set_option maxHeartbeats 400000 in
theorem spec_inR_c (n lo hi : Int) (w : World) :
    Calls Try.prog 33 #[.int .i64 n, .int .i64 lo, .int .i64 hi] w fun e w' => e = .returned (.bool (inR n lo hi)) ∧ w = w' := by
  by_cases h : lo ≤ n
  · have g : decide (lo ≤ n) = true := by simpa using h
    go_enter Try.func33, Try.ntmps33
    go_wp2_with fail
    all_goals go_ret
    all_goals exact ⟨ret_boolI (by simp [inR, *]), rfl⟩
  · have g : decide (lo ≤ n) = false := by simpa using h
    go_enter Try.func33, Try.ntmps33
    go_wp2_with fail
    all_goals go_ret
    all_goals exact ⟨ret_boolI (by simp [inR, *]), rfl⟩
set_option maxHeartbeats 400000 in
theorem impl_inR_c (n lo hi : Int) (w : World) :
    Calls Try.prog 39 #[.int .i64 n, .int .i64 lo, .int .i64 hi] w fun e w' => e = .returned (.bool (inR n lo hi)) ∧ w = w' := by
  by_cases h : lo ≤ n
  · have g : decide (lo ≤ n) = true := by simpa using h
    go_enter Try.func39, Try.ntmps39
    go_wp2_with fail
    all_goals go_ret
    all_goals exact ⟨ret_boolI (by simp [inR, *]), rfl⟩
  · have g : decide (lo ≤ n) = false := by simpa using h
    go_enter Try.func39, Try.ntmps39
    go_wp2_with fail
    all_goals go_ret
    all_goals exact ⟨ret_boolI (by simp [inR, *]), rfl⟩
theorem impl_isCoord_c (n : Int) (w : World) :
    Calls Try.prog 38 #[.int .i64 n] w fun e w' => e = .returned (.bool (inR n 0 4095)) ∧ w = w' := by
  have C := impl_inR_c n 0 4095
  generalize inR n 0 4095 = b at C
  have HC := Lib.hid C
  clear C
  go_enter Try.func38, Try.ntmps38
  go_wp2_with fail
  refine (HC.out _).mono ?_
  rintro e w1 ⟨rfl, rfl⟩
  go_wp2_with fail
  go_ret
  exact ⟨rfl, rfl⟩
def pointB (p : PPoint) : Bool := inR p.x 0 4095 && (inR p.y 0 4095 && inR p.t 0 3600000)
set_option maxHeartbeats 400000 in
theorem impl_validPoint_c (p : PPoint) (w : World) :
    Calls Try.prog 35 #[.agg #[.int .i64 p.x, .int .i64 p.y, .int .i64 p.t]] w fun e w' => e = .returned (.bool (pointB p)) ∧ w' = w.alloc (.cells #[.int .i64 p.x, .int .i64 p.y, .int .i64 p.t] 60) := by
  have CX := impl_isCoord_c p.x
  have CY := impl_isCoord_c p.y
  have CT := impl_inR_c p.t 0 3600000
  unfold pointB
  generalize inR p.x 0 4095 = bx at CX ⊢
  generalize inR p.y 0 4095 = cy at CY ⊢
  generalize inR p.t 0 3600000 = dt at CT ⊢
  have HX := Lib.hid CX
  have HY := Lib.hid CY
  have HT := Lib.hid CT
  clear CX CY CT
  cases bx <;> cases cy
  all_goals
    go_enter Try.func35, Try.ntmps35
    go_wp2_with (first | (go_at_call_of 38 (Value.int .i64 p.x); refine (HX.out _).mono ?_; rintro e w1 ⟨rfl, rfl⟩) | (go_at_call_of 38 (Value.int .i64 p.y); refine (HY.out _).mono ?_; rintro e w1 ⟨rfl, rfl⟩) | (go_at_call 39; refine (HT.out _).mono ?_; rintro e w1 ⟨rfl, rfl⟩))
    go_ret
    exact ⟨rfl, rfl⟩
set_option maxHeartbeats 400000 in
theorem spec_l02Point_c (p : PPoint) (w : World) :
    Calls Try.prog 32 #[.agg #[.int .i64 p.x, .int .i64 p.y, .int .i64 p.t]] w fun e w' => e = .returned (.bool (pointB p)) ∧ w' = w.alloc (.cells #[.int .i64 p.x, .int .i64 p.y, .int .i64 p.t] 60) := by
  have CX := spec_inR_c p.x 0 4095
  have CY := spec_inR_c p.y 0 4095
  have CT := spec_inR_c p.t 0 3600000
  unfold pointB
  generalize inR p.x 0 4095 = bx at CX ⊢
  generalize inR p.y 0 4095 = cy at CY ⊢
  generalize inR p.t 0 3600000 = dt at CT ⊢
  have HX := Lib.hid CX
  have HY := Lib.hid CY
  have HT := Lib.hid CT
  clear CX CY CT
  cases bx <;> cases cy
  all_goals
    go_enter Try.func32, Try.ntmps32
    go_wp2_with (first | (go_at_call_of 33 (Value.int .i64 p.x); refine (HX.out _).mono ?_; rintro e w1 ⟨rfl, rfl⟩) | (go_at_call_of 33 (Value.int .i64 p.y); refine (HY.out _).mono ?_; rintro e w1 ⟨rfl, rfl⟩) | (go_at_call_of 33 (Value.int .i64 p.t); refine (HT.out _).mono ?_; rintro e w1 ⟨rfl, rfl⟩))
    go_ret
    exact ⟨rfl, rfl⟩

/-- A point out of a list. -/
def pt (s : PStroke) (k : Nat) : PPoint := s.getD k ⟨0, 0, 0⟩
theorem pt_get {s : PStroke} {k : Nat} (h : k < s.length) : pt s k = s[k] := by simp [pt, List.getD_eq_getElem?_getD, List.getElem?_eq_getElem h]
def ptOk (s : PStroke) (k : Nat) : Bool := pointB (pt s k) && (decide (k = 0) || decide ((pt s (k - 1)).t < (pt s k).t))
def ptsOk (s : PStroke) : Nat → Bool
  | 0 => true
  | k + 1 => ptsOk s k && ptOk s k
theorem ptsOk_false {s : PStroke} {k : Nat} (h : ptOk s k = false) : ∀ n, k < n → ptsOk s n = false
  | 0, hk => by omega
  | n + 1, hk => by
    by_cases e : k = n
    · subst e; simp [ptsOk, h]
    · simp [ptsOk, ptsOk_false h n (by omega)]
theorem ptsOk_get {s : PStroke} : ∀ {n k : Nat}, ptsOk s n = true → k < n → ptOk s k = true
  | 0, _, _, hk => by omega
  | n + 1, k, h, hk => by
    simp only [ptsOk, Bool.and_eq_true] at h
    by_cases e : k = n
    · subst e; exact h.2
    · exact ptsOk_get h.1 (by omega)
def strokeB (s : PStroke) : Bool := ptsOk s s.length && (decide (1 ≤ s.length) && decide (s.length ≤ 60))
theorem strokeB_false {s : PStroke} {k : Nat} (hk : k < s.length) (h : ptOk s k = false) : strokeB s = false := by simp [strokeB, ptsOk_false h _ hk]
end Go.Proofs.Ytnochonfhpkibaa
