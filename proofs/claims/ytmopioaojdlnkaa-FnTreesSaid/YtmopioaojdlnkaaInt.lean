/- Is a number in its bounds? The program's and the reference's. Conditions: none. -/
import Derived.Test.YtmopioaojdlnkaaLibt
import Derived.Test.YtmopioaojdlnkaaRows
import Derived.Test.YtmopioaojdlnkaaTyBoxt
import Derived.Test.YtmopioaojdlnkaaTree1t
import Derived.Laws.StructEq
import Derived.Test.YtmopioaojdlnkaaMarkt
import Derived.Deep.RegionHeld3
import Derived.Test.YtmopioaojdlnkaaTkt
namespace Go.Proofs.Ytmopioaojdlnkaa
open Go Go.RowKit
theorem ret_boolI {a b : Bool} (h : a = b) : Ending.returned (.bool a) = .returned (.bool b) := by rw [h]
def inR (n lo hi : Int) : Bool := decide (lo ≤ n) && decide (n ≤ hi)
set_option maxHeartbeats 400000 in
theorem spec_inR_c (n lo hi : Int) (w : World) :
 Calls Try.prog 58 #[.int .i64 n, .int .i64 lo, .int .i64 hi] w fun e w' => e = .returned (.bool (inR n lo hi)) ∧ w = w' := by
 by_cases h : lo ≤ n
 · have g : decide (lo ≤ n) = true := by simpa using h
   go_enter Try.func58, Try.ntmps58
   go_wp2_with fail
   all_goals go_ret
   all_goals exact ⟨ret_boolI (by simp [inR, *]), rfl⟩
 · have g : decide (lo ≤ n) = false := by simpa using h
   go_enter Try.func58, Try.ntmps58
   go_wp2_with fail
   all_goals go_ret
   all_goals exact ⟨ret_boolI (by simp [inR, *]), rfl⟩
set_option maxHeartbeats 400000 in
theorem impl_inR_c (n lo hi : Int) (w : World) :
 Calls Try.prog 67 #[.int .i64 n, .int .i64 lo, .int .i64 hi] w fun e w' => e = .returned (.bool (inR n lo hi)) ∧ w = w' := by
 by_cases h : lo ≤ n
 · have g : decide (lo ≤ n) = true := by simpa using h
   go_enter Try.func67, Try.ntmps67
   go_wp2_with fail
   all_goals go_ret
   all_goals exact ⟨ret_boolI (by simp [inR, *]), rfl⟩
 · have g : decide (lo ≤ n) = false := by simpa using h
   go_enter Try.func67, Try.ntmps67
   go_wp2_with fail
   all_goals go_ret
   all_goals exact ⟨ret_boolI (by simp [inR, *]), rfl⟩
def boxOkB (b : PBox) : Bool := inR b.x1 0 b.x2 && (inR b.y1 0 b.y2 && (decide (b.x2 ≤ 4095) && decide (b.y2 ≤ 4095)))
theorem boxOkB_iff {b : PBox} : boxOkB b = true ↔ 0 ≤ b.x1 ∧ b.x1 ≤ b.x2 ∧ 0 ≤ b.y1 ∧ b.y1 ≤ b.y2 ∧ b.x2 ≤ 4095 ∧ b.y2 ≤ 4095 := by
 simp only [boxOkB, inR, Bool.and_eq_true, decide_eq_true_eq]
 omega
set_option maxHeartbeats 1000000 in
theorem impl_ValidBox_c (b : PBox) (w : World) :
 Calls Try.prog 50 #[.agg #[.int .i64 b.x1, .int .i64 b.y1, .int .i64 b.x2, .int .i64 b.y2]] w fun e w' => e = .returned (.bool (boxOkB b)) ∧ w' = w.alloc (.cells #[.int .i64 b.x1, .int .i64 b.y1, .int .i64 b.x2, .int .i64 b.y2] 48) := by
 have CX := impl_inR_c b.x1 0 b.x2
 have CY := impl_inR_c b.y1 0 b.y2
 unfold boxOkB
 generalize inR b.x1 0 b.x2 = bx at CX ⊢
 generalize inR b.y1 0 b.y2 = cy at CY ⊢
 have HX := Lib.hid CX
 have HY := Lib.hid CY
 clear CX CY
 by_cases h : b.x2 ≤ 4095
 · have g : decide (b.x2 ≤ 4095) = true := by simpa using h
   clear h
   cases bx <;> cases cy
   all_goals
    go_enter Try.func50, Try.ntmps50
    go_wp2_with (first | (go_at_call_of 67 (Value.int .i64 b.x1); refine (HX.out _).mono ?_; rintro e w1 ⟨rfl, rfl⟩) | (go_at_call_of 67 (Value.int .i64 b.y1); refine (HY.out _).mono ?_; rintro e w1 ⟨rfl, rfl⟩))
    all_goals go_ret
    all_goals exact ⟨ret_boolI (by simp [*]), rfl⟩
 · have g : decide (b.x2 ≤ 4095) = false := by simpa using h
   clear h
   cases bx <;> cases cy
   all_goals
    go_enter Try.func50, Try.ntmps50
    go_wp2_with (first | (go_at_call_of 67 (Value.int .i64 b.x1); refine (HX.out _).mono ?_; rintro e w1 ⟨rfl, rfl⟩) | (go_at_call_of 67 (Value.int .i64 b.y1); refine (HY.out _).mono ?_; rintro e w1 ⟨rfl, rfl⟩))
    all_goals go_ret
    all_goals exact ⟨ret_boolI (by simp [*]), rfl⟩
set_option maxHeartbeats 1000000 in
theorem spec_l02Box_c (b : PBox) (w : World) :
 Calls Try.prog 42 #[.agg #[.int .i64 b.x1, .int .i64 b.y1, .int .i64 b.x2, .int .i64 b.y2]] w fun e w' => e = .returned (.bool (boxOkB b)) ∧ w' = w.alloc (.cells #[.int .i64 b.x1, .int .i64 b.y1, .int .i64 b.x2, .int .i64 b.y2] 48) := by
 have CX := spec_inR_c b.x1 0 b.x2
 have CY := spec_inR_c b.y1 0 b.y2
 unfold boxOkB
 generalize inR b.x1 0 b.x2 = bx at CX ⊢
 generalize inR b.y1 0 b.y2 = cy at CY ⊢
 have HX := Lib.hid CX
 have HY := Lib.hid CY
 clear CX CY
 by_cases h : b.x2 ≤ 4095
 · have g : decide (b.x2 ≤ 4095) = true := by simpa using h
   clear h
   cases bx <;> cases cy
   all_goals
    go_enter Try.func42, Try.ntmps42
    go_wp2_with (first | (go_at_call_of 58 (Value.int .i64 b.x1); refine (HX.out _).mono ?_; rintro e w1 ⟨rfl, rfl⟩) | (go_at_call_of 58 (Value.int .i64 b.y1); refine (HY.out _).mono ?_; rintro e w1 ⟨rfl, rfl⟩))
    all_goals go_ret
    all_goals exact ⟨ret_boolI (by simp [*]), rfl⟩
 · have g : decide (b.x2 ≤ 4095) = false := by simpa using h
   clear h
   cases bx <;> cases cy
   all_goals
    go_enter Try.func42, Try.ntmps42
    go_wp2_with (first | (go_at_call_of 58 (Value.int .i64 b.x1); refine (HX.out _).mono ?_; rintro e w1 ⟨rfl, rfl⟩) | (go_at_call_of 58 (Value.int .i64 b.y1); refine (HY.out _).mono ?_; rintro e w1 ⟨rfl, rfl⟩))
    all_goals go_ret
    all_goals exact ⟨ret_boolI (by simp [*]), rfl⟩
theorem box_neq (s t : PBox) (w : World) : (binOp .neq 48 (.agg #[.int .i64 s.x1, .int .i64 s.y1, .int .i64 s.x2, .int .i64 s.y2]) (.agg #[.int .i64 t.x1, .int .i64 t.y1, .int .i64 t.x2, .int .i64 t.y2])).run Try.prog w = .ok (.bool (!decide (s = t))) w := by
 have hS : Try.prog.underlying 48 = some (.struct (Try.prog.fieldsOf 48)) := by kernel_rfl
 have hp : Try.prog.stoodInHeld 48 = false := by kernel_rfl
 rw [run_neq_struct, show (10000 : Nat) = 9999 + 1 from rfl, run_equalIn_agg w 9999 48 _ _ hS hp]
 simp only [Program.fieldsOf, Try.underlying48]
 go_simp
 obtain ⟨a, b, c, d⟩ := s
 obtain ⟨a', b', c', d'⟩ := t
 simp only [PBox.mk.injEq]
 by_cases h1 : a = a' <;> by_cases h2 : b = b' <;> by_cases h3 : c = c' <;> by_cases h4 : d = d' <;> simp [h1, h2, h3, h4]
def boxIn (b : PBox) : Prop := 0 ≤ b.x1 ∧ b.x1 ≤ 4095 ∧ 0 ≤ b.y1 ∧ b.y1 ≤ 4095 ∧ 0 ≤ b.x2 ∧ b.x2 ≤ 4095 ∧ 0 ≤ b.y2 ∧ b.y2 ≤ 4095
theorem boxIn_ok {b : PBox} (h : boxOkB b = true) : boxIn b := by
 have := boxOkB_iff.1 h
 unfold boxIn
 omega
theorem boxIn_join {a b : PBox} (ha : boxIn a) (hb : boxIn b) : boxIn (joinB a b) := by
 unfold boxIn joinB at *
 dsimp only
 omega
def relOut (a b : PBox) : Int :=
 if a.x1 + a.x2 ≤ 2 * b.x1 then (if 2 * b.y2 ≤ a.y1 + a.y2 then 4 else if a.y1 + a.y2 ≤ 2 * b.y1 then 5 else 1)
 else if b.y2 ≤ a.y1 then 2
 else if a.y2 ≤ b.y1 then 3
 else 0
theorem relF_out (a b : PBox) : relF a b = if (a.x1 ≤ b.x1 ∧ a.y1 ≤ b.y1 ∧ b.x2 ≤ a.x2 ∧ b.y2 ≤ a.y2) ∧ a ≠ b then 6 else relOut a b := rfl
theorem inside_cases (a b : PBox) : (relF a b = relOut a b ∧ decide (a.x1 ≤ b.x1) = false) ∨ (relF a b = relOut a b ∧ decide (a.x1 ≤ b.x1) = true ∧ decide (a.y1 ≤ b.y1) = false) ∨
 (relF a b = relOut a b ∧ decide (a.x1 ≤ b.x1) = true ∧ decide (a.y1 ≤ b.y1) = true ∧ decide (b.x2 ≤ a.x2) = false) ∨
 (relF a b = relOut a b ∧ decide (a.x1 ≤ b.x1) = true ∧ decide (a.y1 ≤ b.y1) = true ∧ decide (b.x2 ≤ a.x2) = true ∧ decide (b.y2 ≤ a.y2) = false) ∨
 (relF a b = relOut a b ∧ decide (a.x1 ≤ b.x1) = true ∧ decide (a.y1 ≤ b.y1) = true ∧ decide (b.x2 ≤ a.x2) = true ∧ decide (b.y2 ≤ a.y2) = true ∧ decide (a = b) = true) ∨
 (relF a b = 6 ∧ decide (a.x1 ≤ b.x1) = true ∧ decide (a.y1 ≤ b.y1) = true ∧ decide (b.x2 ≤ a.x2) = true ∧ decide (b.y2 ≤ a.y2) = true ∧ decide (a = b) = false) := by
 rw [relF_out]
 by_cases h1 : a.x1 ≤ b.x1 <;> by_cases h2 : a.y1 ≤ b.y1 <;> by_cases h3 : b.x2 ≤ a.x2 <;> by_cases h4 : b.y2 ≤ a.y2 <;> by_cases h5 : a = b <;> simp [h1, h2, h3, h4, h5]
theorem inside_cases2 (a b : PBox) : (relF a b = relOut a b ∧ decide (a = b) = true) ∨ (relF a b = relOut a b ∧ decide (a = b) = false ∧ decide (a.x1 ≤ b.x1) = false) ∨
 (relF a b = relOut a b ∧ decide (a = b) = false ∧ decide (a.x1 ≤ b.x1) = true ∧ decide (a.y1 ≤ b.y1) = false) ∨
 (relF a b = relOut a b ∧ decide (a = b) = false ∧ decide (a.x1 ≤ b.x1) = true ∧ decide (a.y1 ≤ b.y1) = true ∧ decide (b.x2 ≤ a.x2) = false) ∨
 (relF a b = relOut a b ∧ decide (a = b) = false ∧ decide (a.x1 ≤ b.x1) = true ∧ decide (a.y1 ≤ b.y1) = true ∧ decide (b.x2 ≤ a.x2) = true ∧ decide (b.y2 ≤ a.y2) = false) ∨
 (relF a b = 6 ∧ decide (a = b) = false ∧ decide (a.x1 ≤ b.x1) = true ∧ decide (a.y1 ≤ b.y1) = true ∧ decide (b.x2 ≤ a.x2) = true ∧ decide (b.y2 ≤ a.y2) = true) := by
 rw [relF_out]
 by_cases h1 : a.x1 ≤ b.x1 <;> by_cases h2 : a.y1 ≤ b.y1 <;> by_cases h3 : b.x2 ≤ a.x2 <;> by_cases h4 : b.y2 ≤ a.y2 <;> by_cases h5 : a = b <;> simp [h1, h2, h3, h4, h5]
theorem out_cases (a b : PBox) :
 (relOut a b = 4 ∧ decide (a.x1 + a.x2 ≤ 2 * b.x1) = true ∧ decide (2 * b.y2 ≤ a.y1 + a.y2) = true) ∨
 (relOut a b = 5 ∧ decide (a.x1 + a.x2 ≤ 2 * b.x1) = true ∧ decide (2 * b.y2 ≤ a.y1 + a.y2) = false ∧ decide (a.y1 + a.y2 ≤ 2 * b.y1) = true) ∨
 (relOut a b = 1 ∧ decide (a.x1 + a.x2 ≤ 2 * b.x1) = true ∧ decide (2 * b.y2 ≤ a.y1 + a.y2) = false ∧ decide (a.y1 + a.y2 ≤ 2 * b.y1) = false) ∨
 (relOut a b = 2 ∧ decide (a.x1 + a.x2 ≤ 2 * b.x1) = false ∧ decide (b.y2 ≤ a.y1) = true) ∨
 (relOut a b = 3 ∧ decide (a.x1 + a.x2 ≤ 2 * b.x1) = false ∧ decide (b.y2 ≤ a.y1) = false ∧ decide (a.y2 ≤ b.y1) = true) ∨
 (relOut a b = 0 ∧ decide (a.x1 + a.x2 ≤ 2 * b.x1) = false ∧ decide (b.y2 ≤ a.y1) = false ∧ decide (a.y2 ≤ b.y1) = false) := by
 unfold relOut
 by_cases h1 : a.x1 + a.x2 ≤ 2 * b.x1 <;> by_cases h2 : 2 * b.y2 ≤ a.y1 + a.y2 <;> by_cases h3 : a.y1 + a.y2 ≤ 2 * b.y1 <;> by_cases h4 : b.y2 ≤ a.y1 <;> by_cases h5 : a.y2 ≤ b.y1 <;> simp [h1, h2, h3, h4, h5]
set_option maxRecDepth 100000 in
set_option maxHeartbeats 4000000 in
theorem impl_relation_c (a b : PBox) (w : World) (ha : boxIn a) (hb : boxIn b) :
 Calls Try.prog 93 #[.agg #[.int .i64 a.x1, .int .i64 a.y1, .int .i64 a.x2, .int .i64 a.y2], .agg #[.int .i64 b.x1, .int .i64 b.y1, .int .i64 b.x2, .int .i64 b.y2]] w fun e w' => e = .returned (.int .i64 (relF a b)) ∧ w' = (w.alloc (.cells #[.int .i64 a.x1, .int .i64 a.y1, .int .i64 a.x2, .int .i64 a.y2] 48)).alloc (.cells #[.int .i64 b.x1, .int .i64 b.y1, .int .i64 b.x2, .int .i64 b.y2] 48) := by
 obtain ⟨a1, a2, a3, a4, a5, a6, a7, a8⟩ := ha
 obtain ⟨b1, b2, b3, b4, b5, b6, b7, b8⟩ := hb
 have hm : Try.prog.eqGuardType Try.prog.depth 48 = false := by kernel_rfl
 have hq := fun w => box_neq a b w
 have e1 := IntWalk.i64_in (2 * b.x1) (by omega)
 have e2 := IntWalk.i64_in (a.x1 + a.x2) (by omega)
 have e3 := IntWalk.i64_in (2 * b.y2) (by omega)
 have e4 := IntWalk.i64_in (a.y1 + a.y2) (by omega)
 have e5 := IntWalk.i64_in (2 * b.y1) (by omega)
 clear a1 a2 a3 a4 a5 a6 a7 a8 b1 b2 b3 b4 b5 b6 b7 b8
 rcases inside_cases a b with ⟨hR, g1⟩ | ⟨hR, g1, g2⟩ | ⟨hR, g1, g2, g3⟩ | ⟨hR, g1, g2, g3, g4⟩ | ⟨hR, g1, g2, g3, g4, ge⟩ | ⟨hR, g1, g2, g3, g4, ge⟩
 · rw [hR]
   clear hR
   clear hq
   rcases out_cases a b with ⟨hO, f1, f2⟩ | ⟨hO, f1, f2, f3⟩ | ⟨hO, f1, f2, f3⟩ | ⟨hO, f1, f4⟩ | ⟨hO, f1, f4, f5⟩ | ⟨hO, f1, f4, f5⟩
   all_goals
    rw [hO]
    clear hO
    go_enter Try.func93, Try.ntmps93
    go_wp2_with fail
    go_ret
    exact ⟨rfl, rfl⟩
 · rw [hR]
   clear hR
   clear hq
   rcases out_cases a b with ⟨hO, f1, f2⟩ | ⟨hO, f1, f2, f3⟩ | ⟨hO, f1, f2, f3⟩ | ⟨hO, f1, f4⟩ | ⟨hO, f1, f4, f5⟩ | ⟨hO, f1, f4, f5⟩
   all_goals
    rw [hO]
    clear hO
    go_enter Try.func93, Try.ntmps93
    go_wp2_with fail
    go_ret
    exact ⟨rfl, rfl⟩
 · rw [hR]
   clear hR
   clear hq
   rcases out_cases a b with ⟨hO, f1, f2⟩ | ⟨hO, f1, f2, f3⟩ | ⟨hO, f1, f2, f3⟩ | ⟨hO, f1, f4⟩ | ⟨hO, f1, f4, f5⟩ | ⟨hO, f1, f4, f5⟩
   all_goals
    rw [hO]
    clear hO
    go_enter Try.func93, Try.ntmps93
    go_wp2_with fail
    go_ret
    exact ⟨rfl, rfl⟩
 · rw [hR]
   clear hR
   clear hq
   rcases out_cases a b with ⟨hO, f1, f2⟩ | ⟨hO, f1, f2, f3⟩ | ⟨hO, f1, f2, f3⟩ | ⟨hO, f1, f4⟩ | ⟨hO, f1, f4, f5⟩ | ⟨hO, f1, f4, f5⟩
   all_goals
    rw [hO]
    clear hO
    go_enter Try.func93, Try.ntmps93
    go_wp2_with fail
    go_ret
    exact ⟨rfl, rfl⟩
 · rw [hR]
   clear hR
   simp only [ge, Bool.not_true] at hq
   clear ge
   rcases out_cases a b with ⟨hO, f1, f2⟩ | ⟨hO, f1, f2, f3⟩ | ⟨hO, f1, f2, f3⟩ | ⟨hO, f1, f4⟩ | ⟨hO, f1, f4, f5⟩ | ⟨hO, f1, f4, f5⟩
   all_goals
    rw [hO]
    clear hO
    go_enter Try.func93, Try.ntmps93
    go_wp2_with fail
    go_ret
    exact ⟨rfl, rfl⟩
 · rw [hR]
   clear hR
   simp only [ge, Bool.not_false] at hq
   clear ge
   go_enter Try.func93, Try.ntmps93
   go_wp2_with fail
   go_ret
   exact ⟨rfl, rfl⟩
set_option maxRecDepth 100000 in
set_option maxHeartbeats 4000000 in
theorem spec_l20Relation_c (a b : PBox) (w : World) (ha : boxIn a) (hb : boxIn b) :
 Calls Try.prog 105 #[.agg #[.int .i64 a.x1, .int .i64 a.y1, .int .i64 a.x2, .int .i64 a.y2], .agg #[.int .i64 b.x1, .int .i64 b.y1, .int .i64 b.x2, .int .i64 b.y2]] w fun e w' => e = .returned (.int .i64 (relF a b)) ∧ w' = (w.alloc (.cells #[.int .i64 a.x1, .int .i64 a.y1, .int .i64 a.x2, .int .i64 a.y2] 48)).alloc (.cells #[.int .i64 b.x1, .int .i64 b.y1, .int .i64 b.x2, .int .i64 b.y2] 48) := by
 obtain ⟨a1, a2, a3, a4, a5, a6, a7, a8⟩ := ha
 obtain ⟨b1, b2, b3, b4, b5, b6, b7, b8⟩ := hb
 have hm : Try.prog.eqGuardType Try.prog.depth 48 = false := by kernel_rfl
 have hq := fun w => box_neq a b w
 have e1 := IntWalk.i64_in (2 * b.x1) (by omega)
 have e2 := IntWalk.i64_in (a.x1 + a.x2) (by omega)
 have e3 := IntWalk.i64_in (2 * b.y2) (by omega)
 have e4 := IntWalk.i64_in (a.y1 + a.y2) (by omega)
 have e5 := IntWalk.i64_in (2 * b.y1) (by omega)
 clear a1 a2 a3 a4 a5 a6 a7 a8 b1 b2 b3 b4 b5 b6 b7 b8
 rcases inside_cases2 a b with ⟨hR, ge⟩ | ⟨hR, ge, g1⟩ | ⟨hR, ge, g1, g2⟩ | ⟨hR, ge, g1, g2, g3⟩ | ⟨hR, ge, g1, g2, g3, g4⟩ | ⟨hR, ge, g1, g2, g3, g4⟩
 · rw [hR]
   clear hR
   simp only [ge, Bool.not_true] at hq
   clear ge
   rcases out_cases a b with ⟨hO, f1, f2⟩ | ⟨hO, f1, f2, f3⟩ | ⟨hO, f1, f2, f3⟩ | ⟨hO, f1, f4⟩ | ⟨hO, f1, f4, f5⟩ | ⟨hO, f1, f4, f5⟩
   all_goals
    rw [hO]
    clear hO
    go_enter Try.func105, Try.ntmps105
    go_wp2_with fail
    go_ret
    exact ⟨rfl, rfl⟩
 · rw [hR]
   clear hR
   simp only [ge, Bool.not_false] at hq
   clear ge
   rcases out_cases a b with ⟨hO, f1, f2⟩ | ⟨hO, f1, f2, f3⟩ | ⟨hO, f1, f2, f3⟩ | ⟨hO, f1, f4⟩ | ⟨hO, f1, f4, f5⟩ | ⟨hO, f1, f4, f5⟩
   all_goals
    rw [hO]
    clear hO
    go_enter Try.func105, Try.ntmps105
    go_wp2_with fail
    go_ret
    exact ⟨rfl, rfl⟩
 · rw [hR]
   clear hR
   simp only [ge, Bool.not_false] at hq
   clear ge
   rcases out_cases a b with ⟨hO, f1, f2⟩ | ⟨hO, f1, f2, f3⟩ | ⟨hO, f1, f2, f3⟩ | ⟨hO, f1, f4⟩ | ⟨hO, f1, f4, f5⟩ | ⟨hO, f1, f4, f5⟩
   all_goals
    rw [hO]
    clear hO
    go_enter Try.func105, Try.ntmps105
    go_wp2_with fail
    go_ret
    exact ⟨rfl, rfl⟩
 · rw [hR]
   clear hR
   simp only [ge, Bool.not_false] at hq
   clear ge
   rcases out_cases a b with ⟨hO, f1, f2⟩ | ⟨hO, f1, f2, f3⟩ | ⟨hO, f1, f2, f3⟩ | ⟨hO, f1, f4⟩ | ⟨hO, f1, f4, f5⟩ | ⟨hO, f1, f4, f5⟩
   all_goals
    rw [hO]
    clear hO
    go_enter Try.func105, Try.ntmps105
    go_wp2_with fail
    go_ret
    exact ⟨rfl, rfl⟩
 · rw [hR]
   clear hR
   simp only [ge, Bool.not_false] at hq
   clear ge
   rcases out_cases a b with ⟨hO, f1, f2⟩ | ⟨hO, f1, f2, f3⟩ | ⟨hO, f1, f2, f3⟩ | ⟨hO, f1, f4⟩ | ⟨hO, f1, f4, f5⟩ | ⟨hO, f1, f4, f5⟩
   all_goals
    rw [hO]
    clear hO
    go_enter Try.func105, Try.ntmps105
    go_wp2_with fail
    go_ret
    exact ⟨rfl, rfl⟩
 · rw [hR]
   clear hR
   simp only [ge, Bool.not_false] at hq
   clear ge
   go_enter Try.func105, Try.ntmps105
   go_wp2_with fail
   go_ret
   exact ⟨rfl, rfl⟩
theorem step_call {P : Program} {ops : Array Oper} {o : Oper} {a : Act} {w : World} {K : Act → World → Prop} {Q : Exit → Act → World → Prop} {E : Prop} {R : Ending → World → Prop}
 (f : FuncId) (xs : Array Operand) (ts : Array TypeId) (ho : o.op = .call { callee := .value (.func f), args := xs, argTypes := ts })
 (hw : Region.wanted o (yielded ops a.tmps) = true) (av : Array Value) (hcall : ∀ args w, (callFunc f args).run P w = .ok (.enter f args) w) (hx : xs.map a.eval = av)
 (hC : Calls P f av w R) (hK : ∀ e w', R e w' → ∃ v, e = .returned v ∧ K (a.put o.dst v) w') :
 if Region.wanted o (yielded ops a.tmps) = true then Oper.wp P o a w K Q else E := by
 rw [if_pos hw]
 unfold Oper.wp execOp
 simp only [ho, resolve, invoke, Sem.run_bind]
 have he : a.eval (.func f) = .func (.func f) #[] #[] := rfl
 rw [he, hx]
 simp only [Deferred.ofValue, Sem.run_pure, Result.andThen_ok, Array.append_empty, hcall]
 rw [Oper.upon_enter, Array.empty_append]
 refine hC.mono fun e w' hr => ?_
 obtain ⟨v, rfl, hk⟩ := hK e w' hr
 exact hk
section
variable {P : Program} {md : Region.Mode} {ops : Array Oper} {Q : Exit → Act → World → Prop} {S : World → Prop}
def StillCall (P : Program) (ops : Array Oper) (S : World → Prop) (o : Oper) (v : Value) (a : Act) : Prop :=
 Region.wanted o (yielded ops a.tmps) = true ∧ ∃ f args, ∀ w, S w → (execOp a.eval o).run P w = .ok (.enter f args) w ∧ Calls P f args w fun e w' => e = .returned v ∧ w' = w
theorem StillCall.now {i : Nat} {o : Oper} {v : Value} {a : Act} (hi : ops[i]? = some o) (hy : StillCall P ops S o v a) {K : Act → World → Prop} {w : World} (hS : S w) (h : K (a.put o.dst v) w) : wpOp P ops Q i K a w := by
 obtain ⟨hw, f, args, hc⟩ := hy
 obtain ⟨h1, h2⟩ := hc w hS
 unfold Go.wpOp
 simp only [hi, hw, if_true, Oper.wp, h1, Oper.upon]
 refine .inl (h2.mono fun e w' ⟨he, hw'⟩ => ?_)
 subst he; subst hw'
 exact h
theorem StillCall.same {o : Oper} {v : Value} {a a' : Act} (hy : StillCall P ops S o v a) (he : execOp a'.eval o = execOp a.eval o)
 (hw : Region.wanted o (yielded ops a'.tmps) = Region.wanted o (yielded ops a.tmps)) : StillCall P ops S o v a' := by
 unfold StillCall at *
 rw [he, hw]
 exact hy
theorem other_call {j : Nat} {oi oj : Oper} {v : Value} (hj : ops[j]? = some oj) (hap : oi.apart ops oj = true)
 (hsi : ∀ cs b, oi.op ≠ .select cs b) (hsj : ∀ cs b, oj.op ≠ .select cs b)
 (hQ : ∀ c a w, Q (.panic c) (a.put oi.dst v) w → Q (.panic c) a w) {K : Act → World → Prop} {a : Act} {w : World}
 (hy : StillCall P ops S oi v a) (h : wpOp P ops Q j K (a.put oi.dst v) w) :
 wpOp P ops Q j (fun a' w' => StillCall P ops S oi v a' ∧ K (a'.put oi.dst v) w') a w := by
 obtain ⟨h1, h2, h3⟩ := Oper.apart_spec hap
 have keep : ∀ (a : Act), StillCall P ops S oi v a → ∀ u, StillCall P ops S oi v (a.put oj.dst u) := fun a hy u =>
  hy.same (execOp_put oi hsi a oj.dst u h3) (wanted_put oi a oj.dst u h3)
 have fin : ∀ {u w'}, K ((a.put oi.dst v).put oj.dst u) w' → StillCall P ops S oi v (a.put oj.dst u) ∧ K ((a.put oj.dst u).put oi.dst v) w' := fun {u w'} hk =>
  ⟨keep a hy u, by rw [← Act.put_comm a v u h2]; exact hk⟩
 unfold wpOp at *
 simp only [hj] at *
 rw [wanted_put oj a oi.dst v h1] at h
 by_cases hw : Region.wanted oj (yielded ops a.tmps) = true
 · rw [if_pos hw] at h ⊢
   rcases h with h | ⟨hasks, hlets⟩
   · refine .inl ?_
     unfold Oper.wp at *
     rw [execOp_put oj hsj a oi.dst v h1] at h
     generalize (execOp a.eval oj).run P w = r at *
     match r, h with
     | .ok (.value u) w', h => exact fin h
     | .ok .skip w', h => exact fin h
     | .ok (.defer d) w', h =>
       have hd : StillCall P ops S oi v { a with defers := d :: a.defers } := hy.same rfl rfl
       refine ⟨hd.same (execOp_put oi hsi _ oj.dst undef h3) (wanted_put oi _ oj.dst undef h3), ?_⟩
       simp only [Oper.upon] at h
       rw [← Act.put_comm _ v undef h2, ← Act.put_defers]
       exact h
     | .ok (.enter f args) w', h =>
       refine Calls.mono h fun e w'' he => ?_
       match e, he with
       | .returned u, he => exact fin he
       | .panicked c, he => exact hQ _ _ _ he
       | .outgrown, he => exact he
     | .ok (.row row args) w', h => exact Rows.mono h fun u w'' he => fin he
     | .halt x w', h =>
       cases x <;> simp only [Oper.upon] at h ⊢
       case panic u => exact hQ _ _ _ h
   · exact .inr ⟨by unfold Oper.asks at *; rw [execOp_put oj hsj a oi.dst v h1] at hasks; exact hasks, hlets⟩
 · rw [if_neg hw] at h ⊢
   exact fin h
theorem first_call {i : Nat} {oi : Oper} {v : Value} (hi : ops[i]? = some oi) (hsel : ∀ (j : Nat) (o : Oper) cs b, ops[j]? = some o → o.op ≠ .select cs b)
 (hQ : ∀ c a w, Q (.panic c) (a.put oi.dst v) w → Q (.panic c) a w) :
 ∀ (fuel : Nat) (listed : Array Bool) (a : Act) (w : World),
  (∀ j oj, ops[j]? = some oj → j ≠ i → listed.getD j true = false → (∀ e ∈ oj.after, Region.binds md e = true → e.on ≠ i) → oi.apart ops oj = true) →
  i ∈ Region.ready md ops listed → StillCall P ops S oi v a → S w →
  wpAnyH P md ops Q S fuel (listed.setIfInBounds i true) (a.put oi.dst v) w → wpAnyH P md ops Q S (fuel + 1) listed a w
 | fuel, listed, a, w, hfree, hr, hy, hS, H => by
   refine ⟨fun h => by rw [h] at hr; (cases hr), fun j hj => ?_⟩
   by_cases hji : j = i
   · subst hji; exact hy.now hi hS ⟨hS, H⟩
   · have hj' := ready_mono hj hji
     match fuel, H with
     | 0, H => rw [H.1] at hj'; cases hj'
     | fuel + 1, H =>
       obtain ⟨hjun, oj, hoj, hall⟩ := mem_ready.1 hj
       have hnot : ∀ e ∈ oj.after, Region.binds md e = true → e.on ≠ i := fun e he hb heq => by
        have h1 := hall e he hb
        have h0 := (mem_ready.1 hr).1
        rw [heq] at h1
        rcases Nat.lt_or_ge i listed.size with h' | h'
        · simp [h'] at h0 h1; rw [h0] at h1; cases h1
        · simp [Array.getElem?_eq_none h'] at h1
       have h2 := other_call hoj (hfree j oj hoj hji hjun hnot) (fun cs b => hsel i oi cs b hi) (fun cs b => hsel j oj cs b hoj) hQ hy (H.2 j hj')
       refine wpOp_mono (fun a' w' h3 => ⟨h3.2.1, first_call hi hsel hQ fuel (listed.setIfInBounds j true) a' w' (fun k ok hk hki hun hno => hfree k ok hk hki ?_ hno) (ready_mono hr (Ne.symm hji)) h3.1 h3.2.1 (by rw [Array.setIfInBounds_comm _ _ hji]; exact h3.2.2)⟩) h2
       by_cases hjk : j = k
       · subst hjk; exact hjun
       · rw [getD_set_ne true hjk] at hun; exact hun
theorem take_call {i : Nat} {oi : Oper} {v : Value} {fuel : Nat} {listed : Array Bool} {a : Act} {w : World} (hi : ops[i]? = some oi)
 (hs : Region.noSelect ops = true) (hf : Region.free md ops listed i = true) (hr : (Region.ready md ops listed).contains i = true)
 (hQ : ∀ c a w, Q (.panic c) (a.put oi.dst v) w → Q (.panic c) a w) (f : FuncId) (xs : Array Operand) (ts : Array TypeId) (ho : oi.op = .call { callee := .value (.func f), args := xs, argTypes := ts })
 (hw : Region.wanted oi (yielded ops a.tmps) = true) (av : Array Value) (hcall : ∀ args w, (callFunc f args).run P w = .ok (.enter f args) w) (hx : xs.map a.eval = av)
 (hC : ∀ w, Calls P f av w fun e w' => e = .returned v ∧ w' = w) (hS : S w)
 (h : wpAnyH P md ops Q S fuel (listed.setIfInBounds i true) (a.put oi.dst v) w) : wpAnyH P md ops Q S (fuel + 1) listed a w := by
 refine first_call hi (Region.noSelect_spec hs) hQ fuel listed a w (Region.free_spec hi hf) (by simpa using hr) ⟨hw, f, av, fun w _ => ⟨?_, hC w⟩⟩ hS h
 unfold execOp
 have he : a.eval (.func f) = .func (.func f) #[] #[] := rfl
 simp only [ho, resolve, invoke, Sem.run_bind, he, hx, Deferred.ofValue, Sem.run_pure, Result.andThen_ok, Array.append_empty, Array.empty_append, hcall]
theorem tC {i : Nat} {oi : Oper} {v : Value} {fuel : Nat} {listed : Array Bool} {a : Act} {w : World} (f : FuncId) (xs : Array Operand) (av : Array Value) (hcall : ∀ args w, (callFunc f args).run P w = .ok (.enter f args) w)
 (hC : ∀ w, Calls P f av w fun e w' => e = .returned v ∧ w' = w) (hS : S w)
 (h : wpAnyH P md ops Q S fuel (listed.setIfInBounds i true) (a.put oi.dst v) w) {ts : Array TypeId} (hi : ops.toList[i]? = some oi := by rfl)
 (hs : Region.noSelect ops = true := by kernel_rfl) (hf : Region.free md ops listed i = true := by kernel_rfl) (hr : (Region.ready md ops listed).contains i = true := by kernel_rfl)
 (ho : oi.op = .call { callee := .value (.func f), args := xs, argTypes := ts } := by rfl)
 (hw : Region.wanted oi (yielded ops a.tmps) = true := by rfl) (hx : xs.map a.eval = av := by go_simp)
 (hQ : ∀ c a w, Q (.panic c) (a.put oi.dst v) w → Q (.panic c) a w := by exact fun _ _ _ h => h) : wpAnyH P md ops Q S (fuel + 1) listed a w :=
 take_call (by simpa using hi) hs hf hr hQ f xs ts ho hw av hcall hx hC hS h
end
theorem ret_intJ {a b : Int} (h : a = b) : Ending.returned (.int .i64 a) = .returned (.int .i64 b) := by rw [h]
theorem spec_min_c (a b : Int) (w : World) : Calls Try.prog 59 #[.int .i64 a, .int .i64 b] w fun e w' => e = .returned (.int .i64 (min a b)) ∧ w' = w := by
 by_cases h : a < b
 · go_enter Try.func59, Try.ntmps59
   go_wp2_with fail
   go_ret
   exact ⟨ret_intJ (by omega), rfl⟩
 · go_enter Try.func59, Try.ntmps59
   go_wp2_with fail
   go_ret
   exact ⟨ret_intJ (by omega), rfl⟩
theorem spec_max_c (a b : Int) (w : World) : Calls Try.prog 60 #[.int .i64 a, .int .i64 b] w fun e w' => e = .returned (.int .i64 (max a b)) ∧ w' = w := by
 by_cases h : b < a
 · go_enter Try.func60, Try.ntmps60
   go_wp2_with fail
   go_ret
   exact ⟨ret_intJ (by omega), rfl⟩
 · go_enter Try.func60, Try.ntmps60
   go_wp2_with fail
   go_ret
   exact ⟨ret_intJ (by omega), rfl⟩
theorem spec_size_c (n : Int) (w : World) (hn : -9223372036854775807 ≤ n) : Calls Try.prog 106 #[.int .i64 n] w fun e w' => e = .returned (.int .i64 (absI n)) ∧ w' = w := by
 by_cases h : n < 0
 · have g : IntKind.i64.wrap (-n) = -n ∨ n < -9223372036854775807 ∨ 9223372036854775807 < -n := by
    by_cases h2 : -n ≤ 9223372036854775807
    · exact .inl (IntWalk.i64_in _ (by omega))
    · exact .inr (.inr (by omega))
   have g' : IntKind.i64.wrap (-n) = -n := by rcases g with g | g | g <;> omega
   go_enter Try.func106, Try.ntmps106
   go_wp2_with fail
   go_ret
   exact ⟨ret_intJ (by unfold absI; rw [if_pos (by omega)]), rfl⟩
 · go_enter Try.func106, Try.ntmps106
   go_wp2_with fail
   go_ret
   exact ⟨ret_intJ (by unfold absI; rw [if_neg (by omega)]), rfl⟩
theorem impl_abs_c (n : Int) (w : World) (hn : -9223372036854775807 ≤ n) : Calls Try.prog 92 #[.int .i64 n] w fun e w' => e = .returned (.int .i64 (absI n)) ∧ w' = w := by
 by_cases h : n < 0
 · have g' : IntKind.i64.wrap (-n) = -n := IntWalk.i64_in _ (by omega)
   go_enter Try.func92, Try.ntmps92
   go_wp2_with fail
   go_ret
   exact ⟨ret_intJ (by unfold absI; rw [if_pos (by omega)]), rfl⟩
 · go_enter Try.func92, Try.ntmps92
   go_wp2_with fail
   go_ret
   exact ⟨ret_intJ (by unfold absI; rw [if_neg (by omega)]), rfl⟩
def boxV (b : PBox) : Value := .agg #[.int .i64 b.x1, .int .i64 b.y1, .int .i64 b.x2, .int .i64 b.y2]
set_option maxHeartbeats 400000 in
theorem impl_joinBoxes_c (a b : PBox) (w : World) :
 Calls Try.prog 82 #[.agg #[.int .i64 a.x1, .int .i64 a.y1, .int .i64 a.x2, .int .i64 a.y2], .agg #[.int .i64 b.x1, .int .i64 b.y1, .int .i64 b.x2, .int .i64 b.y2]] w fun e w' => e = .returned (boxV (joinB a b)) ∧ Below w.heap.size w w' := by
 go_enter Try.func82, Try.ntmps82
 go_wp2_with fail
 all_goals refine bodyPost_ret (v := boxV (joinB a b)) (by simp [results, Try.results82, go_sem, boxV, joinB]; omega) rfl ⟨rfl, ?_⟩
 all_goals exact (((Below.refl _ _).alloc (Nat.le_refl _) _).alloc (by simp) _).alloc (by simp; omega) _
set_option maxRecDepth 100000 in
set_option maxHeartbeats 400000 in
theorem spec_l02Join_c (a b : PBox) (w : World) :
 Calls Try.prog 43 #[.agg #[.int .i64 a.x1, .int .i64 a.y1, .int .i64 a.x2, .int .i64 a.y2], .agg #[.int .i64 b.x1, .int .i64 b.y1, .int .i64 b.x2, .int .i64 b.y2]] w fun e w' => e = .returned (boxV (joinB a b)) ∧ Below w.heap.size w w' := by
 go_enter Try.func43, Try.ntmps43
 go_wp2_with fail
 have RA := (((Row.new w 48 #[.int .i64 a.x1, .int .i64 a.y1, .int .i64 a.x2, .int .i64 a.y2]).alloc (.cells #[.int .i64 b.x1, .int .i64 b.y1, .int .i64 b.x2, .int .i64 b.y2] 48)).alloc (.cells #[.int .i64 0, .int .i64 0, .int .i64 0, .int .i64 0] 48)).drew
 have RB := ((Row.new (w.alloc (.cells #[.int .i64 a.x1, .int .i64 a.y1, .int .i64 a.x2, .int .i64 a.y2] 48)) 48 #[.int .i64 b.x1, .int .i64 b.y1, .int .i64 b.x2, .int .i64 b.y2]).alloc (.cells #[.int .i64 0, .int .i64 0, .int .i64 0, .int .i64 0] 48)).drew
 rw [show (w.alloc (.cells #[.int .i64 a.x1, .int .i64 a.y1, .int .i64 a.x2, .int .i64 a.y2] 48)).heap.size = w.heap.size + 1 by simp] at RB
 have hS : (fun w' => w'.cell? ⟨w.heap.size, 0, none⟩ = some (.int .i64 a.x1) ∧ w'.cell? ⟨w.heap.size, 1, none⟩ = some (.int .i64 a.y1) ∧ w'.cell? ⟨w.heap.size, 2, none⟩ = some (.int .i64 a.x2) ∧ w'.cell? ⟨w.heap.size, 3, none⟩ = some (.int .i64 a.y2) ∧ w'.cell? ⟨w.heap.size + 1, 0, none⟩ = some (.int .i64 b.x1) ∧ w'.cell? ⟨w.heap.size + 1, 1, none⟩ = some (.int .i64 b.y1) ∧ w'.cell? ⟨w.heap.size + 1, 2, none⟩ = some (.int .i64 b.x2) ∧ w'.cell? ⟨w.heap.size + 1, 3, none⟩ = some (.int .i64 b.y2)) (((w.alloc (.cells #[.int .i64 a.x1, .int .i64 a.y1, .int .i64 a.x2, .int .i64 a.y2] 48)).alloc (.cells #[.int .i64 b.x1, .int .i64 b.y1, .int .i64 b.x2, .int .i64 b.y2] 48)).alloc (.cells #[.int .i64 0, .int .i64 0, .int .i64 0, .int .i64 0] 48)).drew :=
  ⟨RA.c0, RA.c1, RA.c2, RA.c3, RB.c0, RB.c1, RB.c2, RB.c3⟩
 dsimp only at hS
 refine wp_region_held_drew (S := (fun w' => w'.cell? ⟨w.heap.size, 0, none⟩ = some (.int .i64 a.x1) ∧ w'.cell? ⟨w.heap.size, 1, none⟩ = some (.int .i64 a.y1) ∧ w'.cell? ⟨w.heap.size, 2, none⟩ = some (.int .i64 a.x2) ∧ w'.cell? ⟨w.heap.size, 3, none⟩ = some (.int .i64 a.y2) ∧ w'.cell? ⟨w.heap.size + 1, 0, none⟩ = some (.int .i64 b.x1) ∧ w'.cell? ⟨w.heap.size + 1, 1, none⟩ = some (.int .i64 b.y1) ∧ w'.cell? ⟨w.heap.size + 1, 2, none⟩ = some (.int .i64 b.x2) ∧ w'.cell? ⟨w.heap.size + 1, 3, none⟩ = some (.int .i64 b.y2))) (by kernel_rfl) hS (fun _ => ?_)
 refine tJ 0 hS ?_
 refine tJ 1 hS ?_
 refine tJ 2 hS ?_
 refine tJ 3 hS ?_
 refine tC (i := 4) 59 #[Go.Operand.tmp 6, Go.Operand.tmp 8] #[.int .i64 a.x1, .int .i64 b.x1] Try.call59 (spec_min_c _ _) hS ?_
 simp only [Act.put, pA, pB, pC]
 refine tJ 5 hS ?_
 refine tJ 6 hS ?_
 refine tJ 7 hS ?_
 refine tJ 8 hS ?_
 refine tC (i := 9) 59 #[Go.Operand.tmp 11, Go.Operand.tmp 13] #[.int .i64 a.y1, .int .i64 b.y1] Try.call59 (spec_min_c _ _) hS ?_
 simp only [Act.put, pA, pB, pC]
 refine tJ 10 hS ?_
 refine tJ 11 hS ?_
 refine tJ 12 hS ?_
 refine tJ 13 hS ?_
 refine tC (i := 14) 60 #[Go.Operand.tmp 16, Go.Operand.tmp 18] #[.int .i64 a.x2, .int .i64 b.x2] Try.call60 (spec_max_c _ _) hS ?_
 simp only [Act.put, pA, pB, pC]
 refine tJ 15 hS ?_
 refine tJ 16 hS ?_
 refine tJ 17 hS ?_
 refine tJ 18 hS ?_
 refine tC (i := 19) 60 #[Go.Operand.tmp 21, Go.Operand.tmp 23] #[.int .i64 a.y2, .int .i64 b.y2] Try.call60 (spec_max_c _ _) hS ?_
 simp only [Act.put, pA, pB, pC]
 refine tJ 20 hS ?_
 refine rJ 21 fun K hK => ?_
 go_simp
 have RA2 := (((Row.new w 48 #[.int .i64 a.x1, .int .i64 a.y1, .int .i64 a.x2, .int .i64 a.y2]).alloc (.cells #[.int .i64 b.x1, .int .i64 b.y1, .int .i64 b.x2, .int .i64 b.y2] 48)).alloc (.cells #[.int .i64 (min a.x1 b.x1), .int .i64 (min a.y1 b.y1), .int .i64 (max a.x2 b.x2), .int .i64 (max a.y2 b.y2)] 48)).drew
 have RB2 := ((Row.new (w.alloc (.cells #[.int .i64 a.x1, .int .i64 a.y1, .int .i64 a.x2, .int .i64 a.y2] 48)) 48 #[.int .i64 b.x1, .int .i64 b.y1, .int .i64 b.x2, .int .i64 b.y2]).alloc (.cells #[.int .i64 (min a.x1 b.x1), .int .i64 (min a.y1 b.y1), .int .i64 (max a.x2 b.x2), .int .i64 (max a.y2 b.y2)] 48)).drew
 rw [show (w.alloc (.cells #[.int .i64 a.x1, .int .i64 a.y1, .int .i64 a.x2, .int .i64 a.y2] 48)).heap.size = w.heap.size + 1 by simp] at RB2
 refine hK.out _ _ ?_ (fun _ => ?_)
 · exact ⟨RA2.c0, RA2.c1, RA2.c2, RA2.c3, RB2.c0, RB2.c1, RB2.c2, RB2.c3⟩
 clear hK K
 refine wpAnyH_done (by kernel_rfl) ?_ _
 go_wp2_with fail
 refine bodyPost_ret (v := boxV (joinB a b)) (by simp [results, Try.results43, go_sem, boxV, joinB]) rfl ⟨rfl, ?_⟩
 exact ((((Below.refl _ _).alloc (Nat.le_refl _) _).alloc (by simp) _).alloc (by simp; omega) _).drew
end Go.Proofs.Ytmopioaojdlnkaa
