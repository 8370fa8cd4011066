/- The relation of a box to another, in the program and in the reference. Conditions: none. -/
import Derived.Test.YtkickllohilciaaTree1
import Derived.Test.YtkickllohilciaaBoxOk
import Derived.Laws.StructEq
namespace Go.Proofs.Ytkickllohilciaa
open Go Go.RowKit

theorem box_neq (s t : PBox) (w : World) : (binOp .neq 67 (.agg #[.int .i64 s.x1, .int .i64 s.y1, .int .i64 s.x2, .int .i64 s.y2]) (.agg #[.int .i64 t.x1, .int .i64 t.y1, .int .i64 t.x2, .int .i64 t.y2])).run Try.prog w = .ok (.bool (!decide (s = t))) w := by
  have hS : Try.prog.underlying 67 = some (.struct (Try.prog.fieldsOf 67)) := by kernel_rfl
  have hp : Try.prog.stoodInHeld 67 = false := by kernel_rfl
  rw [run_neq_struct, show (10000 : Nat) = 9999 + 1 from rfl, run_equalIn_agg w 9999 67 _ _ hS hp]
  simp only [Program.fieldsOf, Try.underlying67]
  go_simp
  obtain ⟨a, b, c, d⟩ := s
  obtain ⟨a', b', c', d'⟩ := t
  simp only [PBox.mk.injEq]
  by_cases h1 : a = a' <;> by_cases h2 : b = b' <;> by_cases h3 : c = c' <;> by_cases h4 : d = d' <;> simp [h1, h2, h3, h4]
/-- A box on the page. -/
def boxIn (b : PBox) : Prop := 0 ≤ b.x1 ∧ b.x1 ≤ 4095 ∧ 0 ≤ b.y1 ∧ b.y1 ≤ 4095 ∧ 0 ≤ b.x2 ∧ b.x2 ≤ 4095 ∧ 0 ≤ b.y2 ∧ b.y2 ≤ 4095
theorem boxIn_ok {b : PBox} (h : boxOkB b = true) : boxIn b := by
  have := boxOkB_iff.1 h
  unfold boxIn
  omega
theorem boxIn_join {a b : PBox} (ha : boxIn a) (hb : boxIn b) : boxIn (joinB a b) := by
  unfold boxIn joinB at *
  dsimp only
  omega
def relOut (a b : PBox) : Int :=
  if a.x1 + a.x2 ≤ 2 * b.x1 then (if 2 * b.y2 ≤ a.y1 + a.y2 then 4 else if a.y1 + a.y2 ≤ 2 * b.y1 then 5 else 1)
  else if b.y2 ≤ a.y1 then 2
  else if a.y2 ≤ b.y1 then 3
  else 0
theorem relF_out (a b : PBox) : relF a b = if (a.x1 ≤ b.x1 ∧ a.y1 ≤ b.y1 ∧ b.x2 ≤ a.x2 ∧ b.y2 ≤ a.y2) ∧ a ≠ b then 6 else relOut a b := rfl
theorem inside_cases (a b : PBox) : (relF a b = relOut a b ∧ decide (a.x1 ≤ b.x1) = false) ∨ (relF a b = relOut a b ∧ decide (a.x1 ≤ b.x1) = true ∧ decide (a.y1 ≤ b.y1) = false) ∨
    (relF a b = relOut a b ∧ decide (a.x1 ≤ b.x1) = true ∧ decide (a.y1 ≤ b.y1) = true ∧ decide (b.x2 ≤ a.x2) = false) ∨
    (relF a b = relOut a b ∧ decide (a.x1 ≤ b.x1) = true ∧ decide (a.y1 ≤ b.y1) = true ∧ decide (b.x2 ≤ a.x2) = true ∧ decide (b.y2 ≤ a.y2) = false) ∨
    (relF a b = relOut a b ∧ decide (a.x1 ≤ b.x1) = true ∧ decide (a.y1 ≤ b.y1) = true ∧ decide (b.x2 ≤ a.x2) = true ∧ decide (b.y2 ≤ a.y2) = true ∧ decide (a = b) = true) ∨
    (relF a b = 6 ∧ decide (a.x1 ≤ b.x1) = true ∧ decide (a.y1 ≤ b.y1) = true ∧ decide (b.x2 ≤ a.x2) = true ∧ decide (b.y2 ≤ a.y2) = true ∧ decide (a = b) = false) := by
  rw [relF_out]
  by_cases h1 : a.x1 ≤ b.x1 <;> by_cases h2 : a.y1 ≤ b.y1 <;> by_cases h3 : b.x2 ≤ a.x2 <;> by_cases h4 : b.y2 ≤ a.y2 <;> by_cases h5 : a = b <;> simp [h1, h2, h3, h4, h5]
theorem inside_cases2 (a b : PBox) : (relF a b = relOut a b ∧ decide (a = b) = true) ∨ (relF a b = relOut a b ∧ decide (a = b) = false ∧ decide (a.x1 ≤ b.x1) = false) ∨
    (relF a b = relOut a b ∧ decide (a = b) = false ∧ decide (a.x1 ≤ b.x1) = true ∧ decide (a.y1 ≤ b.y1) = false) ∨
    (relF a b = relOut a b ∧ decide (a = b) = false ∧ decide (a.x1 ≤ b.x1) = true ∧ decide (a.y1 ≤ b.y1) = true ∧ decide (b.x2 ≤ a.x2) = false) ∨
    (relF a b = relOut a b ∧ decide (a = b) = false ∧ decide (a.x1 ≤ b.x1) = true ∧ decide (a.y1 ≤ b.y1) = true ∧ decide (b.x2 ≤ a.x2) = true ∧ decide (b.y2 ≤ a.y2) = false) ∨
    (relF a b = 6 ∧ decide (a = b) = false ∧ decide (a.x1 ≤ b.x1) = true ∧ decide (a.y1 ≤ b.y1) = true ∧ decide (b.x2 ≤ a.x2) = true ∧ decide (b.y2 ≤ a.y2) = true) := by
  rw [relF_out]
  by_cases h1 : a.x1 ≤ b.x1 <;> by_cases h2 : a.y1 ≤ b.y1 <;> by_cases h3 : b.x2 ≤ a.x2 <;> by_cases h4 : b.y2 ≤ a.y2 <;> by_cases h5 : a = b <;> simp [h1, h2, h3, h4, h5]
theorem out_cases (a b : PBox) :
    (relOut a b = 4 ∧ decide (a.x1 + a.x2 ≤ 2 * b.x1) = true ∧ decide (2 * b.y2 ≤ a.y1 + a.y2) = true) ∨
    (relOut a b = 5 ∧ decide (a.x1 + a.x2 ≤ 2 * b.x1) = true ∧ decide (2 * b.y2 ≤ a.y1 + a.y2) = false ∧ decide (a.y1 + a.y2 ≤ 2 * b.y1) = true) ∨
    (relOut a b = 1 ∧ decide (a.x1 + a.x2 ≤ 2 * b.x1) = true ∧ decide (2 * b.y2 ≤ a.y1 + a.y2) = false ∧ decide (a.y1 + a.y2 ≤ 2 * b.y1) = false) ∨
    (relOut a b = 2 ∧ decide (a.x1 + a.x2 ≤ 2 * b.x1) = false ∧ decide (b.y2 ≤ a.y1) = true) ∨
    (relOut a b = 3 ∧ decide (a.x1 + a.x2 ≤ 2 * b.x1) = false ∧ decide (b.y2 ≤ a.y1) = false ∧ decide (a.y2 ≤ b.y1) = true) ∨
    (relOut a b = 0 ∧ decide (a.x1 + a.x2 ≤ 2 * b.x1) = false ∧ decide (b.y2 ≤ a.y1) = false ∧ decide (a.y2 ≤ b.y1) = false) := by
  unfold relOut
  by_cases h1 : a.x1 + a.x2 ≤ 2 * b.x1 <;> by_cases h2 : 2 * b.y2 ≤ a.y1 + a.y2 <;> by_cases h3 : a.y1 + a.y2 ≤ 2 * b.y1 <;> by_cases h4 : b.y2 ≤ a.y1 <;> by_cases h5 : a.y2 ≤ b.y1 <;> simp [h1, h2, h3, h4, h5]
set_option maxRecDepth 100000 in
set_option maxHeartbeats 4000000 in
theorem impl_relation_c (a b : PBox) (w : World) (ha : boxIn a) (hb : boxIn b) :
    Calls Try.prog 91 #[.agg #[.int .i64 a.x1, .int .i64 a.y1, .int .i64 a.x2, .int .i64 a.y2], .agg #[.int .i64 b.x1, .int .i64 b.y1, .int .i64 b.x2, .int .i64 b.y2]] w fun e w' => e = .returned (.int .i64 (relF a b)) ∧ w' = (w.alloc (.cells #[.int .i64 a.x1, .int .i64 a.y1, .int .i64 a.x2, .int .i64 a.y2] 67)).alloc (.cells #[.int .i64 b.x1, .int .i64 b.y1, .int .i64 b.x2, .int .i64 b.y2] 67) := by
  obtain ⟨a1, a2, a3, a4, a5, a6, a7, a8⟩ := ha
  obtain ⟨b1, b2, b3, b4, b5, b6, b7, b8⟩ := hb
  have hm : Try.prog.eqGuardType Try.prog.depth 67 = false := by kernel_rfl
  have hq := fun w => box_neq a b w
  have e1 : IntKind.i64.wrap (2 * b.x1) = 2 * b.x1 := IntWalk.i64_in _ (by omega)
  have e2 : IntKind.i64.wrap (a.x1 + a.x2) = a.x1 + a.x2 := IntWalk.i64_in _ (by omega)
  have e3 : IntKind.i64.wrap (2 * b.y2) = 2 * b.y2 := IntWalk.i64_in _ (by omega)
  have e4 : IntKind.i64.wrap (a.y1 + a.y2) = a.y1 + a.y2 := IntWalk.i64_in _ (by omega)
  have e5 : IntKind.i64.wrap (2 * b.y1) = 2 * b.y1 := IntWalk.i64_in _ (by omega)
  clear a1 a2 a3 a4 a5 a6 a7 a8 b1 b2 b3 b4 b5 b6 b7 b8
  rcases inside_cases a b with ⟨hR, g1⟩ | ⟨hR, g1, g2⟩ | ⟨hR, g1, g2, g3⟩ | ⟨hR, g1, g2, g3, g4⟩ | ⟨hR, g1, g2, g3, g4, ge⟩ | ⟨hR, g1, g2, g3, g4, ge⟩
  · rw [hR]
    clear hR
    clear hq
    rcases out_cases a b with ⟨hO, f1, f2⟩ | ⟨hO, f1, f2, f3⟩ | ⟨hO, f1, f2, f3⟩ | ⟨hO, f1, f4⟩ | ⟨hO, f1, f4, f5⟩ | ⟨hO, f1, f4, f5⟩
    all_goals
      rw [hO]
      clear hO
      go_enter Try.func91, Try.ntmps91
      go_wp2_with fail
      go_ret
      exact ⟨rfl, rfl⟩
  · rw [hR]
    clear hR
    clear hq
    rcases out_cases a b with ⟨hO, f1, f2⟩ | ⟨hO, f1, f2, f3⟩ | ⟨hO, f1, f2, f3⟩ | ⟨hO, f1, f4⟩ | ⟨hO, f1, f4, f5⟩ | ⟨hO, f1, f4, f5⟩
    all_goals
      rw [hO]
      clear hO
      go_enter Try.func91, Try.ntmps91
      go_wp2_with fail
      go_ret
      exact ⟨rfl, rfl⟩
  · rw [hR]
    clear hR
    clear hq
    rcases out_cases a b with ⟨hO, f1, f2⟩ | ⟨hO, f1, f2, f3⟩ | ⟨hO, f1, f2, f3⟩ | ⟨hO, f1, f4⟩ | ⟨hO, f1, f4, f5⟩ | ⟨hO, f1, f4, f5⟩
    all_goals
      rw [hO]
      clear hO
      go_enter Try.func91, Try.ntmps91
      go_wp2_with fail
      go_ret
      exact ⟨rfl, rfl⟩
  · rw [hR]
    clear hR
    clear hq
    rcases out_cases a b with ⟨hO, f1, f2⟩ | ⟨hO, f1, f2, f3⟩ | ⟨hO, f1, f2, f3⟩ | ⟨hO, f1, f4⟩ | ⟨hO, f1, f4, f5⟩ | ⟨hO, f1, f4, f5⟩
    all_goals
      rw [hO]
      clear hO
      go_enter Try.func91, Try.ntmps91
      go_wp2_with fail
      go_ret
      exact ⟨rfl, rfl⟩
  · rw [hR]
    clear hR
    simp only [ge, Bool.not_true, Bool.not_false] at hq
    clear ge
    rcases out_cases a b with ⟨hO, f1, f2⟩ | ⟨hO, f1, f2, f3⟩ | ⟨hO, f1, f2, f3⟩ | ⟨hO, f1, f4⟩ | ⟨hO, f1, f4, f5⟩ | ⟨hO, f1, f4, f5⟩
    all_goals
      rw [hO]
      clear hO
      go_enter Try.func91, Try.ntmps91
      go_wp2_with fail
      go_ret
      exact ⟨rfl, rfl⟩
  · rw [hR]
    clear hR
    simp only [ge, Bool.not_true, Bool.not_false] at hq
    clear ge
    go_enter Try.func91, Try.ntmps91
    go_wp2_with fail
    go_ret
    exact ⟨rfl, rfl⟩
set_option maxRecDepth 100000 in
set_option maxHeartbeats 4000000 in
theorem spec_l20Relation_c (a b : PBox) (w : World) (ha : boxIn a) (hb : boxIn b) :
    Calls Try.prog 86 #[.agg #[.int .i64 a.x1, .int .i64 a.y1, .int .i64 a.x2, .int .i64 a.y2], .agg #[.int .i64 b.x1, .int .i64 b.y1, .int .i64 b.x2, .int .i64 b.y2]] w fun e w' => e = .returned (.int .i64 (relF a b)) ∧ w' = (w.alloc (.cells #[.int .i64 a.x1, .int .i64 a.y1, .int .i64 a.x2, .int .i64 a.y2] 67)).alloc (.cells #[.int .i64 b.x1, .int .i64 b.y1, .int .i64 b.x2, .int .i64 b.y2] 67) := by
  obtain ⟨a1, a2, a3, a4, a5, a6, a7, a8⟩ := ha
  obtain ⟨b1, b2, b3, b4, b5, b6, b7, b8⟩ := hb
  have hm : Try.prog.eqGuardType Try.prog.depth 67 = false := by kernel_rfl
  have hq := fun w => box_neq a b w
  have e1 : IntKind.i64.wrap (2 * b.x1) = 2 * b.x1 := IntWalk.i64_in _ (by omega)
  have e2 : IntKind.i64.wrap (a.x1 + a.x2) = a.x1 + a.x2 := IntWalk.i64_in _ (by omega)
  have e3 : IntKind.i64.wrap (2 * b.y2) = 2 * b.y2 := IntWalk.i64_in _ (by omega)
  have e4 : IntKind.i64.wrap (a.y1 + a.y2) = a.y1 + a.y2 := IntWalk.i64_in _ (by omega)
  have e5 : IntKind.i64.wrap (2 * b.y1) = 2 * b.y1 := IntWalk.i64_in _ (by omega)
  clear a1 a2 a3 a4 a5 a6 a7 a8 b1 b2 b3 b4 b5 b6 b7 b8
  rcases inside_cases2 a b with ⟨hR, ge⟩ | ⟨hR, ge, g1⟩ | ⟨hR, ge, g1, g2⟩ | ⟨hR, ge, g1, g2, g3⟩ | ⟨hR, ge, g1, g2, g3, g4⟩ | ⟨hR, ge, g1, g2, g3, g4⟩
  · rw [hR]
    clear hR
    simp only [ge, Bool.not_true, Bool.not_false] at hq
    clear ge
    rcases out_cases a b with ⟨hO, f1, f2⟩ | ⟨hO, f1, f2, f3⟩ | ⟨hO, f1, f2, f3⟩ | ⟨hO, f1, f4⟩ | ⟨hO, f1, f4, f5⟩ | ⟨hO, f1, f4, f5⟩
    all_goals
      rw [hO]
      clear hO
      go_enter Try.func86, Try.ntmps86
      go_wp2_with fail
      go_ret
      exact ⟨rfl, rfl⟩
  · rw [hR]
    clear hR
    simp only [ge, Bool.not_true, Bool.not_false] at hq
    clear ge
    rcases out_cases a b with ⟨hO, f1, f2⟩ | ⟨hO, f1, f2, f3⟩ | ⟨hO, f1, f2, f3⟩ | ⟨hO, f1, f4⟩ | ⟨hO, f1, f4, f5⟩ | ⟨hO, f1, f4, f5⟩
    all_goals
      rw [hO]
      clear hO
      go_enter Try.func86, Try.ntmps86
      go_wp2_with fail
      go_ret
      exact ⟨rfl, rfl⟩
  · rw [hR]
    clear hR
    simp only [ge, Bool.not_true, Bool.not_false] at hq
    clear ge
    rcases out_cases a b with ⟨hO, f1, f2⟩ | ⟨hO, f1, f2, f3⟩ | ⟨hO, f1, f2, f3⟩ | ⟨hO, f1, f4⟩ | ⟨hO, f1, f4, f5⟩ | ⟨hO, f1, f4, f5⟩
    all_goals
      rw [hO]
      clear hO
      go_enter Try.func86, Try.ntmps86
      go_wp2_with fail
      go_ret
      exact ⟨rfl, rfl⟩
  · rw [hR]
    clear hR
    simp only [ge, Bool.not_true, Bool.not_false] at hq
    clear ge
    rcases out_cases a b with ⟨hO, f1, f2⟩ | ⟨hO, f1, f2, f3⟩ | ⟨hO, f1, f2, f3⟩ | ⟨hO, f1, f4⟩ | ⟨hO, f1, f4, f5⟩ | ⟨hO, f1, f4, f5⟩
    all_goals
      rw [hO]
      clear hO
      go_enter Try.func86, Try.ntmps86
      go_wp2_with fail
      go_ret
      exact ⟨rfl, rfl⟩
  · rw [hR]
    clear hR
    simp only [ge, Bool.not_true, Bool.not_false] at hq
    clear ge
    rcases out_cases a b with ⟨hO, f1, f2⟩ | ⟨hO, f1, f2, f3⟩ | ⟨hO, f1, f2, f3⟩ | ⟨hO, f1, f4⟩ | ⟨hO, f1, f4, f5⟩ | ⟨hO, f1, f4, f5⟩
    all_goals
      rw [hO]
      clear hO
      go_enter Try.func86, Try.ntmps86
      go_wp2_with fail
      go_ret
      exact ⟨rfl, rfl⟩
  · rw [hR]
    clear hR
    simp only [ge, Bool.not_true, Bool.not_false] at hq
    clear ge
    go_enter Try.func86, Try.ntmps86
    go_wp2_with fail
    go_ret
    exact ⟨rfl, rfl⟩
end Go.Proofs.Ytkickllohilciaa
