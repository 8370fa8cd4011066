/- Boxes joined, and the numbers that this needs, in the program and in the reference. Conditions: none. -/
import Derived.Test.YtkickllohilciaaRel
import Derived.Test.YtkickllohilciaaTakeCall
namespace Go.Proofs.Ytkickllohilciaa
open Go Go.RowKit

theorem ret_intJ {a b : Int} (h : a = b) : Ending.returned (.int .i64 a) = .returned (.int .i64 b) := by rw [h]
theorem spec_min_c (a b : Int) (w : World) : Calls Try.prog 88 #[.int .i64 a, .int .i64 b] w fun e w' => e = .returned (.int .i64 (min a b)) ∧ w' = w := by
  by_cases h : a < b
  · go_enter Try.func88, Try.ntmps88
    go_wp2_with fail
    go_ret
    exact ⟨ret_intJ (by omega), rfl⟩
  · go_enter Try.func88, Try.ntmps88
    go_wp2_with fail
    go_ret
    exact ⟨ret_intJ (by omega), rfl⟩
theorem spec_max_c (a b : Int) (w : World) : Calls Try.prog 78 #[.int .i64 a, .int .i64 b] w fun e w' => e = .returned (.int .i64 (max a b)) ∧ w' = w := by
  by_cases h : b < a
  · go_enter Try.func78, Try.ntmps78
    go_wp2_with fail
    go_ret
    exact ⟨ret_intJ (by omega), rfl⟩
  · go_enter Try.func78, Try.ntmps78
    go_wp2_with fail
    go_ret
    exact ⟨ret_intJ (by omega), rfl⟩
theorem spec_size_c (n : Int) (w : World) (hn : -9223372036854775807 ≤ n) : Calls Try.prog 87 #[.int .i64 n] w fun e w' => e = .returned (.int .i64 (absI n)) ∧ w' = w := by
  by_cases h : n < 0
  · have g : IntKind.i64.wrap (-n) = -n ∨ n < -9223372036854775807 ∨ 9223372036854775807 < -n := by
      by_cases h2 : -n ≤ 9223372036854775807
      · exact .inl (IntWalk.i64_in _ (by omega))
      · exact .inr (.inr (by omega))
    have g' : IntKind.i64.wrap (-n) = -n := by rcases g with g | g | g <;> omega
    go_enter Try.func87, Try.ntmps87
    go_wp2_with fail
    go_ret
    exact ⟨ret_intJ (by unfold absI; rw [if_pos (by omega)]), rfl⟩
  · go_enter Try.func87, Try.ntmps87
    go_wp2_with fail
    go_ret
    exact ⟨ret_intJ (by unfold absI; rw [if_neg (by omega)]), rfl⟩
theorem impl_abs_c (n : Int) (w : World) (hn : -9223372036854775807 ≤ n) : Calls Try.prog 90 #[.int .i64 n] w fun e w' => e = .returned (.int .i64 (absI n)) ∧ w' = w := by
  by_cases h : n < 0
  · have g' : IntKind.i64.wrap (-n) = -n := IntWalk.i64_in _ (by omega)
    go_enter Try.func90, Try.ntmps90
    go_wp2_with fail
    go_ret
    exact ⟨ret_intJ (by unfold absI; rw [if_pos (by omega)]), rfl⟩
  · go_enter Try.func90, Try.ntmps90
    go_wp2_with fail
    go_ret
    exact ⟨ret_intJ (by unfold absI; rw [if_neg (by omega)]), rfl⟩
/-- A box as a value. -/
def boxV (b : PBox) : Value := .agg #[.int .i64 b.x1, .int .i64 b.y1, .int .i64 b.x2, .int .i64 b.y2]
set_option maxHeartbeats 400000 in
theorem impl_joinBoxes_c (a b : PBox) (w : World) :
    Calls Try.prog 84 #[.agg #[.int .i64 a.x1, .int .i64 a.y1, .int .i64 a.x2, .int .i64 a.y2], .agg #[.int .i64 b.x1, .int .i64 b.y1, .int .i64 b.x2, .int .i64 b.y2]] w fun e w' => e = .returned (boxV (joinB a b)) ∧ Below w.heap.size w w' := by
  go_enter Try.func84, Try.ntmps84
  go_wp2_with fail
  all_goals refine bodyPost_ret (v := boxV (joinB a b)) (by simp [results, Try.results84, go_sem, boxV, joinB]; omega) rfl ⟨rfl, ?_⟩
  all_goals exact (((Below.refl _ _).alloc (Nat.le_refl _) _).alloc (by simp) _).alloc (by simp; omega) _
set_option maxRecDepth 100000 in
set_option maxHeartbeats 400000 in
theorem spec_l02Join_c (a b : PBox) (w : World) :
    Calls Try.prog 81 #[.agg #[.int .i64 a.x1, .int .i64 a.y1, .int .i64 a.x2, .int .i64 a.y2], .agg #[.int .i64 b.x1, .int .i64 b.y1, .int .i64 b.x2, .int .i64 b.y2]] w fun e w' => e = .returned (boxV (joinB a b)) ∧ Below w.heap.size w w' := by
  go_enter Try.func81, Try.ntmps81
  go_wp2_with fail
  have RA := (((Row.new w 67 #[.int .i64 a.x1, .int .i64 a.y1, .int .i64 a.x2, .int .i64 a.y2]).alloc (.cells #[.int .i64 b.x1, .int .i64 b.y1, .int .i64 b.x2, .int .i64 b.y2] 67)).alloc (.cells #[.int .i64 0, .int .i64 0, .int .i64 0, .int .i64 0] 67)).drew
  have RB := ((Row.new (w.alloc (.cells #[.int .i64 a.x1, .int .i64 a.y1, .int .i64 a.x2, .int .i64 a.y2] 67)) 67 #[.int .i64 b.x1, .int .i64 b.y1, .int .i64 b.x2, .int .i64 b.y2]).alloc (.cells #[.int .i64 0, .int .i64 0, .int .i64 0, .int .i64 0] 67)).drew
  rw [show (w.alloc (.cells #[.int .i64 a.x1, .int .i64 a.y1, .int .i64 a.x2, .int .i64 a.y2] 67)).heap.size = w.heap.size + 1 by simp] at RB
  have hS : (fun w' => w'.cell? ⟨w.heap.size, 0, none⟩ = some (.int .i64 a.x1) ∧ w'.cell? ⟨w.heap.size, 1, none⟩ = some (.int .i64 a.y1) ∧ w'.cell? ⟨w.heap.size, 2, none⟩ = some (.int .i64 a.x2) ∧ w'.cell? ⟨w.heap.size, 3, none⟩ = some (.int .i64 a.y2) ∧ w'.cell? ⟨w.heap.size + 1, 0, none⟩ = some (.int .i64 b.x1) ∧ w'.cell? ⟨w.heap.size + 1, 1, none⟩ = some (.int .i64 b.y1) ∧ w'.cell? ⟨w.heap.size + 1, 2, none⟩ = some (.int .i64 b.x2) ∧ w'.cell? ⟨w.heap.size + 1, 3, none⟩ = some (.int .i64 b.y2)) (((w.alloc (.cells #[.int .i64 a.x1, .int .i64 a.y1, .int .i64 a.x2, .int .i64 a.y2] 67)).alloc (.cells #[.int .i64 b.x1, .int .i64 b.y1, .int .i64 b.x2, .int .i64 b.y2] 67)).alloc (.cells #[.int .i64 0, .int .i64 0, .int .i64 0, .int .i64 0] 67)).drew :=
    ⟨RA.cell' (i := 0) rfl, RA.cell' (i := 1) rfl, RA.cell' (i := 2) rfl, RA.cell' (i := 3) rfl, RB.cell' (i := 0) rfl, RB.cell' (i := 1) rfl, RB.cell' (i := 2) rfl, RB.cell' (i := 3) rfl⟩
  dsimp only at hS
  refine wp_region_held_drew (S := (fun w' => w'.cell? ⟨w.heap.size, 0, none⟩ = some (.int .i64 a.x1) ∧ w'.cell? ⟨w.heap.size, 1, none⟩ = some (.int .i64 a.y1) ∧ w'.cell? ⟨w.heap.size, 2, none⟩ = some (.int .i64 a.x2) ∧ w'.cell? ⟨w.heap.size, 3, none⟩ = some (.int .i64 a.y2) ∧ w'.cell? ⟨w.heap.size + 1, 0, none⟩ = some (.int .i64 b.x1) ∧ w'.cell? ⟨w.heap.size + 1, 1, none⟩ = some (.int .i64 b.y1) ∧ w'.cell? ⟨w.heap.size + 1, 2, none⟩ = some (.int .i64 b.x2) ∧ w'.cell? ⟨w.heap.size + 1, 3, none⟩ = some (.int .i64 b.y2))) (by kernel_rfl) hS (fun _ => ?_)
  refine wpAnyH_take (i := 0) (oi := { dst := some 5, op := Go.Op.fieldAddr 67 (Go.Operand.tmp 2) 0, type := 0, pos := "l02_strokes.go:68", after := #[], guard := none }) (v := ?_) rfl (by kernel_rfl) (by kernel_rfl) (by kernel_rfl) (fun _ _ _ h => h) (Or.inl ⟨rfl, ?_⟩) hS ?_
  rotate_left
  · (intro w' hS'; (try dsimp only at hS'); go_simp; try with_reducible rfl)
  simp only [Act.put, List.setIfInBounds_toArray, List.set_cons_zero, List.set_cons_succ]
  refine wpAnyH_take (i := 1) (oi := { dst := some 6, op := Go.Op.load 2 (Go.Operand.tmp 5), type := 2, pos := "l02_strokes.go:68", after := #[{ on := 0, ground := Go.Ground.data }], guard := none }) (v := ?_) rfl (by kernel_rfl) (by kernel_rfl) (by kernel_rfl) (fun _ _ _ h => h) (Or.inl ⟨rfl, ?_⟩) hS ?_
  rotate_left
  · (intro w' hS'; (try dsimp only at hS'); go_simp; try with_reducible rfl)
  simp only [Act.put, List.setIfInBounds_toArray, List.set_cons_zero, List.set_cons_succ]
  refine wpAnyH_take (i := 2) (oi := { dst := some 7, op := Go.Op.fieldAddr 67 (Go.Operand.tmp 3) 0, type := 0, pos := "l02_strokes.go:68", after := #[], guard := none }) (v := ?_) rfl (by kernel_rfl) (by kernel_rfl) (by kernel_rfl) (fun _ _ _ h => h) (Or.inl ⟨rfl, ?_⟩) hS ?_
  rotate_left
  · (intro w' hS'; (try dsimp only at hS'); go_simp; try with_reducible rfl)
  simp only [Act.put, List.setIfInBounds_toArray, List.set_cons_zero, List.set_cons_succ]
  refine wpAnyH_take (i := 3) (oi := { dst := some 8, op := Go.Op.load 2 (Go.Operand.tmp 7), type := 2, pos := "l02_strokes.go:68", after := #[{ on := 2, ground := Go.Ground.data }], guard := none }) (v := ?_) rfl (by kernel_rfl) (by kernel_rfl) (by kernel_rfl) (fun _ _ _ h => h) (Or.inl ⟨rfl, ?_⟩) hS ?_
  rotate_left
  · (intro w' hS'; (try dsimp only at hS'); go_simp; try with_reducible rfl)
  simp only [Act.put, List.setIfInBounds_toArray, List.set_cons_zero, List.set_cons_succ]
  refine take_call (i := 4) (oi := { dst := some 9, op := Go.Op.call { callee := Go.Callee.value (Go.Operand.func 88), args := #[Go.Operand.tmp 6, Go.Operand.tmp 8], argTypes := #[2, 2] }, type := 2, pos := "l02_strokes.go:68", after := #[{ on := 1, ground := Go.Ground.data }, { on := 3, ground := Go.Ground.data }], guard := none }) rfl (by kernel_rfl) (by kernel_rfl) (by kernel_rfl) (fun _ _ _ h => h) 88 #[Go.Operand.tmp 6, Go.Operand.tmp 8] _ rfl rfl #[.int .i64 a.x1, .int .i64 b.x1] Try.call88 (by go_simp) (spec_min_c _ _) hS ?_
  simp only [Act.put, List.setIfInBounds_toArray, List.set_cons_zero, List.set_cons_succ]
  refine wpAnyH_take (i := 5) (oi := { dst := some 10, op := Go.Op.fieldAddr 67 (Go.Operand.tmp 2) 1, type := 0, pos := "l02_strokes.go:68", after := #[], guard := none }) (v := ?_) rfl (by kernel_rfl) (by kernel_rfl) (by kernel_rfl) (fun _ _ _ h => h) (Or.inl ⟨rfl, ?_⟩) hS ?_
  rotate_left
  · (intro w' hS'; (try dsimp only at hS'); go_simp; try with_reducible rfl)
  simp only [Act.put, List.setIfInBounds_toArray, List.set_cons_zero, List.set_cons_succ]
  refine wpAnyH_take (i := 6) (oi := { dst := some 11, op := Go.Op.load 2 (Go.Operand.tmp 10), type := 2, pos := "l02_strokes.go:68", after := #[{ on := 5, ground := Go.Ground.data }], guard := none }) (v := ?_) rfl (by kernel_rfl) (by kernel_rfl) (by kernel_rfl) (fun _ _ _ h => h) (Or.inl ⟨rfl, ?_⟩) hS ?_
  rotate_left
  · (intro w' hS'; (try dsimp only at hS'); go_simp; try with_reducible rfl)
  simp only [Act.put, List.setIfInBounds_toArray, List.set_cons_zero, List.set_cons_succ]
  refine wpAnyH_take (i := 7) (oi := { dst := some 12, op := Go.Op.fieldAddr 67 (Go.Operand.tmp 3) 1, type := 0, pos := "l02_strokes.go:68", after := #[], guard := none }) (v := ?_) rfl (by kernel_rfl) (by kernel_rfl) (by kernel_rfl) (fun _ _ _ h => h) (Or.inl ⟨rfl, ?_⟩) hS ?_
  rotate_left
  · (intro w' hS'; (try dsimp only at hS'); go_simp; try with_reducible rfl)
  simp only [Act.put, List.setIfInBounds_toArray, List.set_cons_zero, List.set_cons_succ]
  refine wpAnyH_take (i := 8) (oi := { dst := some 13, op := Go.Op.load 2 (Go.Operand.tmp 12), type := 2, pos := "l02_strokes.go:68", after := #[{ on := 7, ground := Go.Ground.data }], guard := none }) (v := ?_) rfl (by kernel_rfl) (by kernel_rfl) (by kernel_rfl) (fun _ _ _ h => h) (Or.inl ⟨rfl, ?_⟩) hS ?_
  rotate_left
  · (intro w' hS'; (try dsimp only at hS'); go_simp; try with_reducible rfl)
  simp only [Act.put, List.setIfInBounds_toArray, List.set_cons_zero, List.set_cons_succ]
  refine take_call (i := 9) (oi := { dst := some 14, op := Go.Op.call { callee := Go.Callee.value (Go.Operand.func 88), args := #[Go.Operand.tmp 11, Go.Operand.tmp 13], argTypes := #[2, 2] }, type := 2, pos := "l02_strokes.go:68", after := #[{ on := 6, ground := Go.Ground.data }, { on := 8, ground := Go.Ground.data }, { on := 4, ground := Go.Ground.chain }], guard := none }) rfl (by kernel_rfl) (by kernel_rfl) (by kernel_rfl) (fun _ _ _ h => h) 88 #[Go.Operand.tmp 11, Go.Operand.tmp 13] _ rfl rfl #[.int .i64 a.y1, .int .i64 b.y1] Try.call88 (by go_simp) (spec_min_c _ _) hS ?_
  simp only [Act.put, List.setIfInBounds_toArray, List.set_cons_zero, List.set_cons_succ]
  refine wpAnyH_take (i := 10) (oi := { dst := some 15, op := Go.Op.fieldAddr 67 (Go.Operand.tmp 2) 2, type := 0, pos := "l02_strokes.go:68", after := #[], guard := none }) (v := ?_) rfl (by kernel_rfl) (by kernel_rfl) (by kernel_rfl) (fun _ _ _ h => h) (Or.inl ⟨rfl, ?_⟩) hS ?_
  rotate_left
  · (intro w' hS'; (try dsimp only at hS'); go_simp; try with_reducible rfl)
  simp only [Act.put, List.setIfInBounds_toArray, List.set_cons_zero, List.set_cons_succ]
  refine wpAnyH_take (i := 11) (oi := { dst := some 16, op := Go.Op.load 2 (Go.Operand.tmp 15), type := 2, pos := "l02_strokes.go:68", after := #[{ on := 10, ground := Go.Ground.data }], guard := none }) (v := ?_) rfl (by kernel_rfl) (by kernel_rfl) (by kernel_rfl) (fun _ _ _ h => h) (Or.inl ⟨rfl, ?_⟩) hS ?_
  rotate_left
  · (intro w' hS'; (try dsimp only at hS'); go_simp; try with_reducible rfl)
  simp only [Act.put, List.setIfInBounds_toArray, List.set_cons_zero, List.set_cons_succ]
  refine wpAnyH_take (i := 12) (oi := { dst := some 17, op := Go.Op.fieldAddr 67 (Go.Operand.tmp 3) 2, type := 0, pos := "l02_strokes.go:68", after := #[], guard := none }) (v := ?_) rfl (by kernel_rfl) (by kernel_rfl) (by kernel_rfl) (fun _ _ _ h => h) (Or.inl ⟨rfl, ?_⟩) hS ?_
  rotate_left
  · (intro w' hS'; (try dsimp only at hS'); go_simp; try with_reducible rfl)
  simp only [Act.put, List.setIfInBounds_toArray, List.set_cons_zero, List.set_cons_succ]
  refine wpAnyH_take (i := 13) (oi := { dst := some 18, op := Go.Op.load 2 (Go.Operand.tmp 17), type := 2, pos := "l02_strokes.go:68", after := #[{ on := 12, ground := Go.Ground.data }], guard := none }) (v := ?_) rfl (by kernel_rfl) (by kernel_rfl) (by kernel_rfl) (fun _ _ _ h => h) (Or.inl ⟨rfl, ?_⟩) hS ?_
  rotate_left
  · (intro w' hS'; (try dsimp only at hS'); go_simp; try with_reducible rfl)
  simp only [Act.put, List.setIfInBounds_toArray, List.set_cons_zero, List.set_cons_succ]
  refine take_call (i := 14) (oi := { dst := some 19, op := Go.Op.call { callee := Go.Callee.value (Go.Operand.func 78), args := #[Go.Operand.tmp 16, Go.Operand.tmp 18], argTypes := #[2, 2] }, type := 2, pos := "l02_strokes.go:68", after := #[{ on := 11, ground := Go.Ground.data }, { on := 13, ground := Go.Ground.data }, { on := 9, ground := Go.Ground.chain }], guard := none }) rfl (by kernel_rfl) (by kernel_rfl) (by kernel_rfl) (fun _ _ _ h => h) 78 #[Go.Operand.tmp 16, Go.Operand.tmp 18] _ rfl rfl #[.int .i64 a.x2, .int .i64 b.x2] Try.call78 (by go_simp) (spec_max_c _ _) hS ?_
  simp only [Act.put, List.setIfInBounds_toArray, List.set_cons_zero, List.set_cons_succ]
  refine wpAnyH_take (i := 15) (oi := { dst := some 20, op := Go.Op.fieldAddr 67 (Go.Operand.tmp 2) 3, type := 0, pos := "l02_strokes.go:68", after := #[], guard := none }) (v := ?_) rfl (by kernel_rfl) (by kernel_rfl) (by kernel_rfl) (fun _ _ _ h => h) (Or.inl ⟨rfl, ?_⟩) hS ?_
  rotate_left
  · (intro w' hS'; (try dsimp only at hS'); go_simp; try with_reducible rfl)
  simp only [Act.put, List.setIfInBounds_toArray, List.set_cons_zero, List.set_cons_succ]
  refine wpAnyH_take (i := 16) (oi := { dst := some 21, op := Go.Op.load 2 (Go.Operand.tmp 20), type := 2, pos := "l02_strokes.go:68", after := #[{ on := 15, ground := Go.Ground.data }], guard := none }) (v := ?_) rfl (by kernel_rfl) (by kernel_rfl) (by kernel_rfl) (fun _ _ _ h => h) (Or.inl ⟨rfl, ?_⟩) hS ?_
  rotate_left
  · (intro w' hS'; (try dsimp only at hS'); go_simp; try with_reducible rfl)
  simp only [Act.put, List.setIfInBounds_toArray, List.set_cons_zero, List.set_cons_succ]
  refine wpAnyH_take (i := 17) (oi := { dst := some 22, op := Go.Op.fieldAddr 67 (Go.Operand.tmp 3) 3, type := 0, pos := "l02_strokes.go:68", after := #[], guard := none }) (v := ?_) rfl (by kernel_rfl) (by kernel_rfl) (by kernel_rfl) (fun _ _ _ h => h) (Or.inl ⟨rfl, ?_⟩) hS ?_
  rotate_left
  · (intro w' hS'; (try dsimp only at hS'); go_simp; try with_reducible rfl)
  simp only [Act.put, List.setIfInBounds_toArray, List.set_cons_zero, List.set_cons_succ]
  refine wpAnyH_take (i := 18) (oi := { dst := some 23, op := Go.Op.load 2 (Go.Operand.tmp 22), type := 2, pos := "l02_strokes.go:68", after := #[{ on := 17, ground := Go.Ground.data }], guard := none }) (v := ?_) rfl (by kernel_rfl) (by kernel_rfl) (by kernel_rfl) (fun _ _ _ h => h) (Or.inl ⟨rfl, ?_⟩) hS ?_
  rotate_left
  · (intro w' hS'; (try dsimp only at hS'); go_simp; try with_reducible rfl)
  simp only [Act.put, List.setIfInBounds_toArray, List.set_cons_zero, List.set_cons_succ]
  refine take_call (i := 19) (oi := { dst := some 24, op := Go.Op.call { callee := Go.Callee.value (Go.Operand.func 78), args := #[Go.Operand.tmp 21, Go.Operand.tmp 23], argTypes := #[2, 2] }, type := 2, pos := "l02_strokes.go:68", after := #[{ on := 16, ground := Go.Ground.data }, { on := 18, ground := Go.Ground.data }, { on := 14, ground := Go.Ground.chain }], guard := none }) rfl (by kernel_rfl) (by kernel_rfl) (by kernel_rfl) (fun _ _ _ h => h) 78 #[Go.Operand.tmp 21, Go.Operand.tmp 23] _ rfl rfl #[.int .i64 a.y2, .int .i64 b.y2] Try.call78 (by go_simp) (spec_max_c _ _) hS ?_
  simp only [Act.put, List.setIfInBounds_toArray, List.set_cons_zero, List.set_cons_succ]
  refine wpAnyH_take (i := 20) (oi := { dst := some 25, op := Go.Op.build 67 #[(0, Go.Operand.tmp 9), (1, Go.Operand.tmp 14), (2, Go.Operand.tmp 19), (3, Go.Operand.tmp 24)], type := 67, pos := "l02_strokes.go:68", after := #[{ on := 4, ground := Go.Ground.data }, { on := 9, ground := Go.Ground.data }, { on := 14, ground := Go.Ground.data }, { on := 19, ground := Go.Ground.data }], guard := none }) (v := ?_) rfl (by kernel_rfl) (by kernel_rfl) (by kernel_rfl) (fun _ _ _ h => h) (Or.inl ⟨rfl, ?_⟩) hS ?_
  rotate_left
  · (intro w' hS'; (try dsimp only at hS'); go_simp; try with_reducible rfl)
  simp only [Act.put, List.setIfInBounds_toArray, List.set_cons_zero, List.set_cons_succ]
  refine wpAnyH_ready (rs := [21]) (by kernel_rfl) (by simp) ?_
  refine AllReadyH.cons (o := { dst := none, op := Go.Op.store 67 (Go.Operand.tmp 4) (Go.Operand.tmp 25), type := 0, pos := "l02_strokes.go:68", after := #[{ on := 20, ground := Go.Ground.data }, { on := 19, ground := Go.Ground.chain }, { on := 0, ground := Go.Ground.phase }, { on := 1, ground := Go.Ground.phase }, { on := 2, ground := Go.Ground.phase }, { on := 3, ground := Go.Ground.phase }, { on := 4, ground := Go.Ground.phase }, { on := 5, ground := Go.Ground.phase }, { on := 6, ground := Go.Ground.phase }, { on := 7, ground := Go.Ground.phase }, { on := 8, ground := Go.Ground.phase }, { on := 9, ground := Go.Ground.phase }, { on := 10, ground := Go.Ground.phase }, { on := 11, ground := Go.Ground.phase }, { on := 12, ground := Go.Ground.phase }, { on := 13, ground := Go.Ground.phase }, { on := 14, ground := Go.Ground.phase }, { on := 15, ground := Go.Ground.phase }, { on := 16, ground := Go.Ground.phase }, { on := 17, ground := Go.Ground.phase }, { on := 18, ground := Go.Ground.phase }, { on := 19, ground := Go.Ground.phase }, { on := 20, ground := Go.Ground.phase }], guard := none }) rfl (fun K hK => ?_) .nil
  go_simp
  have RA2 := (((Row.new w 67 #[.int .i64 a.x1, .int .i64 a.y1, .int .i64 a.x2, .int .i64 a.y2]).alloc (.cells #[.int .i64 b.x1, .int .i64 b.y1, .int .i64 b.x2, .int .i64 b.y2] 67)).alloc (.cells #[.int .i64 (min a.x1 b.x1), .int .i64 (min a.y1 b.y1), .int .i64 (max a.x2 b.x2), .int .i64 (max a.y2 b.y2)] 67)).drew
  have RB2 := ((Row.new (w.alloc (.cells #[.int .i64 a.x1, .int .i64 a.y1, .int .i64 a.x2, .int .i64 a.y2] 67)) 67 #[.int .i64 b.x1, .int .i64 b.y1, .int .i64 b.x2, .int .i64 b.y2]).alloc (.cells #[.int .i64 (min a.x1 b.x1), .int .i64 (min a.y1 b.y1), .int .i64 (max a.x2 b.x2), .int .i64 (max a.y2 b.y2)] 67)).drew
  rw [show (w.alloc (.cells #[.int .i64 a.x1, .int .i64 a.y1, .int .i64 a.x2, .int .i64 a.y2] 67)).heap.size = w.heap.size + 1 by simp] at RB2
  refine hK.out _ _ ?_ (fun _ => ?_)
  · exact ⟨RA2.cell' (i := 0) rfl, RA2.cell' (i := 1) rfl, RA2.cell' (i := 2) rfl, RA2.cell' (i := 3) rfl, RB2.cell' (i := 0) rfl, RB2.cell' (i := 1) rfl, RB2.cell' (i := 2) rfl, RB2.cell' (i := 3) rfl⟩
  clear hK K
  refine wpAnyH_done (by kernel_rfl) ?_ _
  go_wp2_with fail
  refine bodyPost_ret (v := boxV (joinB a b)) (by simp [results, Try.results81, go_sem, boxV, joinB]) rfl ⟨rfl, ?_⟩
  exact ((((Below.refl _ _).alloc (Nat.le_refl _) _).alloc (by simp) _).alloc (by simp; omega) _).drew
end Go.Proofs.Ytkickllohilciaa
