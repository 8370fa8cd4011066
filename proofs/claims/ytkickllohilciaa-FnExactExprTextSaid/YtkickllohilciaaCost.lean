/- What it costs to join two boxes, in the program. Conditions: none. -/
import Derived.Test.YtkickllohilciaaJoin
namespace Go.Proofs.Ytkickllohilciaa
open Go Go.RowKit

theorem and12 {p1 p2 p3 p4 p5 p6 p7 p8 p9 p10 p11 p12 : Prop} (h1 : p1) (h2 : p2) (h3 : p3) (h4 : p4) (h5 : p5) (h6 : p6) (h7 : p7) (h8 : p8) (h9 : p9) (h10 : p10) (h11 : p11) (h12 : p12) : p1 ∧ p2 ∧ p3 ∧ p4 ∧ p5 ∧ p6 ∧ p7 ∧ p8 ∧ p9 ∧ p10 ∧ p11 ∧ p12 := ⟨h1, h2, h3, h4, h5, h6, h7, h8, h9, h10, h11, h12⟩
theorem three_boxes (w : World) (a b s : PBox) : Row (((w.alloc (.cells #[.int .i64 a.x1, .int .i64 a.y1, .int .i64 a.x2, .int .i64 a.y2] 67)).alloc (.cells #[.int .i64 b.x1, .int .i64 b.y1, .int .i64 b.x2, .int .i64 b.y2] 67)).alloc (.cells #[.int .i64 s.x1, .int .i64 s.y1, .int .i64 s.x2, .int .i64 s.y2] 67)) w.heap.size 67 (#[.int .i64 a.x1, .int .i64 a.y1, .int .i64 a.x2, .int .i64 a.y2]).toList ∧ Row (((w.alloc (.cells #[.int .i64 a.x1, .int .i64 a.y1, .int .i64 a.x2, .int .i64 a.y2] 67)).alloc (.cells #[.int .i64 b.x1, .int .i64 b.y1, .int .i64 b.x2, .int .i64 b.y2] 67)).alloc (.cells #[.int .i64 s.x1, .int .i64 s.y1, .int .i64 s.x2, .int .i64 s.y2] 67)) (w.heap.size + 1) 67 (#[.int .i64 b.x1, .int .i64 b.y1, .int .i64 b.x2, .int .i64 b.y2]).toList ∧ Row (((w.alloc (.cells #[.int .i64 a.x1, .int .i64 a.y1, .int .i64 a.x2, .int .i64 a.y2] 67)).alloc (.cells #[.int .i64 b.x1, .int .i64 b.y1, .int .i64 b.x2, .int .i64 b.y2] 67)).alloc (.cells #[.int .i64 s.x1, .int .i64 s.y1, .int .i64 s.x2, .int .i64 s.y2] 67)) (w.heap.size + 1 + 1) 67 (#[.int .i64 s.x1, .int .i64 s.y1, .int .i64 s.x2, .int .i64 s.y2]).toList := by
  refine ⟨((Row.new w _ _).alloc _).alloc _, ?_, ?_⟩
  · have := (Row.new (w.alloc (.cells #[.int .i64 a.x1, .int .i64 a.y1, .int .i64 a.x2, .int .i64 a.y2] 67)) 67 #[.int .i64 b.x1, .int .i64 b.y1, .int .i64 b.x2, .int .i64 b.y2]).alloc (.cells #[.int .i64 s.x1, .int .i64 s.y1, .int .i64 s.x2, .int .i64 s.y2] 67)
    simpa using this
  · have := Row.new ((w.alloc (.cells #[.int .i64 a.x1, .int .i64 a.y1, .int .i64 a.x2, .int .i64 a.y2] 67)).alloc (.cells #[.int .i64 b.x1, .int .i64 b.y1, .int .i64 b.x2, .int .i64 b.y2] 67)) 67 #[.int .i64 s.x1, .int .i64 s.y1, .int .i64 s.x2, .int .i64 s.y2]
    simpa using this
theorem absI_le {n m : Int} (h : -m ≤ n ∧ n ≤ m) : 0 ≤ absI n ∧ absI n ≤ m := by
  unfold absI; split <;> omega
theorem ret_pair {a b : Int} {c d : Bool} (h : a = b) (h' : c = d) : Ending.returned (.tuple #[.int .i64 a, .bool c]) = .returned (.tuple #[.int .i64 b, .bool d]) := by rw [h, h']
set_option maxRecDepth 100000 in
set_option maxHeartbeats 4000000 in
theorem impl_joinCost_c (kind : Int) (a b s : PBox) (w : World) (ha : boxIn a) (hb : boxIn b) (hs : boxIn s) :
    Calls Try.prog 85 #[.int .i64 kind, .agg #[.int .i64 a.x1, .int .i64 a.y1, .int .i64 a.x2, .int .i64 a.y2], .agg #[.int .i64 b.x1, .int .i64 b.y1, .int .i64 b.x2, .int .i64 b.y2], .agg #[.int .i64 s.x1, .int .i64 s.y1, .int .i64 s.x2, .int .i64 s.y2]] w fun e w' => e = .returned (.tuple #[.int .i64 (ownF kind a b s), .bool (fitsF kind a b s)]) ∧ Below w.heap.size w w' := by
  have ha' := ha
  have hb' := hb
  have hs' := hs
  unfold boxIn at ha' hb' hs'
  by_cases k1 : kind = 1
  · subst k1
    have e1 : IntKind.i64.wrap (a.y1 + a.y2) = a.y1 + a.y2 := IntWalk.i64_in _ (by omega)
    have e2 : IntKind.i64.wrap (a.y1 + a.y2 - b.y1) = a.y1 + a.y2 - b.y1 := IntWalk.i64_in _ (by omega)
    have e3 : IntKind.i64.wrap (a.y1 + a.y2 - b.y1 - b.y2) = a.y1 + a.y2 - b.y1 - b.y2 := IntWalk.i64_in _ (by omega)
    have e4 : IntKind.i64.wrap (b.x1 - a.x2) = b.x1 - a.x2 := IntWalk.i64_in _ (by omega)
    have h1 := absI_le (n := a.y1 + a.y2 - b.y1 - b.y2) (m := 9000) (by omega)
    have e5 : IntKind.i64.wrap (absI (a.y1 + a.y2 - b.y1 - b.y2)) = absI (a.y1 + a.y2 - b.y1 - b.y2) := IntWalk.i64_in _ (by omega)
    have e6 : IntKind.i64.wrap (absI (a.y1 + a.y2 - b.y1 - b.y2) + (b.x1 - a.x2)) = absI (a.y1 + a.y2 - b.y1 - b.y2) + (b.x1 - a.x2) := IntWalk.i64_in _ (by omega)
    by_cases hx : b.x1 - a.x2 < 0
    · go_enter Try.func85, Try.ntmps85
      go_wp2_with fail
      obtain ⟨Ra, Rb, Rs⟩ := three_boxes w a b s
      replace Ra := Ra.drew
      replace Rb := Rb.drew
      replace Rs := Rs.drew
      have hS : (fun w' => w'.cell? ⟨w.heap.size, 0, none⟩ = some (.int .i64 a.x1) ∧ w'.cell? ⟨w.heap.size, 1, none⟩ = some (.int .i64 a.y1) ∧ w'.cell? ⟨w.heap.size, 2, none⟩ = some (.int .i64 a.x2) ∧ w'.cell? ⟨w.heap.size, 3, none⟩ = some (.int .i64 a.y2) ∧ w'.cell? ⟨w.heap.size + 1, 0, none⟩ = some (.int .i64 b.x1) ∧ w'.cell? ⟨w.heap.size + 1, 1, none⟩ = some (.int .i64 b.y1) ∧ w'.cell? ⟨w.heap.size + 1, 2, none⟩ = some (.int .i64 b.x2) ∧ w'.cell? ⟨w.heap.size + 1, 3, none⟩ = some (.int .i64 b.y2) ∧ w'.cell? ⟨w.heap.size + 1 + 1, 0, none⟩ = some (.int .i64 s.x1) ∧ w'.cell? ⟨w.heap.size + 1 + 1, 1, none⟩ = some (.int .i64 s.y1) ∧ w'.cell? ⟨w.heap.size + 1 + 1, 2, none⟩ = some (.int .i64 s.x2) ∧ w'.cell? ⟨w.heap.size + 1 + 1, 3, none⟩ = some (.int .i64 s.y2)) (((w.alloc (.cells #[.int .i64 a.x1, .int .i64 a.y1, .int .i64 a.x2, .int .i64 a.y2] 67)).alloc (.cells #[.int .i64 b.x1, .int .i64 b.y1, .int .i64 b.x2, .int .i64 b.y2] 67)).alloc (.cells #[.int .i64 s.x1, .int .i64 s.y1, .int .i64 s.x2, .int .i64 s.y2] 67)).drew := ⟨Ra.cell' (i := 0) rfl, Ra.cell' (i := 1) rfl, Ra.cell' (i := 2) rfl, Ra.cell' (i := 3) rfl, Rb.cell' (i := 0) rfl, Rb.cell' (i := 1) rfl, Rb.cell' (i := 2) rfl, Rb.cell' (i := 3) rfl, Rs.cell' (i := 0) rfl, Rs.cell' (i := 1) rfl, Rs.cell' (i := 2) rfl, Rs.cell' (i := 3) rfl⟩
      dsimp only at hS
      have al : Below w.heap.size w (((w.alloc (.cells #[.int .i64 a.x1, .int .i64 a.y1, .int .i64 a.x2, .int .i64 a.y2] 67)).alloc (.cells #[.int .i64 b.x1, .int .i64 b.y1, .int .i64 b.x2, .int .i64 b.y2] 67)).alloc (.cells #[.int .i64 s.x1, .int .i64 s.y1, .int .i64 s.x2, .int .i64 s.y2] 67)).drew := ((((Below.refl _ _).alloc (Nat.le_refl _) _).alloc (by simp) _).alloc (by simp; omega) _).drew
      refine wp_region_held_drew (S := (fun w' => w'.cell? ⟨w.heap.size, 0, none⟩ = some (.int .i64 a.x1) ∧ w'.cell? ⟨w.heap.size, 1, none⟩ = some (.int .i64 a.y1) ∧ w'.cell? ⟨w.heap.size, 2, none⟩ = some (.int .i64 a.x2) ∧ w'.cell? ⟨w.heap.size, 3, none⟩ = some (.int .i64 a.y2) ∧ w'.cell? ⟨w.heap.size + 1, 0, none⟩ = some (.int .i64 b.x1) ∧ w'.cell? ⟨w.heap.size + 1, 1, none⟩ = some (.int .i64 b.y1) ∧ w'.cell? ⟨w.heap.size + 1, 2, none⟩ = some (.int .i64 b.x2) ∧ w'.cell? ⟨w.heap.size + 1, 3, none⟩ = some (.int .i64 b.y2) ∧ w'.cell? ⟨w.heap.size + 1 + 1, 0, none⟩ = some (.int .i64 s.x1) ∧ w'.cell? ⟨w.heap.size + 1 + 1, 1, none⟩ = some (.int .i64 s.y1) ∧ w'.cell? ⟨w.heap.size + 1 + 1, 2, none⟩ = some (.int .i64 s.x2) ∧ w'.cell? ⟨w.heap.size + 1 + 1, 3, none⟩ = some (.int .i64 s.y2))) (by kernel_rfl) hS (fun _ => ?_)
      refine wpAnyH_take (i := 0) (oi := { dst := some 13, op := Go.Op.fieldAddr 67 (Go.Operand.tmp 5) 1, type := 0, pos := "l21_parse.go:46", after := #[], guard := none }) (v := ?_) rfl (by kernel_rfl) (by kernel_rfl) (by kernel_rfl) (fun _ _ _ h => h) (Or.inl ⟨rfl, ?_⟩) hS ?_
      rotate_left
      · (intro w' hS'; (try dsimp only at hS'); go_simp; try with_reducible rfl)
      simp only [Act.put, List.setIfInBounds_toArray, List.set_cons_zero, List.set_cons_succ]
      refine wpAnyH_take (i := 1) (oi := { dst := some 14, op := Go.Op.load 2 (Go.Operand.tmp 13), type := 2, pos := "l21_parse.go:46", after := #[{ on := 0, ground := Go.Ground.data }], guard := none }) (v := ?_) rfl (by kernel_rfl) (by kernel_rfl) (by kernel_rfl) (fun _ _ _ h => h) (Or.inl ⟨rfl, ?_⟩) hS ?_
      rotate_left
      · (intro w' hS'; (try dsimp only at hS'); go_simp; try with_reducible rfl)
      simp only [Act.put, List.setIfInBounds_toArray, List.set_cons_zero, List.set_cons_succ]
      refine wpAnyH_take (i := 2) (oi := { dst := some 15, op := Go.Op.fieldAddr 67 (Go.Operand.tmp 5) 3, type := 0, pos := "l21_parse.go:46", after := #[], guard := none }) (v := ?_) rfl (by kernel_rfl) (by kernel_rfl) (by kernel_rfl) (fun _ _ _ h => h) (Or.inl ⟨rfl, ?_⟩) hS ?_
      rotate_left
      · (intro w' hS'; (try dsimp only at hS'); go_simp; try with_reducible rfl)
      simp only [Act.put, List.setIfInBounds_toArray, List.set_cons_zero, List.set_cons_succ]
      refine wpAnyH_take (i := 3) (oi := { dst := some 16, op := Go.Op.load 2 (Go.Operand.tmp 15), type := 2, pos := "l21_parse.go:46", after := #[{ on := 2, ground := Go.Ground.data }], guard := none }) (v := ?_) rfl (by kernel_rfl) (by kernel_rfl) (by kernel_rfl) (fun _ _ _ h => h) (Or.inl ⟨rfl, ?_⟩) hS ?_
      rotate_left
      · (intro w' hS'; (try dsimp only at hS'); go_simp; try with_reducible rfl)
      simp only [Act.put, List.setIfInBounds_toArray, List.set_cons_zero, List.set_cons_succ]
      refine wpAnyH_take (i := 4) (oi := { dst := some 17, op := Go.Op.binOp Go.BinOp.add 2 (Go.Operand.tmp 14) (Go.Operand.tmp 16) 2, type := 2, pos := "l21_parse.go:46", after := #[{ on := 1, ground := Go.Ground.data }, { on := 3, ground := Go.Ground.data }], guard := none }) (v := ?_) rfl (by kernel_rfl) (by kernel_rfl) (by kernel_rfl) (fun _ _ _ h => h) (Or.inl ⟨rfl, ?_⟩) hS ?_
      rotate_left
      · (intro w' hS'; (try dsimp only at hS'); go_simp; try with_reducible rfl)
      simp only [Act.put, List.setIfInBounds_toArray, List.set_cons_zero, List.set_cons_succ]
      refine wpAnyH_take (i := 5) (oi := { dst := some 18, op := Go.Op.fieldAddr 67 (Go.Operand.tmp 6) 1, type := 0, pos := "l21_parse.go:46", after := #[], guard := none }) (v := ?_) rfl (by kernel_rfl) (by kernel_rfl) (by kernel_rfl) (fun _ _ _ h => h) (Or.inl ⟨rfl, ?_⟩) hS ?_
      rotate_left
      · (intro w' hS'; (try dsimp only at hS'); go_simp; try with_reducible rfl)
      simp only [Act.put, List.setIfInBounds_toArray, List.set_cons_zero, List.set_cons_succ]
      refine wpAnyH_take (i := 6) (oi := { dst := some 19, op := Go.Op.load 2 (Go.Operand.tmp 18), type := 2, pos := "l21_parse.go:46", after := #[{ on := 5, ground := Go.Ground.data }], guard := none }) (v := ?_) rfl (by kernel_rfl) (by kernel_rfl) (by kernel_rfl) (fun _ _ _ h => h) (Or.inl ⟨rfl, ?_⟩) hS ?_
      rotate_left
      · (intro w' hS'; (try dsimp only at hS'); go_simp; try with_reducible rfl)
      simp only [Act.put, List.setIfInBounds_toArray, List.set_cons_zero, List.set_cons_succ]
      refine wpAnyH_take (i := 7) (oi := { dst := some 20, op := Go.Op.binOp Go.BinOp.sub 2 (Go.Operand.tmp 17) (Go.Operand.tmp 19) 2, type := 2, pos := "l21_parse.go:46", after := #[{ on := 4, ground := Go.Ground.data }, { on := 6, ground := Go.Ground.data }], guard := none }) (v := ?_) rfl (by kernel_rfl) (by kernel_rfl) (by kernel_rfl) (fun _ _ _ h => h) (Or.inl ⟨rfl, ?_⟩) hS ?_
      rotate_left
      · (intro w' hS'; (try dsimp only at hS'); go_simp; try with_reducible rfl)
      simp only [Act.put, List.setIfInBounds_toArray, List.set_cons_zero, List.set_cons_succ]
      refine wpAnyH_take (i := 8) (oi := { dst := some 21, op := Go.Op.fieldAddr 67 (Go.Operand.tmp 6) 3, type := 0, pos := "l21_parse.go:46", after := #[], guard := none }) (v := ?_) rfl (by kernel_rfl) (by kernel_rfl) (by kernel_rfl) (fun _ _ _ h => h) (Or.inl ⟨rfl, ?_⟩) hS ?_
      rotate_left
      · (intro w' hS'; (try dsimp only at hS'); go_simp; try with_reducible rfl)
      simp only [Act.put, List.setIfInBounds_toArray, List.set_cons_zero, List.set_cons_succ]
      refine wpAnyH_take (i := 9) (oi := { dst := some 22, op := Go.Op.load 2 (Go.Operand.tmp 21), type := 2, pos := "l21_parse.go:46", after := #[{ on := 8, ground := Go.Ground.data }], guard := none }) (v := ?_) rfl (by kernel_rfl) (by kernel_rfl) (by kernel_rfl) (fun _ _ _ h => h) (Or.inl ⟨rfl, ?_⟩) hS ?_
      rotate_left
      · (intro w' hS'; (try dsimp only at hS'); go_simp; try with_reducible rfl)
      simp only [Act.put, List.setIfInBounds_toArray, List.set_cons_zero, List.set_cons_succ]
      refine wpAnyH_take (i := 10) (oi := { dst := some 23, op := Go.Op.binOp Go.BinOp.sub 2 (Go.Operand.tmp 20) (Go.Operand.tmp 22) 2, type := 2, pos := "l21_parse.go:46", after := #[{ on := 7, ground := Go.Ground.data }, { on := 9, ground := Go.Ground.data }], guard := none }) (v := ?_) rfl (by kernel_rfl) (by kernel_rfl) (by kernel_rfl) (fun _ _ _ h => h) (Or.inl ⟨rfl, ?_⟩) hS ?_
      rotate_left
      · (intro w' hS'; (try dsimp only at hS'); go_simp; try with_reducible rfl)
      simp only [Act.put, List.setIfInBounds_toArray, List.set_cons_zero, List.set_cons_succ]
      refine take_call (i := 11) (oi := { dst := some 24, op := Go.Op.call { callee := Go.Callee.value (Go.Operand.func 90), args := #[Go.Operand.tmp 23], argTypes := #[2] }, type := 2, pos := "l21_parse.go:46", after := #[{ on := 10, ground := Go.Ground.data }], guard := none }) rfl (by kernel_rfl) (by kernel_rfl) (by kernel_rfl) (fun _ _ _ h => h) 90 #[Go.Operand.tmp 23] _ rfl rfl #[.int .i64 (a.y1 + a.y2 - b.y1 - b.y2)] Try.call90 (by go_simp) (fun w => impl_abs_c _ w (by omega)) hS ?_
      simp only [Act.put, List.setIfInBounds_toArray, List.set_cons_zero, List.set_cons_succ]
      refine wpAnyH_take (i := 12) (oi := { dst := some 25, op := Go.Op.fieldAddr 67 (Go.Operand.tmp 6) 0, type := 0, pos := "l21_parse.go:46", after := #[], guard := none }) (v := ?_) rfl (by kernel_rfl) (by kernel_rfl) (by kernel_rfl) (fun _ _ _ h => h) (Or.inl ⟨rfl, ?_⟩) hS ?_
      rotate_left
      · (intro w' hS'; (try dsimp only at hS'); go_simp; try with_reducible rfl)
      simp only [Act.put, List.setIfInBounds_toArray, List.set_cons_zero, List.set_cons_succ]
      refine wpAnyH_take (i := 13) (oi := { dst := some 26, op := Go.Op.load 2 (Go.Operand.tmp 25), type := 2, pos := "l21_parse.go:46", after := #[{ on := 12, ground := Go.Ground.data }], guard := none }) (v := ?_) rfl (by kernel_rfl) (by kernel_rfl) (by kernel_rfl) (fun _ _ _ h => h) (Or.inl ⟨rfl, ?_⟩) hS ?_
      rotate_left
      · (intro w' hS'; (try dsimp only at hS'); go_simp; try with_reducible rfl)
      simp only [Act.put, List.setIfInBounds_toArray, List.set_cons_zero, List.set_cons_succ]
      refine wpAnyH_take (i := 14) (oi := { dst := some 27, op := Go.Op.fieldAddr 67 (Go.Operand.tmp 5) 2, type := 0, pos := "l21_parse.go:46", after := #[], guard := none }) (v := ?_) rfl (by kernel_rfl) (by kernel_rfl) (by kernel_rfl) (fun _ _ _ h => h) (Or.inl ⟨rfl, ?_⟩) hS ?_
      rotate_left
      · (intro w' hS'; (try dsimp only at hS'); go_simp; try with_reducible rfl)
      simp only [Act.put, List.setIfInBounds_toArray, List.set_cons_zero, List.set_cons_succ]
      refine wpAnyH_take (i := 15) (oi := { dst := some 28, op := Go.Op.load 2 (Go.Operand.tmp 27), type := 2, pos := "l21_parse.go:46", after := #[{ on := 14, ground := Go.Ground.data }], guard := none }) (v := ?_) rfl (by kernel_rfl) (by kernel_rfl) (by kernel_rfl) (fun _ _ _ h => h) (Or.inl ⟨rfl, ?_⟩) hS ?_
      rotate_left
      · (intro w' hS'; (try dsimp only at hS'); go_simp; try with_reducible rfl)
      simp only [Act.put, List.setIfInBounds_toArray, List.set_cons_zero, List.set_cons_succ]
      refine wpAnyH_take (i := 16) (oi := { dst := some 29, op := Go.Op.binOp Go.BinOp.sub 2 (Go.Operand.tmp 26) (Go.Operand.tmp 28) 2, type := 2, pos := "l21_parse.go:46", after := #[{ on := 13, ground := Go.Ground.data }, { on := 15, ground := Go.Ground.data }], guard := none }) (v := ?_) rfl (by kernel_rfl) (by kernel_rfl) (by kernel_rfl) (fun _ _ _ h => h) (Or.inl ⟨rfl, ?_⟩) hS ?_
      rotate_left
      · (intro w' hS'; (try dsimp only at hS'); go_simp; try with_reducible rfl)
      simp only [Act.put, List.setIfInBounds_toArray, List.set_cons_zero, List.set_cons_succ]
      refine wpAnyH_take (i := 17) (oi := { dst := some 30, op := Go.Op.call { callee := Go.Callee.builtin Go.Builtin.max, args := #[Go.Operand.tmp 29, Go.Operand.const (Go.Value.int Go.IntKind.i64 0)], argTypes := #[2, 2] }, type := 2, pos := "l21_parse.go:46", after := #[{ on := 16, ground := Go.Ground.data }], guard := none }) (v := ?_) rfl (by kernel_rfl) (by kernel_rfl) (by kernel_rfl) (fun _ _ _ h => h) (Or.inl ⟨rfl, ?_⟩) hS ?_
      rotate_left
      · (intro w' hS'; (try dsimp only at hS'); go_simp; try with_reducible rfl)
      simp only [Act.put, List.setIfInBounds_toArray, List.set_cons_zero, List.set_cons_succ]
      refine wpAnyH_take (i := 18) (oi := { dst := some 31, op := Go.Op.binOp Go.BinOp.add 2 (Go.Operand.tmp 24) (Go.Operand.tmp 30) 2, type := 2, pos := "l21_parse.go:46", after := #[{ on := 11, ground := Go.Ground.data }, { on := 17, ground := Go.Ground.data }], guard := none }) (v := ?_) rfl (by kernel_rfl) (by kernel_rfl) (by kernel_rfl) (fun _ _ _ h => h) (Or.inl ⟨rfl, ?_⟩) hS ?_
      rotate_left
      · (intro w' hS'; (try dsimp only at hS'); go_simp; try with_reducible rfl)
      simp only [Act.put, List.setIfInBounds_toArray, List.set_cons_zero, List.set_cons_succ]
      refine wpAnyH_take (i := 19) (oi := { dst := some 32, op := Go.Op.load 67 (Go.Operand.tmp 5), type := 67, pos := "l21_parse.go:46", after := #[], guard := none }) (v := ?_) rfl (by kernel_rfl) (by kernel_rfl) (by kernel_rfl) (fun _ _ _ h => h) (Or.inl ⟨rfl, ?_⟩) hS ?_
      rotate_left
      · (intro w' hS'; (try dsimp only at hS'); go_simp; try with_reducible rfl)
      simp only [Act.put, List.setIfInBounds_toArray, List.set_cons_zero, List.set_cons_succ]
      refine wpAnyH_take (i := 20) (oi := { dst := some 33, op := Go.Op.load 67 (Go.Operand.tmp 6), type := 67, pos := "l21_parse.go:46", after := #[], guard := none }) (v := ?_) rfl (by kernel_rfl) (by kernel_rfl) (by kernel_rfl) (fun _ _ _ h => h) (Or.inl ⟨rfl, ?_⟩) hS ?_
      rotate_left
      · (intro w' hS'; (try dsimp only at hS'); go_simp; try with_reducible rfl)
      simp only [Act.put, List.setIfInBounds_toArray, List.set_cons_zero, List.set_cons_succ]
      refine wpAnyH_ready (rs := [21]) (by kernel_rfl) (by simp) ?_
      refine AllReadyH.cons (o := { dst := some 34, op := Go.Op.call { callee := Go.Callee.value (Go.Operand.func 91), args := #[Go.Operand.tmp 32, Go.Operand.tmp 33], argTypes := #[67, 67] }, type := 2, pos := "l21_parse.go:46", after := #[{ on := 19, ground := Go.Ground.data }, { on := 20, ground := Go.Ground.data }, { on := 11, ground := Go.Ground.chain }], guard := none }) rfl (fun K hK => ?_) .nil
      refine step_call 91 #[Go.Operand.tmp 32, Go.Operand.tmp 33] _ rfl rfl #[.agg #[.int .i64 a.x1, .int .i64 a.y1, .int .i64 a.x2, .int .i64 a.y2], .agg #[.int .i64 b.x1, .int .i64 b.y1, .int .i64 b.x2, .int .i64 b.y2]] Try.call91 (by go_simp) (impl_relation_c a b _ ha hb) ?_
      rintro e w1 ⟨rfl, rfl⟩
      refine ⟨_, rfl, ?_⟩
      replace Ra := (Ra.alloc (.cells #[.int .i64 a.x1, .int .i64 a.y1, .int .i64 a.x2, .int .i64 a.y2] 67)).alloc (.cells #[.int .i64 b.x1, .int .i64 b.y1, .int .i64 b.x2, .int .i64 b.y2] 67)
      replace Rb := (Rb.alloc (.cells #[.int .i64 a.x1, .int .i64 a.y1, .int .i64 a.x2, .int .i64 a.y2] 67)).alloc (.cells #[.int .i64 b.x1, .int .i64 b.y1, .int .i64 b.x2, .int .i64 b.y2] 67)
      replace Rs := (Rs.alloc (.cells #[.int .i64 a.x1, .int .i64 a.y1, .int .i64 a.x2, .int .i64 a.y2] 67)).alloc (.cells #[.int .i64 b.x1, .int .i64 b.y1, .int .i64 b.x2, .int .i64 b.y2] 67)
      replace hS := and12 (Ra.cell' (i := 0) rfl) (Ra.cell' (i := 1) rfl) (Ra.cell' (i := 2) rfl) (Ra.cell' (i := 3) rfl) (Rb.cell' (i := 0) rfl) (Rb.cell' (i := 1) rfl) (Rb.cell' (i := 2) rfl) (Rb.cell' (i := 3) rfl) (Rs.cell' (i := 0) rfl) (Rs.cell' (i := 1) rfl) (Rs.cell' (i := 2) rfl) (Rs.cell' (i := 3) rfl)
      refine hK.out _ _ ?_ (fun hHeld => ?_)
      · exact hS
      clear hK K hHeld
      simp only [Act.put, List.setIfInBounds_toArray, List.set_cons_zero, List.set_cons_succ]
      refine wpAnyH_take (i := 22) (oi := { dst := some 35, op := Go.Op.binOp Go.BinOp.eql 2 (Go.Operand.tmp 34) (Go.Operand.const (Go.Value.int Go.IntKind.i64 1)) 2, type := 4, pos := "l21_parse.go:46", after := #[{ on := 21, ground := Go.Ground.data }, { on := 23, ground := Go.Ground.gcOnly Go.Departure.lateStores }], guard := none }) (v := ?_) rfl (by kernel_rfl) (by kernel_rfl) (by kernel_rfl) (fun _ _ _ h => h) (Or.inl ⟨rfl, ?_⟩) hS ?_
      rotate_left
      · (intro w' hS'; (try dsimp only at hS'); go_simp; try with_reducible rfl)
      simp only [Act.put, List.setIfInBounds_toArray, List.set_cons_zero, List.set_cons_succ]
      refine wpAnyH_take (i := 23) (oi := { dst := some 8, op := Go.Op.assign (Go.Operand.tmp 31), type := 2, pos := "l21_parse.go:46", after := #[{ on := 18, ground := Go.Ground.data }, { on := 21, ground := Go.Ground.chain }, { on := 0, ground := Go.Ground.phase }, { on := 1, ground := Go.Ground.phase }, { on := 2, ground := Go.Ground.phase }, { on := 3, ground := Go.Ground.phase }, { on := 4, ground := Go.Ground.phase }, { on := 5, ground := Go.Ground.phase }, { on := 6, ground := Go.Ground.phase }, { on := 7, ground := Go.Ground.phase }, { on := 8, ground := Go.Ground.phase }, { on := 9, ground := Go.Ground.phase }, { on := 10, ground := Go.Ground.phase }, { on := 11, ground := Go.Ground.phase }, { on := 12, ground := Go.Ground.phase }, { on := 13, ground := Go.Ground.phase }, { on := 14, ground := Go.Ground.phase }, { on := 15, ground := Go.Ground.phase }, { on := 16, ground := Go.Ground.phase }, { on := 17, ground := Go.Ground.phase }, { on := 18, ground := Go.Ground.phase }, { on := 19, ground := Go.Ground.textOnly Go.Departure.lateStores }, { on := 20, ground := Go.Ground.textOnly Go.Departure.lateStores }, { on := 21, ground := Go.Ground.textOnly Go.Departure.lateStoresUnsure }, { on := 22, ground := Go.Ground.textOnly Go.Departure.lateStores }], guard := none }) (v := ?_) rfl (by kernel_rfl) (by kernel_rfl) (by kernel_rfl) (fun _ _ _ h => h) (Or.inl ⟨rfl, ?_⟩) hS ?_
      rotate_left
      · (intro w' hS'; (try dsimp only at hS'); go_simp; try with_reducible rfl)
      simp only [Act.put, List.setIfInBounds_toArray, List.set_cons_zero, List.set_cons_succ]
      refine wpAnyH_take (i := 24) (oi := { dst := some 9, op := Go.Op.assign (Go.Operand.tmp 35), type := 4, pos := "l21_parse.go:46", after := #[{ on := 22, ground := Go.Ground.data }, { on := 23, ground := Go.Ground.chain }, { on := 0, ground := Go.Ground.phase }, { on := 1, ground := Go.Ground.phase }, { on := 2, ground := Go.Ground.phase }, { on := 3, ground := Go.Ground.phase }, { on := 4, ground := Go.Ground.phase }, { on := 5, ground := Go.Ground.phase }, { on := 6, ground := Go.Ground.phase }, { on := 7, ground := Go.Ground.phase }, { on := 8, ground := Go.Ground.phase }, { on := 9, ground := Go.Ground.phase }, { on := 10, ground := Go.Ground.phase }, { on := 11, ground := Go.Ground.phase }, { on := 12, ground := Go.Ground.phase }, { on := 13, ground := Go.Ground.phase }, { on := 14, ground := Go.Ground.phase }, { on := 15, ground := Go.Ground.phase }, { on := 16, ground := Go.Ground.phase }, { on := 17, ground := Go.Ground.phase }, { on := 18, ground := Go.Ground.phase }, { on := 19, ground := Go.Ground.phase }, { on := 20, ground := Go.Ground.phase }, { on := 21, ground := Go.Ground.phase }, { on := 22, ground := Go.Ground.phase }, { on := 23, ground := Go.Ground.phase }], guard := none }) (v := ?_) rfl (by kernel_rfl) (by kernel_rfl) (by kernel_rfl) (fun _ _ _ h => h) (Or.inl ⟨rfl, ?_⟩) hS ?_
      rotate_left
      · (intro w' hS'; (try dsimp only at hS'); go_simp; try with_reducible rfl)
      simp only [Act.put, List.setIfInBounds_toArray, List.set_cons_zero, List.set_cons_succ]
      refine wpAnyH_done (by kernel_rfl) ?_ _
      go_wp2_with fail
      go_ret2
      exact ⟨ret_pair (by simp only [ownF, if_true]; omega) (by rw [Bool.eq_iff_iff]; simp [fitsF]), (al.alloc (by simp; omega) _).alloc (by simp; omega) _⟩
    · have hx' : 0 ≤ b.x1 - a.x2 := by omega
      go_enter Try.func85, Try.ntmps85
      go_wp2_with fail
      obtain ⟨Ra, Rb, Rs⟩ := three_boxes w a b s
      replace Ra := Ra.drew
      replace Rb := Rb.drew
      replace Rs := Rs.drew
      have hS : (fun w' => w'.cell? ⟨w.heap.size, 0, none⟩ = some (.int .i64 a.x1) ∧ w'.cell? ⟨w.heap.size, 1, none⟩ = some (.int .i64 a.y1) ∧ w'.cell? ⟨w.heap.size, 2, none⟩ = some (.int .i64 a.x2) ∧ w'.cell? ⟨w.heap.size, 3, none⟩ = some (.int .i64 a.y2) ∧ w'.cell? ⟨w.heap.size + 1, 0, none⟩ = some (.int .i64 b.x1) ∧ w'.cell? ⟨w.heap.size + 1, 1, none⟩ = some (.int .i64 b.y1) ∧ w'.cell? ⟨w.heap.size + 1, 2, none⟩ = some (.int .i64 b.x2) ∧ w'.cell? ⟨w.heap.size + 1, 3, none⟩ = some (.int .i64 b.y2) ∧ w'.cell? ⟨w.heap.size + 1 + 1, 0, none⟩ = some (.int .i64 s.x1) ∧ w'.cell? ⟨w.heap.size + 1 + 1, 1, none⟩ = some (.int .i64 s.y1) ∧ w'.cell? ⟨w.heap.size + 1 + 1, 2, none⟩ = some (.int .i64 s.x2) ∧ w'.cell? ⟨w.heap.size + 1 + 1, 3, none⟩ = some (.int .i64 s.y2)) (((w.alloc (.cells #[.int .i64 a.x1, .int .i64 a.y1, .int .i64 a.x2, .int .i64 a.y2] 67)).alloc (.cells #[.int .i64 b.x1, .int .i64 b.y1, .int .i64 b.x2, .int .i64 b.y2] 67)).alloc (.cells #[.int .i64 s.x1, .int .i64 s.y1, .int .i64 s.x2, .int .i64 s.y2] 67)).drew := ⟨Ra.cell' (i := 0) rfl, Ra.cell' (i := 1) rfl, Ra.cell' (i := 2) rfl, Ra.cell' (i := 3) rfl, Rb.cell' (i := 0) rfl, Rb.cell' (i := 1) rfl, Rb.cell' (i := 2) rfl, Rb.cell' (i := 3) rfl, Rs.cell' (i := 0) rfl, Rs.cell' (i := 1) rfl, Rs.cell' (i := 2) rfl, Rs.cell' (i := 3) rfl⟩
      dsimp only at hS
      have al : Below w.heap.size w (((w.alloc (.cells #[.int .i64 a.x1, .int .i64 a.y1, .int .i64 a.x2, .int .i64 a.y2] 67)).alloc (.cells #[.int .i64 b.x1, .int .i64 b.y1, .int .i64 b.x2, .int .i64 b.y2] 67)).alloc (.cells #[.int .i64 s.x1, .int .i64 s.y1, .int .i64 s.x2, .int .i64 s.y2] 67)).drew := ((((Below.refl _ _).alloc (Nat.le_refl _) _).alloc (by simp) _).alloc (by simp; omega) _).drew
      refine wp_region_held_drew (S := (fun w' => w'.cell? ⟨w.heap.size, 0, none⟩ = some (.int .i64 a.x1) ∧ w'.cell? ⟨w.heap.size, 1, none⟩ = some (.int .i64 a.y1) ∧ w'.cell? ⟨w.heap.size, 2, none⟩ = some (.int .i64 a.x2) ∧ w'.cell? ⟨w.heap.size, 3, none⟩ = some (.int .i64 a.y2) ∧ w'.cell? ⟨w.heap.size + 1, 0, none⟩ = some (.int .i64 b.x1) ∧ w'.cell? ⟨w.heap.size + 1, 1, none⟩ = some (.int .i64 b.y1) ∧ w'.cell? ⟨w.heap.size + 1, 2, none⟩ = some (.int .i64 b.x2) ∧ w'.cell? ⟨w.heap.size + 1, 3, none⟩ = some (.int .i64 b.y2) ∧ w'.cell? ⟨w.heap.size + 1 + 1, 0, none⟩ = some (.int .i64 s.x1) ∧ w'.cell? ⟨w.heap.size + 1 + 1, 1, none⟩ = some (.int .i64 s.y1) ∧ w'.cell? ⟨w.heap.size + 1 + 1, 2, none⟩ = some (.int .i64 s.x2) ∧ w'.cell? ⟨w.heap.size + 1 + 1, 3, none⟩ = some (.int .i64 s.y2))) (by kernel_rfl) hS (fun _ => ?_)
      refine wpAnyH_take (i := 0) (oi := { dst := some 13, op := Go.Op.fieldAddr 67 (Go.Operand.tmp 5) 1, type := 0, pos := "l21_parse.go:46", after := #[], guard := none }) (v := ?_) rfl (by kernel_rfl) (by kernel_rfl) (by kernel_rfl) (fun _ _ _ h => h) (Or.inl ⟨rfl, ?_⟩) hS ?_
      rotate_left
      · (intro w' hS'; (try dsimp only at hS'); go_simp; try with_reducible rfl)
      simp only [Act.put, List.setIfInBounds_toArray, List.set_cons_zero, List.set_cons_succ]
      refine wpAnyH_take (i := 1) (oi := { dst := some 14, op := Go.Op.load 2 (Go.Operand.tmp 13), type := 2, pos := "l21_parse.go:46", after := #[{ on := 0, ground := Go.Ground.data }], guard := none }) (v := ?_) rfl (by kernel_rfl) (by kernel_rfl) (by kernel_rfl) (fun _ _ _ h => h) (Or.inl ⟨rfl, ?_⟩) hS ?_
      rotate_left
      · (intro w' hS'; (try dsimp only at hS'); go_simp; try with_reducible rfl)
      simp only [Act.put, List.setIfInBounds_toArray, List.set_cons_zero, List.set_cons_succ]
      refine wpAnyH_take (i := 2) (oi := { dst := some 15, op := Go.Op.fieldAddr 67 (Go.Operand.tmp 5) 3, type := 0, pos := "l21_parse.go:46", after := #[], guard := none }) (v := ?_) rfl (by kernel_rfl) (by kernel_rfl) (by kernel_rfl) (fun _ _ _ h => h) (Or.inl ⟨rfl, ?_⟩) hS ?_
      rotate_left
      · (intro w' hS'; (try dsimp only at hS'); go_simp; try with_reducible rfl)
      simp only [Act.put, List.setIfInBounds_toArray, List.set_cons_zero, List.set_cons_succ]
      refine wpAnyH_take (i := 3) (oi := { dst := some 16, op := Go.Op.load 2 (Go.Operand.tmp 15), type := 2, pos := "l21_parse.go:46", after := #[{ on := 2, ground := Go.Ground.data }], guard := none }) (v := ?_) rfl (by kernel_rfl) (by kernel_rfl) (by kernel_rfl) (fun _ _ _ h => h) (Or.inl ⟨rfl, ?_⟩) hS ?_
      rotate_left
      · (intro w' hS'; (try dsimp only at hS'); go_simp; try with_reducible rfl)
      simp only [Act.put, List.setIfInBounds_toArray, List.set_cons_zero, List.set_cons_succ]
      refine wpAnyH_take (i := 4) (oi := { dst := some 17, op := Go.Op.binOp Go.BinOp.add 2 (Go.Operand.tmp 14) (Go.Operand.tmp 16) 2, type := 2, pos := "l21_parse.go:46", after := #[{ on := 1, ground := Go.Ground.data }, { on := 3, ground := Go.Ground.data }], guard := none }) (v := ?_) rfl (by kernel_rfl) (by kernel_rfl) (by kernel_rfl) (fun _ _ _ h => h) (Or.inl ⟨rfl, ?_⟩) hS ?_
      rotate_left
      · (intro w' hS'; (try dsimp only at hS'); go_simp; try with_reducible rfl)
      simp only [Act.put, List.setIfInBounds_toArray, List.set_cons_zero, List.set_cons_succ]
      refine wpAnyH_take (i := 5) (oi := { dst := some 18, op := Go.Op.fieldAddr 67 (Go.Operand.tmp 6) 1, type := 0, pos := "l21_parse.go:46", after := #[], guard := none }) (v := ?_) rfl (by kernel_rfl) (by kernel_rfl) (by kernel_rfl) (fun _ _ _ h => h) (Or.inl ⟨rfl, ?_⟩) hS ?_
      rotate_left
      · (intro w' hS'; (try dsimp only at hS'); go_simp; try with_reducible rfl)
      simp only [Act.put, List.setIfInBounds_toArray, List.set_cons_zero, List.set_cons_succ]
      refine wpAnyH_take (i := 6) (oi := { dst := some 19, op := Go.Op.load 2 (Go.Operand.tmp 18), type := 2, pos := "l21_parse.go:46", after := #[{ on := 5, ground := Go.Ground.data }], guard := none }) (v := ?_) rfl (by kernel_rfl) (by kernel_rfl) (by kernel_rfl) (fun _ _ _ h => h) (Or.inl ⟨rfl, ?_⟩) hS ?_
      rotate_left
      · (intro w' hS'; (try dsimp only at hS'); go_simp; try with_reducible rfl)
      simp only [Act.put, List.setIfInBounds_toArray, List.set_cons_zero, List.set_cons_succ]
      refine wpAnyH_take (i := 7) (oi := { dst := some 20, op := Go.Op.binOp Go.BinOp.sub 2 (Go.Operand.tmp 17) (Go.Operand.tmp 19) 2, type := 2, pos := "l21_parse.go:46", after := #[{ on := 4, ground := Go.Ground.data }, { on := 6, ground := Go.Ground.data }], guard := none }) (v := ?_) rfl (by kernel_rfl) (by kernel_rfl) (by kernel_rfl) (fun _ _ _ h => h) (Or.inl ⟨rfl, ?_⟩) hS ?_
      rotate_left
      · (intro w' hS'; (try dsimp only at hS'); go_simp; try with_reducible rfl)
      simp only [Act.put, List.setIfInBounds_toArray, List.set_cons_zero, List.set_cons_succ]
      refine wpAnyH_take (i := 8) (oi := { dst := some 21, op := Go.Op.fieldAddr 67 (Go.Operand.tmp 6) 3, type := 0, pos := "l21_parse.go:46", after := #[], guard := none }) (v := ?_) rfl (by kernel_rfl) (by kernel_rfl) (by kernel_rfl) (fun _ _ _ h => h) (Or.inl ⟨rfl, ?_⟩) hS ?_
      rotate_left
      · (intro w' hS'; (try dsimp only at hS'); go_simp; try with_reducible rfl)
      simp only [Act.put, List.setIfInBounds_toArray, List.set_cons_zero, List.set_cons_succ]
      refine wpAnyH_take (i := 9) (oi := { dst := some 22, op := Go.Op.load 2 (Go.Operand.tmp 21), type := 2, pos := "l21_parse.go:46", after := #[{ on := 8, ground := Go.Ground.data }], guard := none }) (v := ?_) rfl (by kernel_rfl) (by kernel_rfl) (by kernel_rfl) (fun _ _ _ h => h) (Or.inl ⟨rfl, ?_⟩) hS ?_
      rotate_left
      · (intro w' hS'; (try dsimp only at hS'); go_simp; try with_reducible rfl)
      simp only [Act.put, List.setIfInBounds_toArray, List.set_cons_zero, List.set_cons_succ]
      refine wpAnyH_take (i := 10) (oi := { dst := some 23, op := Go.Op.binOp Go.BinOp.sub 2 (Go.Operand.tmp 20) (Go.Operand.tmp 22) 2, type := 2, pos := "l21_parse.go:46", after := #[{ on := 7, ground := Go.Ground.data }, { on := 9, ground := Go.Ground.data }], guard := none }) (v := ?_) rfl (by kernel_rfl) (by kernel_rfl) (by kernel_rfl) (fun _ _ _ h => h) (Or.inl ⟨rfl, ?_⟩) hS ?_
      rotate_left
      · (intro w' hS'; (try dsimp only at hS'); go_simp; try with_reducible rfl)
      simp only [Act.put, List.setIfInBounds_toArray, List.set_cons_zero, List.set_cons_succ]
      refine take_call (i := 11) (oi := { dst := some 24, op := Go.Op.call { callee := Go.Callee.value (Go.Operand.func 90), args := #[Go.Operand.tmp 23], argTypes := #[2] }, type := 2, pos := "l21_parse.go:46", after := #[{ on := 10, ground := Go.Ground.data }], guard := none }) rfl (by kernel_rfl) (by kernel_rfl) (by kernel_rfl) (fun _ _ _ h => h) 90 #[Go.Operand.tmp 23] _ rfl rfl #[.int .i64 (a.y1 + a.y2 - b.y1 - b.y2)] Try.call90 (by go_simp) (fun w => impl_abs_c _ w (by omega)) hS ?_
      simp only [Act.put, List.setIfInBounds_toArray, List.set_cons_zero, List.set_cons_succ]
      refine wpAnyH_take (i := 12) (oi := { dst := some 25, op := Go.Op.fieldAddr 67 (Go.Operand.tmp 6) 0, type := 0, pos := "l21_parse.go:46", after := #[], guard := none }) (v := ?_) rfl (by kernel_rfl) (by kernel_rfl) (by kernel_rfl) (fun _ _ _ h => h) (Or.inl ⟨rfl, ?_⟩) hS ?_
      rotate_left
      · (intro w' hS'; (try dsimp only at hS'); go_simp; try with_reducible rfl)
      simp only [Act.put, List.setIfInBounds_toArray, List.set_cons_zero, List.set_cons_succ]
      refine wpAnyH_take (i := 13) (oi := { dst := some 26, op := Go.Op.load 2 (Go.Operand.tmp 25), type := 2, pos := "l21_parse.go:46", after := #[{ on := 12, ground := Go.Ground.data }], guard := none }) (v := ?_) rfl (by kernel_rfl) (by kernel_rfl) (by kernel_rfl) (fun _ _ _ h => h) (Or.inl ⟨rfl, ?_⟩) hS ?_
      rotate_left
      · (intro w' hS'; (try dsimp only at hS'); go_simp; try with_reducible rfl)
      simp only [Act.put, List.setIfInBounds_toArray, List.set_cons_zero, List.set_cons_succ]
      refine wpAnyH_take (i := 14) (oi := { dst := some 27, op := Go.Op.fieldAddr 67 (Go.Operand.tmp 5) 2, type := 0, pos := "l21_parse.go:46", after := #[], guard := none }) (v := ?_) rfl (by kernel_rfl) (by kernel_rfl) (by kernel_rfl) (fun _ _ _ h => h) (Or.inl ⟨rfl, ?_⟩) hS ?_
      rotate_left
      · (intro w' hS'; (try dsimp only at hS'); go_simp; try with_reducible rfl)
      simp only [Act.put, List.setIfInBounds_toArray, List.set_cons_zero, List.set_cons_succ]
      refine wpAnyH_take (i := 15) (oi := { dst := some 28, op := Go.Op.load 2 (Go.Operand.tmp 27), type := 2, pos := "l21_parse.go:46", after := #[{ on := 14, ground := Go.Ground.data }], guard := none }) (v := ?_) rfl (by kernel_rfl) (by kernel_rfl) (by kernel_rfl) (fun _ _ _ h => h) (Or.inl ⟨rfl, ?_⟩) hS ?_
      rotate_left
      · (intro w' hS'; (try dsimp only at hS'); go_simp; try with_reducible rfl)
      simp only [Act.put, List.setIfInBounds_toArray, List.set_cons_zero, List.set_cons_succ]
      refine wpAnyH_take (i := 16) (oi := { dst := some 29, op := Go.Op.binOp Go.BinOp.sub 2 (Go.Operand.tmp 26) (Go.Operand.tmp 28) 2, type := 2, pos := "l21_parse.go:46", after := #[{ on := 13, ground := Go.Ground.data }, { on := 15, ground := Go.Ground.data }], guard := none }) (v := ?_) rfl (by kernel_rfl) (by kernel_rfl) (by kernel_rfl) (fun _ _ _ h => h) (Or.inl ⟨rfl, ?_⟩) hS ?_
      rotate_left
      · (intro w' hS'; (try dsimp only at hS'); go_simp; try with_reducible rfl)
      simp only [Act.put, List.setIfInBounds_toArray, List.set_cons_zero, List.set_cons_succ]
      refine wpAnyH_take (i := 17) (oi := { dst := some 30, op := Go.Op.call { callee := Go.Callee.builtin Go.Builtin.max, args := #[Go.Operand.tmp 29, Go.Operand.const (Go.Value.int Go.IntKind.i64 0)], argTypes := #[2, 2] }, type := 2, pos := "l21_parse.go:46", after := #[{ on := 16, ground := Go.Ground.data }], guard := none }) (v := ?_) rfl (by kernel_rfl) (by kernel_rfl) (by kernel_rfl) (fun _ _ _ h => h) (Or.inl ⟨rfl, ?_⟩) hS ?_
      rotate_left
      · (intro w' hS'; (try dsimp only at hS'); go_simp; try with_reducible rfl)
      simp only [Act.put, List.setIfInBounds_toArray, List.set_cons_zero, List.set_cons_succ]
      refine wpAnyH_take (i := 18) (oi := { dst := some 31, op := Go.Op.binOp Go.BinOp.add 2 (Go.Operand.tmp 24) (Go.Operand.tmp 30) 2, type := 2, pos := "l21_parse.go:46", after := #[{ on := 11, ground := Go.Ground.data }, { on := 17, ground := Go.Ground.data }], guard := none }) (v := ?_) rfl (by kernel_rfl) (by kernel_rfl) (by kernel_rfl) (fun _ _ _ h => h) (Or.inl ⟨rfl, ?_⟩) hS ?_
      rotate_left
      · (intro w' hS'; (try dsimp only at hS'); go_simp; try with_reducible rfl)
      simp only [Act.put, List.setIfInBounds_toArray, List.set_cons_zero, List.set_cons_succ]
      refine wpAnyH_take (i := 19) (oi := { dst := some 32, op := Go.Op.load 67 (Go.Operand.tmp 5), type := 67, pos := "l21_parse.go:46", after := #[], guard := none }) (v := ?_) rfl (by kernel_rfl) (by kernel_rfl) (by kernel_rfl) (fun _ _ _ h => h) (Or.inl ⟨rfl, ?_⟩) hS ?_
      rotate_left
      · (intro w' hS'; (try dsimp only at hS'); go_simp; try with_reducible rfl)
      simp only [Act.put, List.setIfInBounds_toArray, List.set_cons_zero, List.set_cons_succ]
      refine wpAnyH_take (i := 20) (oi := { dst := some 33, op := Go.Op.load 67 (Go.Operand.tmp 6), type := 67, pos := "l21_parse.go:46", after := #[], guard := none }) (v := ?_) rfl (by kernel_rfl) (by kernel_rfl) (by kernel_rfl) (fun _ _ _ h => h) (Or.inl ⟨rfl, ?_⟩) hS ?_
      rotate_left
      · (intro w' hS'; (try dsimp only at hS'); go_simp; try with_reducible rfl)
      simp only [Act.put, List.setIfInBounds_toArray, List.set_cons_zero, List.set_cons_succ]
      refine wpAnyH_ready (rs := [21]) (by kernel_rfl) (by simp) ?_
      refine AllReadyH.cons (o := { dst := some 34, op := Go.Op.call { callee := Go.Callee.value (Go.Operand.func 91), args := #[Go.Operand.tmp 32, Go.Operand.tmp 33], argTypes := #[67, 67] }, type := 2, pos := "l21_parse.go:46", after := #[{ on := 19, ground := Go.Ground.data }, { on := 20, ground := Go.Ground.data }, { on := 11, ground := Go.Ground.chain }], guard := none }) rfl (fun K hK => ?_) .nil
      refine step_call 91 #[Go.Operand.tmp 32, Go.Operand.tmp 33] _ rfl rfl #[.agg #[.int .i64 a.x1, .int .i64 a.y1, .int .i64 a.x2, .int .i64 a.y2], .agg #[.int .i64 b.x1, .int .i64 b.y1, .int .i64 b.x2, .int .i64 b.y2]] Try.call91 (by go_simp) (impl_relation_c a b _ ha hb) ?_
      rintro e w1 ⟨rfl, rfl⟩
      refine ⟨_, rfl, ?_⟩
      replace Ra := (Ra.alloc (.cells #[.int .i64 a.x1, .int .i64 a.y1, .int .i64 a.x2, .int .i64 a.y2] 67)).alloc (.cells #[.int .i64 b.x1, .int .i64 b.y1, .int .i64 b.x2, .int .i64 b.y2] 67)
      replace Rb := (Rb.alloc (.cells #[.int .i64 a.x1, .int .i64 a.y1, .int .i64 a.x2, .int .i64 a.y2] 67)).alloc (.cells #[.int .i64 b.x1, .int .i64 b.y1, .int .i64 b.x2, .int .i64 b.y2] 67)
      replace Rs := (Rs.alloc (.cells #[.int .i64 a.x1, .int .i64 a.y1, .int .i64 a.x2, .int .i64 a.y2] 67)).alloc (.cells #[.int .i64 b.x1, .int .i64 b.y1, .int .i64 b.x2, .int .i64 b.y2] 67)
      replace hS := and12 (Ra.cell' (i := 0) rfl) (Ra.cell' (i := 1) rfl) (Ra.cell' (i := 2) rfl) (Ra.cell' (i := 3) rfl) (Rb.cell' (i := 0) rfl) (Rb.cell' (i := 1) rfl) (Rb.cell' (i := 2) rfl) (Rb.cell' (i := 3) rfl) (Rs.cell' (i := 0) rfl) (Rs.cell' (i := 1) rfl) (Rs.cell' (i := 2) rfl) (Rs.cell' (i := 3) rfl)
      refine hK.out _ _ ?_ (fun hHeld => ?_)
      · exact hS
      clear hK K hHeld
      simp only [Act.put, List.setIfInBounds_toArray, List.set_cons_zero, List.set_cons_succ]
      refine wpAnyH_take (i := 22) (oi := { dst := some 35, op := Go.Op.binOp Go.BinOp.eql 2 (Go.Operand.tmp 34) (Go.Operand.const (Go.Value.int Go.IntKind.i64 1)) 2, type := 4, pos := "l21_parse.go:46", after := #[{ on := 21, ground := Go.Ground.data }, { on := 23, ground := Go.Ground.gcOnly Go.Departure.lateStores }], guard := none }) (v := ?_) rfl (by kernel_rfl) (by kernel_rfl) (by kernel_rfl) (fun _ _ _ h => h) (Or.inl ⟨rfl, ?_⟩) hS ?_
      rotate_left
      · (intro w' hS'; (try dsimp only at hS'); go_simp; try with_reducible rfl)
      simp only [Act.put, List.setIfInBounds_toArray, List.set_cons_zero, List.set_cons_succ]
      refine wpAnyH_take (i := 23) (oi := { dst := some 8, op := Go.Op.assign (Go.Operand.tmp 31), type := 2, pos := "l21_parse.go:46", after := #[{ on := 18, ground := Go.Ground.data }, { on := 21, ground := Go.Ground.chain }, { on := 0, ground := Go.Ground.phase }, { on := 1, ground := Go.Ground.phase }, { on := 2, ground := Go.Ground.phase }, { on := 3, ground := Go.Ground.phase }, { on := 4, ground := Go.Ground.phase }, { on := 5, ground := Go.Ground.phase }, { on := 6, ground := Go.Ground.phase }, { on := 7, ground := Go.Ground.phase }, { on := 8, ground := Go.Ground.phase }, { on := 9, ground := Go.Ground.phase }, { on := 10, ground := Go.Ground.phase }, { on := 11, ground := Go.Ground.phase }, { on := 12, ground := Go.Ground.phase }, { on := 13, ground := Go.Ground.phase }, { on := 14, ground := Go.Ground.phase }, { on := 15, ground := Go.Ground.phase }, { on := 16, ground := Go.Ground.phase }, { on := 17, ground := Go.Ground.phase }, { on := 18, ground := Go.Ground.phase }, { on := 19, ground := Go.Ground.textOnly Go.Departure.lateStores }, { on := 20, ground := Go.Ground.textOnly Go.Departure.lateStores }, { on := 21, ground := Go.Ground.textOnly Go.Departure.lateStoresUnsure }, { on := 22, ground := Go.Ground.textOnly Go.Departure.lateStores }], guard := none }) (v := ?_) rfl (by kernel_rfl) (by kernel_rfl) (by kernel_rfl) (fun _ _ _ h => h) (Or.inl ⟨rfl, ?_⟩) hS ?_
      rotate_left
      · (intro w' hS'; (try dsimp only at hS'); go_simp; try with_reducible rfl)
      simp only [Act.put, List.setIfInBounds_toArray, List.set_cons_zero, List.set_cons_succ]
      refine wpAnyH_take (i := 24) (oi := { dst := some 9, op := Go.Op.assign (Go.Operand.tmp 35), type := 4, pos := "l21_parse.go:46", after := #[{ on := 22, ground := Go.Ground.data }, { on := 23, ground := Go.Ground.chain }, { on := 0, ground := Go.Ground.phase }, { on := 1, ground := Go.Ground.phase }, { on := 2, ground := Go.Ground.phase }, { on := 3, ground := Go.Ground.phase }, { on := 4, ground := Go.Ground.phase }, { on := 5, ground := Go.Ground.phase }, { on := 6, ground := Go.Ground.phase }, { on := 7, ground := Go.Ground.phase }, { on := 8, ground := Go.Ground.phase }, { on := 9, ground := Go.Ground.phase }, { on := 10, ground := Go.Ground.phase }, { on := 11, ground := Go.Ground.phase }, { on := 12, ground := Go.Ground.phase }, { on := 13, ground := Go.Ground.phase }, { on := 14, ground := Go.Ground.phase }, { on := 15, ground := Go.Ground.phase }, { on := 16, ground := Go.Ground.phase }, { on := 17, ground := Go.Ground.phase }, { on := 18, ground := Go.Ground.phase }, { on := 19, ground := Go.Ground.phase }, { on := 20, ground := Go.Ground.phase }, { on := 21, ground := Go.Ground.phase }, { on := 22, ground := Go.Ground.phase }, { on := 23, ground := Go.Ground.phase }], guard := none }) (v := ?_) rfl (by kernel_rfl) (by kernel_rfl) (by kernel_rfl) (fun _ _ _ h => h) (Or.inl ⟨rfl, ?_⟩) hS ?_
      rotate_left
      · (intro w' hS'; (try dsimp only at hS'); go_simp; try with_reducible rfl)
      simp only [Act.put, List.setIfInBounds_toArray, List.set_cons_zero, List.set_cons_succ]
      refine wpAnyH_done (by kernel_rfl) ?_ _
      go_wp2_with fail
      go_ret2
      exact ⟨ret_pair (by simp only [ownF, if_true]; omega) (by rw [Bool.eq_iff_iff]; simp [fitsF]), (al.alloc (by simp; omega) _).alloc (by simp; omega) _⟩
  · by_cases k2 : kind = 2
    · subst k2
      have e1 : IntKind.i64.wrap (a.x1 + a.x2) = a.x1 + a.x2 := IntWalk.i64_in _ (by omega)
      have e2 : IntKind.i64.wrap (a.x1 + a.x2 - s.x1) = a.x1 + a.x2 - s.x1 := IntWalk.i64_in _ (by omega)
      have e3 : IntKind.i64.wrap (a.x1 + a.x2 - s.x1 - s.x2) = a.x1 + a.x2 - s.x1 - s.x2 := IntWalk.i64_in _ (by omega)
      have e4 : IntKind.i64.wrap (b.x1 + b.x2) = b.x1 + b.x2 := IntWalk.i64_in _ (by omega)
      have e5 : IntKind.i64.wrap (b.x1 + b.x2 - s.x1) = b.x1 + b.x2 - s.x1 := IntWalk.i64_in _ (by omega)
      have e6 : IntKind.i64.wrap (b.x1 + b.x2 - s.x1 - s.x2) = b.x1 + b.x2 - s.x1 - s.x2 := IntWalk.i64_in _ (by omega)
      have h1 := absI_le (n := a.x1 + a.x2 - s.x1 - s.x2) (m := 9000) (by omega)
      have h2 := absI_le (n := b.x1 + b.x2 - s.x1 - s.x2) (m := 9000) (by omega)
      have e7 : IntKind.i64.wrap (absI (a.x1 + a.x2 - s.x1 - s.x2) + absI (b.x1 + b.x2 - s.x1 - s.x2)) = absI (a.x1 + a.x2 - s.x1 - s.x2) + absI (b.x1 + b.x2 - s.x1 - s.x2) := IntWalk.i64_in _ (by omega)
      by_cases hr : relF s a = 2
      · have g : (relF s a == 2) = true := by simp [hr]
        have R := Lib.hid hr
        clear hr
        go_enter Try.func85, Try.ntmps85
        go_wp2_with fail
        obtain ⟨Ra, Rb, Rs⟩ := three_boxes w a b s
        replace Ra := Ra.drew
        replace Rb := Rb.drew
        replace Rs := Rs.drew
        have hS : (fun w' => w'.cell? ⟨w.heap.size, 0, none⟩ = some (.int .i64 a.x1) ∧ w'.cell? ⟨w.heap.size, 1, none⟩ = some (.int .i64 a.y1) ∧ w'.cell? ⟨w.heap.size, 2, none⟩ = some (.int .i64 a.x2) ∧ w'.cell? ⟨w.heap.size, 3, none⟩ = some (.int .i64 a.y2) ∧ w'.cell? ⟨w.heap.size + 1, 0, none⟩ = some (.int .i64 b.x1) ∧ w'.cell? ⟨w.heap.size + 1, 1, none⟩ = some (.int .i64 b.y1) ∧ w'.cell? ⟨w.heap.size + 1, 2, none⟩ = some (.int .i64 b.x2) ∧ w'.cell? ⟨w.heap.size + 1, 3, none⟩ = some (.int .i64 b.y2) ∧ w'.cell? ⟨w.heap.size + 1 + 1, 0, none⟩ = some (.int .i64 s.x1) ∧ w'.cell? ⟨w.heap.size + 1 + 1, 1, none⟩ = some (.int .i64 s.y1) ∧ w'.cell? ⟨w.heap.size + 1 + 1, 2, none⟩ = some (.int .i64 s.x2) ∧ w'.cell? ⟨w.heap.size + 1 + 1, 3, none⟩ = some (.int .i64 s.y2)) (((w.alloc (.cells #[.int .i64 a.x1, .int .i64 a.y1, .int .i64 a.x2, .int .i64 a.y2] 67)).alloc (.cells #[.int .i64 b.x1, .int .i64 b.y1, .int .i64 b.x2, .int .i64 b.y2] 67)).alloc (.cells #[.int .i64 s.x1, .int .i64 s.y1, .int .i64 s.x2, .int .i64 s.y2] 67)).drew := ⟨Ra.cell' (i := 0) rfl, Ra.cell' (i := 1) rfl, Ra.cell' (i := 2) rfl, Ra.cell' (i := 3) rfl, Rb.cell' (i := 0) rfl, Rb.cell' (i := 1) rfl, Rb.cell' (i := 2) rfl, Rb.cell' (i := 3) rfl, Rs.cell' (i := 0) rfl, Rs.cell' (i := 1) rfl, Rs.cell' (i := 2) rfl, Rs.cell' (i := 3) rfl⟩
        dsimp only at hS
        have al : Below w.heap.size w (((w.alloc (.cells #[.int .i64 a.x1, .int .i64 a.y1, .int .i64 a.x2, .int .i64 a.y2] 67)).alloc (.cells #[.int .i64 b.x1, .int .i64 b.y1, .int .i64 b.x2, .int .i64 b.y2] 67)).alloc (.cells #[.int .i64 s.x1, .int .i64 s.y1, .int .i64 s.x2, .int .i64 s.y2] 67)).drew := ((((Below.refl _ _).alloc (Nat.le_refl _) _).alloc (by simp) _).alloc (by simp; omega) _).drew
        refine wp_region_held_drew (S := (fun w' => w'.cell? ⟨w.heap.size, 0, none⟩ = some (.int .i64 a.x1) ∧ w'.cell? ⟨w.heap.size, 1, none⟩ = some (.int .i64 a.y1) ∧ w'.cell? ⟨w.heap.size, 2, none⟩ = some (.int .i64 a.x2) ∧ w'.cell? ⟨w.heap.size, 3, none⟩ = some (.int .i64 a.y2) ∧ w'.cell? ⟨w.heap.size + 1, 0, none⟩ = some (.int .i64 b.x1) ∧ w'.cell? ⟨w.heap.size + 1, 1, none⟩ = some (.int .i64 b.y1) ∧ w'.cell? ⟨w.heap.size + 1, 2, none⟩ = some (.int .i64 b.x2) ∧ w'.cell? ⟨w.heap.size + 1, 3, none⟩ = some (.int .i64 b.y2) ∧ w'.cell? ⟨w.heap.size + 1 + 1, 0, none⟩ = some (.int .i64 s.x1) ∧ w'.cell? ⟨w.heap.size + 1 + 1, 1, none⟩ = some (.int .i64 s.y1) ∧ w'.cell? ⟨w.heap.size + 1 + 1, 2, none⟩ = some (.int .i64 s.x2) ∧ w'.cell? ⟨w.heap.size + 1 + 1, 3, none⟩ = some (.int .i64 s.y2))) (by kernel_rfl) hS (fun _ => ?_)
        refine wpAnyH_take (i := 0) (oi := { dst := some 38, op := Go.Op.fieldAddr 67 (Go.Operand.tmp 5) 0, type := 0, pos := "l21_parse.go:48", after := #[], guard := none }) (v := ?_) rfl (by kernel_rfl) (by kernel_rfl) (by kernel_rfl) (fun _ _ _ h => h) (Or.inl ⟨rfl, ?_⟩) hS ?_
        rotate_left
        · (intro w' hS'; (try dsimp only at hS'); go_simp; try with_reducible rfl)
        simp only [Act.put, List.setIfInBounds_toArray, List.set_cons_zero, List.set_cons_succ]
        refine wpAnyH_take (i := 1) (oi := { dst := some 39, op := Go.Op.load 2 (Go.Operand.tmp 38), type := 2, pos := "l21_parse.go:48", after := #[{ on := 0, ground := Go.Ground.data }], guard := none }) (v := ?_) rfl (by kernel_rfl) (by kernel_rfl) (by kernel_rfl) (fun _ _ _ h => h) (Or.inl ⟨rfl, ?_⟩) hS ?_
        rotate_left
        · (intro w' hS'; (try dsimp only at hS'); go_simp; try with_reducible rfl)
        simp only [Act.put, List.setIfInBounds_toArray, List.set_cons_zero, List.set_cons_succ]
        refine wpAnyH_take (i := 2) (oi := { dst := some 40, op := Go.Op.fieldAddr 67 (Go.Operand.tmp 5) 2, type := 0, pos := "l21_parse.go:48", after := #[], guard := none }) (v := ?_) rfl (by kernel_rfl) (by kernel_rfl) (by kernel_rfl) (fun _ _ _ h => h) (Or.inl ⟨rfl, ?_⟩) hS ?_
        rotate_left
        · (intro w' hS'; (try dsimp only at hS'); go_simp; try with_reducible rfl)
        simp only [Act.put, List.setIfInBounds_toArray, List.set_cons_zero, List.set_cons_succ]
        refine wpAnyH_take (i := 3) (oi := { dst := some 41, op := Go.Op.load 2 (Go.Operand.tmp 40), type := 2, pos := "l21_parse.go:48", after := #[{ on := 2, ground := Go.Ground.data }], guard := none }) (v := ?_) rfl (by kernel_rfl) (by kernel_rfl) (by kernel_rfl) (fun _ _ _ h => h) (Or.inl ⟨rfl, ?_⟩) hS ?_
        rotate_left
        · (intro w' hS'; (try dsimp only at hS'); go_simp; try with_reducible rfl)
        simp only [Act.put, List.setIfInBounds_toArray, List.set_cons_zero, List.set_cons_succ]
        refine wpAnyH_take (i := 4) (oi := { dst := some 42, op := Go.Op.binOp Go.BinOp.add 2 (Go.Operand.tmp 39) (Go.Operand.tmp 41) 2, type := 2, pos := "l21_parse.go:48", after := #[{ on := 1, ground := Go.Ground.data }, { on := 3, ground := Go.Ground.data }], guard := none }) (v := ?_) rfl (by kernel_rfl) (by kernel_rfl) (by kernel_rfl) (fun _ _ _ h => h) (Or.inl ⟨rfl, ?_⟩) hS ?_
        rotate_left
        · (intro w' hS'; (try dsimp only at hS'); go_simp; try with_reducible rfl)
        simp only [Act.put, List.setIfInBounds_toArray, List.set_cons_zero, List.set_cons_succ]
        refine wpAnyH_take (i := 5) (oi := { dst := some 43, op := Go.Op.fieldAddr 67 (Go.Operand.tmp 7) 0, type := 0, pos := "l21_parse.go:48", after := #[], guard := none }) (v := ?_) rfl (by kernel_rfl) (by kernel_rfl) (by kernel_rfl) (fun _ _ _ h => h) (Or.inl ⟨rfl, ?_⟩) hS ?_
        rotate_left
        · (intro w' hS'; (try dsimp only at hS'); go_simp; try with_reducible rfl)
        simp only [Act.put, List.setIfInBounds_toArray, List.set_cons_zero, List.set_cons_succ]
        refine wpAnyH_take (i := 6) (oi := { dst := some 44, op := Go.Op.load 2 (Go.Operand.tmp 43), type := 2, pos := "l21_parse.go:48", after := #[{ on := 5, ground := Go.Ground.data }], guard := none }) (v := ?_) rfl (by kernel_rfl) (by kernel_rfl) (by kernel_rfl) (fun _ _ _ h => h) (Or.inl ⟨rfl, ?_⟩) hS ?_
        rotate_left
        · (intro w' hS'; (try dsimp only at hS'); go_simp; try with_reducible rfl)
        simp only [Act.put, List.setIfInBounds_toArray, List.set_cons_zero, List.set_cons_succ]
        refine wpAnyH_take (i := 7) (oi := { dst := some 45, op := Go.Op.binOp Go.BinOp.sub 2 (Go.Operand.tmp 42) (Go.Operand.tmp 44) 2, type := 2, pos := "l21_parse.go:48", after := #[{ on := 4, ground := Go.Ground.data }, { on := 6, ground := Go.Ground.data }], guard := none }) (v := ?_) rfl (by kernel_rfl) (by kernel_rfl) (by kernel_rfl) (fun _ _ _ h => h) (Or.inl ⟨rfl, ?_⟩) hS ?_
        rotate_left
        · (intro w' hS'; (try dsimp only at hS'); go_simp; try with_reducible rfl)
        simp only [Act.put, List.setIfInBounds_toArray, List.set_cons_zero, List.set_cons_succ]
        refine wpAnyH_take (i := 8) (oi := { dst := some 46, op := Go.Op.fieldAddr 67 (Go.Operand.tmp 7) 2, type := 0, pos := "l21_parse.go:48", after := #[], guard := none }) (v := ?_) rfl (by kernel_rfl) (by kernel_rfl) (by kernel_rfl) (fun _ _ _ h => h) (Or.inl ⟨rfl, ?_⟩) hS ?_
        rotate_left
        · (intro w' hS'; (try dsimp only at hS'); go_simp; try with_reducible rfl)
        simp only [Act.put, List.setIfInBounds_toArray, List.set_cons_zero, List.set_cons_succ]
        refine wpAnyH_take (i := 9) (oi := { dst := some 47, op := Go.Op.load 2 (Go.Operand.tmp 46), type := 2, pos := "l21_parse.go:48", after := #[{ on := 8, ground := Go.Ground.data }], guard := none }) (v := ?_) rfl (by kernel_rfl) (by kernel_rfl) (by kernel_rfl) (fun _ _ _ h => h) (Or.inl ⟨rfl, ?_⟩) hS ?_
        rotate_left
        · (intro w' hS'; (try dsimp only at hS'); go_simp; try with_reducible rfl)
        simp only [Act.put, List.setIfInBounds_toArray, List.set_cons_zero, List.set_cons_succ]
        refine wpAnyH_take (i := 10) (oi := { dst := some 48, op := Go.Op.binOp Go.BinOp.sub 2 (Go.Operand.tmp 45) (Go.Operand.tmp 47) 2, type := 2, pos := "l21_parse.go:48", after := #[{ on := 7, ground := Go.Ground.data }, { on := 9, ground := Go.Ground.data }], guard := none }) (v := ?_) rfl (by kernel_rfl) (by kernel_rfl) (by kernel_rfl) (fun _ _ _ h => h) (Or.inl ⟨rfl, ?_⟩) hS ?_
        rotate_left
        · (intro w' hS'; (try dsimp only at hS'); go_simp; try with_reducible rfl)
        simp only [Act.put, List.setIfInBounds_toArray, List.set_cons_zero, List.set_cons_succ]
        refine take_call (i := 11) (oi := { dst := some 49, op := Go.Op.call { callee := Go.Callee.value (Go.Operand.func 90), args := #[Go.Operand.tmp 48], argTypes := #[2] }, type := 2, pos := "l21_parse.go:48", after := #[{ on := 10, ground := Go.Ground.data }], guard := none }) rfl (by kernel_rfl) (by kernel_rfl) (by kernel_rfl) (fun _ _ _ h => h) 90 #[Go.Operand.tmp 48] _ rfl rfl #[.int .i64 (a.x1 + a.x2 - s.x1 - s.x2)] Try.call90 (by go_simp) (fun w => impl_abs_c _ w (by omega)) hS ?_
        simp only [Act.put, List.setIfInBounds_toArray, List.set_cons_zero, List.set_cons_succ]
        refine wpAnyH_take (i := 12) (oi := { dst := some 50, op := Go.Op.fieldAddr 67 (Go.Operand.tmp 6) 0, type := 0, pos := "l21_parse.go:48", after := #[], guard := none }) (v := ?_) rfl (by kernel_rfl) (by kernel_rfl) (by kernel_rfl) (fun _ _ _ h => h) (Or.inl ⟨rfl, ?_⟩) hS ?_
        rotate_left
        · (intro w' hS'; (try dsimp only at hS'); go_simp; try with_reducible rfl)
        simp only [Act.put, List.setIfInBounds_toArray, List.set_cons_zero, List.set_cons_succ]
        refine wpAnyH_take (i := 13) (oi := { dst := some 51, op := Go.Op.load 2 (Go.Operand.tmp 50), type := 2, pos := "l21_parse.go:48", after := #[{ on := 12, ground := Go.Ground.data }], guard := none }) (v := ?_) rfl (by kernel_rfl) (by kernel_rfl) (by kernel_rfl) (fun _ _ _ h => h) (Or.inl ⟨rfl, ?_⟩) hS ?_
        rotate_left
        · (intro w' hS'; (try dsimp only at hS'); go_simp; try with_reducible rfl)
        simp only [Act.put, List.setIfInBounds_toArray, List.set_cons_zero, List.set_cons_succ]
        refine wpAnyH_take (i := 14) (oi := { dst := some 52, op := Go.Op.fieldAddr 67 (Go.Operand.tmp 6) 2, type := 0, pos := "l21_parse.go:48", after := #[], guard := none }) (v := ?_) rfl (by kernel_rfl) (by kernel_rfl) (by kernel_rfl) (fun _ _ _ h => h) (Or.inl ⟨rfl, ?_⟩) hS ?_
        rotate_left
        · (intro w' hS'; (try dsimp only at hS'); go_simp; try with_reducible rfl)
        simp only [Act.put, List.setIfInBounds_toArray, List.set_cons_zero, List.set_cons_succ]
        refine wpAnyH_take (i := 15) (oi := { dst := some 53, op := Go.Op.load 2 (Go.Operand.tmp 52), type := 2, pos := "l21_parse.go:48", after := #[{ on := 14, ground := Go.Ground.data }], guard := none }) (v := ?_) rfl (by kernel_rfl) (by kernel_rfl) (by kernel_rfl) (fun _ _ _ h => h) (Or.inl ⟨rfl, ?_⟩) hS ?_
        rotate_left
        · (intro w' hS'; (try dsimp only at hS'); go_simp; try with_reducible rfl)
        simp only [Act.put, List.setIfInBounds_toArray, List.set_cons_zero, List.set_cons_succ]
        refine wpAnyH_take (i := 16) (oi := { dst := some 54, op := Go.Op.binOp Go.BinOp.add 2 (Go.Operand.tmp 51) (Go.Operand.tmp 53) 2, type := 2, pos := "l21_parse.go:48", after := #[{ on := 13, ground := Go.Ground.data }, { on := 15, ground := Go.Ground.data }], guard := none }) (v := ?_) rfl (by kernel_rfl) (by kernel_rfl) (by kernel_rfl) (fun _ _ _ h => h) (Or.inl ⟨rfl, ?_⟩) hS ?_
        rotate_left
        · (intro w' hS'; (try dsimp only at hS'); go_simp; try with_reducible rfl)
        simp only [Act.put, List.setIfInBounds_toArray, List.set_cons_zero, List.set_cons_succ]
        refine wpAnyH_take (i := 17) (oi := { dst := some 55, op := Go.Op.fieldAddr 67 (Go.Operand.tmp 7) 0, type := 0, pos := "l21_parse.go:48", after := #[], guard := none }) (v := ?_) rfl (by kernel_rfl) (by kernel_rfl) (by kernel_rfl) (fun _ _ _ h => h) (Or.inl ⟨rfl, ?_⟩) hS ?_
        rotate_left
        · (intro w' hS'; (try dsimp only at hS'); go_simp; try with_reducible rfl)
        simp only [Act.put, List.setIfInBounds_toArray, List.set_cons_zero, List.set_cons_succ]
        refine wpAnyH_take (i := 18) (oi := { dst := some 56, op := Go.Op.load 2 (Go.Operand.tmp 55), type := 2, pos := "l21_parse.go:48", after := #[{ on := 17, ground := Go.Ground.data }], guard := none }) (v := ?_) rfl (by kernel_rfl) (by kernel_rfl) (by kernel_rfl) (fun _ _ _ h => h) (Or.inl ⟨rfl, ?_⟩) hS ?_
        rotate_left
        · (intro w' hS'; (try dsimp only at hS'); go_simp; try with_reducible rfl)
        simp only [Act.put, List.setIfInBounds_toArray, List.set_cons_zero, List.set_cons_succ]
        refine wpAnyH_take (i := 19) (oi := { dst := some 57, op := Go.Op.binOp Go.BinOp.sub 2 (Go.Operand.tmp 54) (Go.Operand.tmp 56) 2, type := 2, pos := "l21_parse.go:48", after := #[{ on := 16, ground := Go.Ground.data }, { on := 18, ground := Go.Ground.data }], guard := none }) (v := ?_) rfl (by kernel_rfl) (by kernel_rfl) (by kernel_rfl) (fun _ _ _ h => h) (Or.inl ⟨rfl, ?_⟩) hS ?_
        rotate_left
        · (intro w' hS'; (try dsimp only at hS'); go_simp; try with_reducible rfl)
        simp only [Act.put, List.setIfInBounds_toArray, List.set_cons_zero, List.set_cons_succ]
        refine wpAnyH_take (i := 20) (oi := { dst := some 58, op := Go.Op.fieldAddr 67 (Go.Operand.tmp 7) 2, type := 0, pos := "l21_parse.go:48", after := #[], guard := none }) (v := ?_) rfl (by kernel_rfl) (by kernel_rfl) (by kernel_rfl) (fun _ _ _ h => h) (Or.inl ⟨rfl, ?_⟩) hS ?_
        rotate_left
        · (intro w' hS'; (try dsimp only at hS'); go_simp; try with_reducible rfl)
        simp only [Act.put, List.setIfInBounds_toArray, List.set_cons_zero, List.set_cons_succ]
        refine wpAnyH_take (i := 21) (oi := { dst := some 59, op := Go.Op.load 2 (Go.Operand.tmp 58), type := 2, pos := "l21_parse.go:48", after := #[{ on := 20, ground := Go.Ground.data }], guard := none }) (v := ?_) rfl (by kernel_rfl) (by kernel_rfl) (by kernel_rfl) (fun _ _ _ h => h) (Or.inl ⟨rfl, ?_⟩) hS ?_
        rotate_left
        · (intro w' hS'; (try dsimp only at hS'); go_simp; try with_reducible rfl)
        simp only [Act.put, List.setIfInBounds_toArray, List.set_cons_zero, List.set_cons_succ]
        refine wpAnyH_take (i := 22) (oi := { dst := some 60, op := Go.Op.binOp Go.BinOp.sub 2 (Go.Operand.tmp 57) (Go.Operand.tmp 59) 2, type := 2, pos := "l21_parse.go:48", after := #[{ on := 19, ground := Go.Ground.data }, { on := 21, ground := Go.Ground.data }], guard := none }) (v := ?_) rfl (by kernel_rfl) (by kernel_rfl) (by kernel_rfl) (fun _ _ _ h => h) (Or.inl ⟨rfl, ?_⟩) hS ?_
        rotate_left
        · (intro w' hS'; (try dsimp only at hS'); go_simp; try with_reducible rfl)
        simp only [Act.put, List.setIfInBounds_toArray, List.set_cons_zero, List.set_cons_succ]
        refine take_call (i := 23) (oi := { dst := some 61, op := Go.Op.call { callee := Go.Callee.value (Go.Operand.func 90), args := #[Go.Operand.tmp 60], argTypes := #[2] }, type := 2, pos := "l21_parse.go:48", after := #[{ on := 22, ground := Go.Ground.data }, { on := 11, ground := Go.Ground.chain }], guard := none }) rfl (by kernel_rfl) (by kernel_rfl) (by kernel_rfl) (fun _ _ _ h => h) 90 #[Go.Operand.tmp 60] _ rfl rfl #[.int .i64 (b.x1 + b.x2 - s.x1 - s.x2)] Try.call90 (by go_simp) (fun w => impl_abs_c _ w (by omega)) hS ?_
        simp only [Act.put, List.setIfInBounds_toArray, List.set_cons_zero, List.set_cons_succ]
        refine wpAnyH_take (i := 24) (oi := { dst := some 62, op := Go.Op.binOp Go.BinOp.add 2 (Go.Operand.tmp 49) (Go.Operand.tmp 61) 2, type := 2, pos := "l21_parse.go:48", after := #[{ on := 11, ground := Go.Ground.data }, { on := 23, ground := Go.Ground.data }], guard := none }) (v := ?_) rfl (by kernel_rfl) (by kernel_rfl) (by kernel_rfl) (fun _ _ _ h => h) (Or.inl ⟨rfl, ?_⟩) hS ?_
        rotate_left
        · (intro w' hS'; (try dsimp only at hS'); go_simp; try with_reducible rfl)
        simp only [Act.put, List.setIfInBounds_toArray, List.set_cons_zero, List.set_cons_succ]
        refine wpAnyH_take (i := 25) (oi := { dst := some 63, op := Go.Op.load 67 (Go.Operand.tmp 7), type := 67, pos := "l21_parse.go:48", after := #[], guard := none }) (v := ?_) rfl (by kernel_rfl) (by kernel_rfl) (by kernel_rfl) (fun _ _ _ h => h) (Or.inl ⟨rfl, ?_⟩) hS ?_
        rotate_left
        · (intro w' hS'; (try dsimp only at hS'); go_simp; try with_reducible rfl)
        simp only [Act.put, List.setIfInBounds_toArray, List.set_cons_zero, List.set_cons_succ]
        refine wpAnyH_take (i := 26) (oi := { dst := some 64, op := Go.Op.load 67 (Go.Operand.tmp 5), type := 67, pos := "l21_parse.go:48", after := #[], guard := none }) (v := ?_) rfl (by kernel_rfl) (by kernel_rfl) (by kernel_rfl) (fun _ _ _ h => h) (Or.inl ⟨rfl, ?_⟩) hS ?_
        rotate_left
        · (intro w' hS'; (try dsimp only at hS'); go_simp; try with_reducible rfl)
        simp only [Act.put, List.setIfInBounds_toArray, List.set_cons_zero, List.set_cons_succ]
        refine wpAnyH_ready (rs := [27]) (by kernel_rfl) (by simp) ?_
        refine AllReadyH.cons (o := { dst := some 65, op := Go.Op.call { callee := Go.Callee.value (Go.Operand.func 91), args := #[Go.Operand.tmp 63, Go.Operand.tmp 64], argTypes := #[67, 67] }, type := 2, pos := "l21_parse.go:48", after := #[{ on := 25, ground := Go.Ground.data }, { on := 26, ground := Go.Ground.data }, { on := 23, ground := Go.Ground.chain }], guard := none }) rfl (fun K hK => ?_) .nil
        refine step_call 91 #[Go.Operand.tmp 63, Go.Operand.tmp 64] _ rfl rfl #[.agg #[.int .i64 s.x1, .int .i64 s.y1, .int .i64 s.x2, .int .i64 s.y2], .agg #[.int .i64 a.x1, .int .i64 a.y1, .int .i64 a.x2, .int .i64 a.y2]] Try.call91 (by go_simp) (impl_relation_c s a _ hs ha) ?_
        rintro e w1 ⟨rfl, rfl⟩
        refine ⟨_, rfl, ?_⟩
        replace Ra := (Ra.alloc (.cells #[.int .i64 s.x1, .int .i64 s.y1, .int .i64 s.x2, .int .i64 s.y2] 67)).alloc (.cells #[.int .i64 a.x1, .int .i64 a.y1, .int .i64 a.x2, .int .i64 a.y2] 67)
        replace Rb := (Rb.alloc (.cells #[.int .i64 s.x1, .int .i64 s.y1, .int .i64 s.x2, .int .i64 s.y2] 67)).alloc (.cells #[.int .i64 a.x1, .int .i64 a.y1, .int .i64 a.x2, .int .i64 a.y2] 67)
        replace Rs := (Rs.alloc (.cells #[.int .i64 s.x1, .int .i64 s.y1, .int .i64 s.x2, .int .i64 s.y2] 67)).alloc (.cells #[.int .i64 a.x1, .int .i64 a.y1, .int .i64 a.x2, .int .i64 a.y2] 67)
        replace hS := and12 (Ra.cell' (i := 0) rfl) (Ra.cell' (i := 1) rfl) (Ra.cell' (i := 2) rfl) (Ra.cell' (i := 3) rfl) (Rb.cell' (i := 0) rfl) (Rb.cell' (i := 1) rfl) (Rb.cell' (i := 2) rfl) (Rb.cell' (i := 3) rfl) (Rs.cell' (i := 0) rfl) (Rs.cell' (i := 1) rfl) (Rs.cell' (i := 2) rfl) (Rs.cell' (i := 3) rfl)
        refine hK.out _ _ ?_ (fun hHeld => ?_)
        · exact hS
        clear hK K hHeld
        simp only [Act.put, List.setIfInBounds_toArray, List.set_cons_zero, List.set_cons_succ]
        refine wpAnyH_take (i := 28) (oi := { dst := some 66, op := Go.Op.binOp Go.BinOp.eql 2 (Go.Operand.tmp 65) (Go.Operand.const (Go.Value.int Go.IntKind.i64 2)) 2, type := 4, pos := "l21_parse.go:48", after := #[{ on := 27, ground := Go.Ground.data }], guard := none }) (v := ?_) rfl (by kernel_rfl) (by kernel_rfl) (by kernel_rfl) (fun _ _ _ h => h) (Or.inl ⟨rfl, ?_⟩) hS ?_
        rotate_left
        · (intro w' hS'; (try dsimp only at hS'); go_simp; try with_reducible rfl)
        simp only [Act.put, List.setIfInBounds_toArray, List.set_cons_zero, List.set_cons_succ]
        refine wpAnyH_take (i := 29) (oi := { dst := some 67, op := Go.Op.move (Go.Operand.tmp 66), type := 4, pos := "l21_parse.go:48", after := #[{ on := 28, ground := Go.Ground.data }, { on := 27, ground := Go.Ground.chain }], guard := none }) (v := ?_) rfl (by kernel_rfl) (by kernel_rfl) (by kernel_rfl) (fun _ _ _ h => h) (Or.inl ⟨rfl, ?_⟩) hS ?_
        rotate_left
        · (intro w' hS'; (try dsimp only at hS'); go_simp; try with_reducible rfl)
        simp only [Act.put, List.setIfInBounds_toArray, List.set_cons_zero, List.set_cons_succ]
        refine wpAnyH_take (i := 30) (oi := { dst := some 68, op := Go.Op.load 67 (Go.Operand.tmp 7), type := 67, pos := "l21_parse.go:48", after := #[{ on := 29, ground := Go.Ground.guard }], guard := some (29, true) }) (v := ?_) rfl (by kernel_rfl) (by kernel_rfl) (by kernel_rfl) (fun _ _ _ h => h) (Or.inl ⟨rfl, ?_⟩) hS ?_
        rotate_left
        · (intro w' hS'; (try dsimp only at hS'); go_simp; try with_reducible rfl)
        simp only [Act.put, List.setIfInBounds_toArray, List.set_cons_zero, List.set_cons_succ]
        refine wpAnyH_take (i := 31) (oi := { dst := some 69, op := Go.Op.load 67 (Go.Operand.tmp 6), type := 67, pos := "l21_parse.go:48", after := #[{ on := 29, ground := Go.Ground.guard }], guard := some (29, true) }) (v := ?_) rfl (by kernel_rfl) (by kernel_rfl) (by kernel_rfl) (fun _ _ _ h => h) (Or.inl ⟨rfl, ?_⟩) hS ?_
        rotate_left
        · (intro w' hS'; (try dsimp only at hS'); go_simp; try with_reducible rfl)
        simp only [Act.put, List.setIfInBounds_toArray, List.set_cons_zero, List.set_cons_succ]
        refine wpAnyH_ready (rs := [32]) (by kernel_rfl) (by simp) ?_
        refine AllReadyH.cons (o := { dst := some 70, op := Go.Op.call { callee := Go.Callee.value (Go.Operand.func 91), args := #[Go.Operand.tmp 68, Go.Operand.tmp 69], argTypes := #[67, 67] }, type := 2, pos := "l21_parse.go:48", after := #[{ on := 30, ground := Go.Ground.data }, { on := 31, ground := Go.Ground.data }, { on := 29, ground := Go.Ground.chain }, { on := 29, ground := Go.Ground.guard }], guard := some (29, true) }) rfl (fun K hK => ?_) .nil
        refine step_call 91 #[Go.Operand.tmp 68, Go.Operand.tmp 69] _ rfl rfl #[.agg #[.int .i64 s.x1, .int .i64 s.y1, .int .i64 s.x2, .int .i64 s.y2], .agg #[.int .i64 b.x1, .int .i64 b.y1, .int .i64 b.x2, .int .i64 b.y2]] Try.call91 (by go_simp) (impl_relation_c s b _ hs hb) ?_
        rintro e w2 ⟨rfl, rfl⟩
        refine ⟨_, rfl, ?_⟩
        replace Ra := (Ra.alloc (.cells #[.int .i64 s.x1, .int .i64 s.y1, .int .i64 s.x2, .int .i64 s.y2] 67)).alloc (.cells #[.int .i64 b.x1, .int .i64 b.y1, .int .i64 b.x2, .int .i64 b.y2] 67)
        replace Rb := (Rb.alloc (.cells #[.int .i64 s.x1, .int .i64 s.y1, .int .i64 s.x2, .int .i64 s.y2] 67)).alloc (.cells #[.int .i64 b.x1, .int .i64 b.y1, .int .i64 b.x2, .int .i64 b.y2] 67)
        replace Rs := (Rs.alloc (.cells #[.int .i64 s.x1, .int .i64 s.y1, .int .i64 s.x2, .int .i64 s.y2] 67)).alloc (.cells #[.int .i64 b.x1, .int .i64 b.y1, .int .i64 b.x2, .int .i64 b.y2] 67)
        replace hS := and12 (Ra.cell' (i := 0) rfl) (Ra.cell' (i := 1) rfl) (Ra.cell' (i := 2) rfl) (Ra.cell' (i := 3) rfl) (Rb.cell' (i := 0) rfl) (Rb.cell' (i := 1) rfl) (Rb.cell' (i := 2) rfl) (Rb.cell' (i := 3) rfl) (Rs.cell' (i := 0) rfl) (Rs.cell' (i := 1) rfl) (Rs.cell' (i := 2) rfl) (Rs.cell' (i := 3) rfl)
        refine hK.out _ _ ?_ (fun hHeld => ?_)
        · exact hS
        clear hK K hHeld
        simp only [Act.put, List.setIfInBounds_toArray, List.set_cons_zero, List.set_cons_succ]
        refine wpAnyH_take (i := 33) (oi := { dst := some 71, op := Go.Op.binOp Go.BinOp.eql 2 (Go.Operand.tmp 70) (Go.Operand.const (Go.Value.int Go.IntKind.i64 3)) 2, type := 4, pos := "l21_parse.go:48", after := #[{ on := 32, ground := Go.Ground.data }, { on := 29, ground := Go.Ground.guard }, { on := 35, ground := Go.Ground.gcOnly Go.Departure.lateStores }], guard := some (29, true) }) (v := ?_) rfl (by kernel_rfl) (by kernel_rfl) (by kernel_rfl) (fun _ _ _ h => h) (Or.inl ⟨rfl, ?_⟩) hS ?_
        rotate_left
        · (intro w' hS'; (try dsimp only at hS'); go_simp; try with_reducible rfl)
        simp only [Act.put, List.setIfInBounds_toArray, List.set_cons_zero, List.set_cons_succ]
        refine wpAnyH_take (i := 34) (oi := { dst := some 72, op := Go.Op.pick (Go.Operand.tmp 67) (Go.Operand.tmp 71) (Go.Operand.const (Go.Value.bool false)), type := 4, pos := "l21_parse.go:48", after := #[{ on := 29, ground := Go.Ground.data }, { on := 33, ground := Go.Ground.data }, { on := 35, ground := Go.Ground.gcOnly Go.Departure.lateStores }], guard := none }) (v := ?_) rfl (by kernel_rfl) (by kernel_rfl) (by kernel_rfl) (fun _ _ _ h => h) (Or.inl ⟨rfl, ?_⟩) hS ?_
        rotate_left
        · (intro w' hS'; (try dsimp only at hS'); go_simp; try with_reducible rfl)
        simp only [Act.put, List.setIfInBounds_toArray, List.set_cons_zero, List.set_cons_succ]
        refine wpAnyH_take (i := 35) (oi := { dst := some 8, op := Go.Op.assign (Go.Operand.tmp 62), type := 2, pos := "l21_parse.go:48", after := #[{ on := 24, ground := Go.Ground.data }, { on := 32, ground := Go.Ground.chain }, { on := 0, ground := Go.Ground.phase }, { on := 1, ground := Go.Ground.phase }, { on := 2, ground := Go.Ground.phase }, { on := 3, ground := Go.Ground.phase }, { on := 4, ground := Go.Ground.phase }, { on := 5, ground := Go.Ground.phase }, { on := 6, ground := Go.Ground.phase }, { on := 7, ground := Go.Ground.phase }, { on := 8, ground := Go.Ground.phase }, { on := 9, ground := Go.Ground.phase }, { on := 10, ground := Go.Ground.phase }, { on := 11, ground := Go.Ground.phase }, { on := 12, ground := Go.Ground.phase }, { on := 13, ground := Go.Ground.phase }, { on := 14, ground := Go.Ground.phase }, { on := 15, ground := Go.Ground.phase }, { on := 16, ground := Go.Ground.phase }, { on := 17, ground := Go.Ground.phase }, { on := 18, ground := Go.Ground.phase }, { on := 19, ground := Go.Ground.phase }, { on := 20, ground := Go.Ground.phase }, { on := 21, ground := Go.Ground.phase }, { on := 22, ground := Go.Ground.phase }, { on := 23, ground := Go.Ground.phase }, { on := 24, ground := Go.Ground.phase }, { on := 25, ground := Go.Ground.textOnly Go.Departure.lateStores }, { on := 26, ground := Go.Ground.textOnly Go.Departure.lateStores }, { on := 27, ground := Go.Ground.textOnly Go.Departure.lateStoresUnsure }, { on := 28, ground := Go.Ground.textOnly Go.Departure.lateStores }, { on := 29, ground := Go.Ground.textOnly Go.Departure.lateStores }, { on := 30, ground := Go.Ground.textOnly Go.Departure.lateStores }, { on := 31, ground := Go.Ground.textOnly Go.Departure.lateStores }, { on := 32, ground := Go.Ground.textOnly Go.Departure.lateStoresUnsure }, { on := 33, ground := Go.Ground.textOnly Go.Departure.lateStores }, { on := 34, ground := Go.Ground.textOnly Go.Departure.lateStores }], guard := none }) (v := ?_) rfl (by kernel_rfl) (by kernel_rfl) (by kernel_rfl) (fun _ _ _ h => h) (Or.inl ⟨rfl, ?_⟩) hS ?_
        rotate_left
        · (intro w' hS'; (try dsimp only at hS'); go_simp; try with_reducible rfl)
        simp only [Act.put, List.setIfInBounds_toArray, List.set_cons_zero, List.set_cons_succ]
        refine wpAnyH_take (i := 36) (oi := { dst := some 9, op := Go.Op.assign (Go.Operand.tmp 72), type := 4, pos := "l21_parse.go:48", after := #[{ on := 34, ground := Go.Ground.data }, { on := 35, ground := Go.Ground.chain }, { on := 0, ground := Go.Ground.phase }, { on := 1, ground := Go.Ground.phase }, { on := 2, ground := Go.Ground.phase }, { on := 3, ground := Go.Ground.phase }, { on := 4, ground := Go.Ground.phase }, { on := 5, ground := Go.Ground.phase }, { on := 6, ground := Go.Ground.phase }, { on := 7, ground := Go.Ground.phase }, { on := 8, ground := Go.Ground.phase }, { on := 9, ground := Go.Ground.phase }, { on := 10, ground := Go.Ground.phase }, { on := 11, ground := Go.Ground.phase }, { on := 12, ground := Go.Ground.phase }, { on := 13, ground := Go.Ground.phase }, { on := 14, ground := Go.Ground.phase }, { on := 15, ground := Go.Ground.phase }, { on := 16, ground := Go.Ground.phase }, { on := 17, ground := Go.Ground.phase }, { on := 18, ground := Go.Ground.phase }, { on := 19, ground := Go.Ground.phase }, { on := 20, ground := Go.Ground.phase }, { on := 21, ground := Go.Ground.phase }, { on := 22, ground := Go.Ground.phase }, { on := 23, ground := Go.Ground.phase }, { on := 24, ground := Go.Ground.phase }, { on := 25, ground := Go.Ground.phase }, { on := 26, ground := Go.Ground.phase }, { on := 27, ground := Go.Ground.phase }, { on := 28, ground := Go.Ground.phase }, { on := 29, ground := Go.Ground.phase }, { on := 30, ground := Go.Ground.phase }, { on := 31, ground := Go.Ground.phase }, { on := 32, ground := Go.Ground.phase }, { on := 33, ground := Go.Ground.phase }, { on := 34, ground := Go.Ground.phase }, { on := 35, ground := Go.Ground.phase }], guard := none }) (v := ?_) rfl (by kernel_rfl) (by kernel_rfl) (by kernel_rfl) (fun _ _ _ h => h) (Or.inl ⟨rfl, ?_⟩) hS ?_
        rotate_left
        · (intro w' hS'; (try dsimp only at hS'); go_simp; try with_reducible rfl)
        simp only [Act.put, List.setIfInBounds_toArray, List.set_cons_zero, List.set_cons_succ]
        refine wpAnyH_done (by kernel_rfl) ?_ _
        go_wp2_with fail
        go_ret2
        exact ⟨ret_pair (by simp [ownF]) (by rw [Bool.eq_iff_iff]; simp [fitsF, R.out]), ((((al.alloc (by simp; omega) _).alloc (by simp; omega) _).alloc (by simp; omega) _).alloc (by simp; omega) _)⟩
      · have g : (relF s a == 2) = false := by simp [hr]
        have R := Lib.hid hr
        clear hr
        go_enter Try.func85, Try.ntmps85
        go_wp2_with fail
        obtain ⟨Ra, Rb, Rs⟩ := three_boxes w a b s
        replace Ra := Ra.drew
        replace Rb := Rb.drew
        replace Rs := Rs.drew
        have hS : (fun w' => w'.cell? ⟨w.heap.size, 0, none⟩ = some (.int .i64 a.x1) ∧ w'.cell? ⟨w.heap.size, 1, none⟩ = some (.int .i64 a.y1) ∧ w'.cell? ⟨w.heap.size, 2, none⟩ = some (.int .i64 a.x2) ∧ w'.cell? ⟨w.heap.size, 3, none⟩ = some (.int .i64 a.y2) ∧ w'.cell? ⟨w.heap.size + 1, 0, none⟩ = some (.int .i64 b.x1) ∧ w'.cell? ⟨w.heap.size + 1, 1, none⟩ = some (.int .i64 b.y1) ∧ w'.cell? ⟨w.heap.size + 1, 2, none⟩ = some (.int .i64 b.x2) ∧ w'.cell? ⟨w.heap.size + 1, 3, none⟩ = some (.int .i64 b.y2) ∧ w'.cell? ⟨w.heap.size + 1 + 1, 0, none⟩ = some (.int .i64 s.x1) ∧ w'.cell? ⟨w.heap.size + 1 + 1, 1, none⟩ = some (.int .i64 s.y1) ∧ w'.cell? ⟨w.heap.size + 1 + 1, 2, none⟩ = some (.int .i64 s.x2) ∧ w'.cell? ⟨w.heap.size + 1 + 1, 3, none⟩ = some (.int .i64 s.y2)) (((w.alloc (.cells #[.int .i64 a.x1, .int .i64 a.y1, .int .i64 a.x2, .int .i64 a.y2] 67)).alloc (.cells #[.int .i64 b.x1, .int .i64 b.y1, .int .i64 b.x2, .int .i64 b.y2] 67)).alloc (.cells #[.int .i64 s.x1, .int .i64 s.y1, .int .i64 s.x2, .int .i64 s.y2] 67)).drew := ⟨Ra.cell' (i := 0) rfl, Ra.cell' (i := 1) rfl, Ra.cell' (i := 2) rfl, Ra.cell' (i := 3) rfl, Rb.cell' (i := 0) rfl, Rb.cell' (i := 1) rfl, Rb.cell' (i := 2) rfl, Rb.cell' (i := 3) rfl, Rs.cell' (i := 0) rfl, Rs.cell' (i := 1) rfl, Rs.cell' (i := 2) rfl, Rs.cell' (i := 3) rfl⟩
        dsimp only at hS
        have al : Below w.heap.size w (((w.alloc (.cells #[.int .i64 a.x1, .int .i64 a.y1, .int .i64 a.x2, .int .i64 a.y2] 67)).alloc (.cells #[.int .i64 b.x1, .int .i64 b.y1, .int .i64 b.x2, .int .i64 b.y2] 67)).alloc (.cells #[.int .i64 s.x1, .int .i64 s.y1, .int .i64 s.x2, .int .i64 s.y2] 67)).drew := ((((Below.refl _ _).alloc (Nat.le_refl _) _).alloc (by simp) _).alloc (by simp; omega) _).drew
        refine wp_region_held_drew (S := (fun w' => w'.cell? ⟨w.heap.size, 0, none⟩ = some (.int .i64 a.x1) ∧ w'.cell? ⟨w.heap.size, 1, none⟩ = some (.int .i64 a.y1) ∧ w'.cell? ⟨w.heap.size, 2, none⟩ = some (.int .i64 a.x2) ∧ w'.cell? ⟨w.heap.size, 3, none⟩ = some (.int .i64 a.y2) ∧ w'.cell? ⟨w.heap.size + 1, 0, none⟩ = some (.int .i64 b.x1) ∧ w'.cell? ⟨w.heap.size + 1, 1, none⟩ = some (.int .i64 b.y1) ∧ w'.cell? ⟨w.heap.size + 1, 2, none⟩ = some (.int .i64 b.x2) ∧ w'.cell? ⟨w.heap.size + 1, 3, none⟩ = some (.int .i64 b.y2) ∧ w'.cell? ⟨w.heap.size + 1 + 1, 0, none⟩ = some (.int .i64 s.x1) ∧ w'.cell? ⟨w.heap.size + 1 + 1, 1, none⟩ = some (.int .i64 s.y1) ∧ w'.cell? ⟨w.heap.size + 1 + 1, 2, none⟩ = some (.int .i64 s.x2) ∧ w'.cell? ⟨w.heap.size + 1 + 1, 3, none⟩ = some (.int .i64 s.y2))) (by kernel_rfl) hS (fun _ => ?_)
        refine wpAnyH_take (i := 0) (oi := { dst := some 38, op := Go.Op.fieldAddr 67 (Go.Operand.tmp 5) 0, type := 0, pos := "l21_parse.go:48", after := #[], guard := none }) (v := ?_) rfl (by kernel_rfl) (by kernel_rfl) (by kernel_rfl) (fun _ _ _ h => h) (Or.inl ⟨rfl, ?_⟩) hS ?_
        rotate_left
        · (intro w' hS'; (try dsimp only at hS'); go_simp; try with_reducible rfl)
        simp only [Act.put, List.setIfInBounds_toArray, List.set_cons_zero, List.set_cons_succ]
        refine wpAnyH_take (i := 1) (oi := { dst := some 39, op := Go.Op.load 2 (Go.Operand.tmp 38), type := 2, pos := "l21_parse.go:48", after := #[{ on := 0, ground := Go.Ground.data }], guard := none }) (v := ?_) rfl (by kernel_rfl) (by kernel_rfl) (by kernel_rfl) (fun _ _ _ h => h) (Or.inl ⟨rfl, ?_⟩) hS ?_
        rotate_left
        · (intro w' hS'; (try dsimp only at hS'); go_simp; try with_reducible rfl)
        simp only [Act.put, List.setIfInBounds_toArray, List.set_cons_zero, List.set_cons_succ]
        refine wpAnyH_take (i := 2) (oi := { dst := some 40, op := Go.Op.fieldAddr 67 (Go.Operand.tmp 5) 2, type := 0, pos := "l21_parse.go:48", after := #[], guard := none }) (v := ?_) rfl (by kernel_rfl) (by kernel_rfl) (by kernel_rfl) (fun _ _ _ h => h) (Or.inl ⟨rfl, ?_⟩) hS ?_
        rotate_left
        · (intro w' hS'; (try dsimp only at hS'); go_simp; try with_reducible rfl)
        simp only [Act.put, List.setIfInBounds_toArray, List.set_cons_zero, List.set_cons_succ]
        refine wpAnyH_take (i := 3) (oi := { dst := some 41, op := Go.Op.load 2 (Go.Operand.tmp 40), type := 2, pos := "l21_parse.go:48", after := #[{ on := 2, ground := Go.Ground.data }], guard := none }) (v := ?_) rfl (by kernel_rfl) (by kernel_rfl) (by kernel_rfl) (fun _ _ _ h => h) (Or.inl ⟨rfl, ?_⟩) hS ?_
        rotate_left
        · (intro w' hS'; (try dsimp only at hS'); go_simp; try with_reducible rfl)
        simp only [Act.put, List.setIfInBounds_toArray, List.set_cons_zero, List.set_cons_succ]
        refine wpAnyH_take (i := 4) (oi := { dst := some 42, op := Go.Op.binOp Go.BinOp.add 2 (Go.Operand.tmp 39) (Go.Operand.tmp 41) 2, type := 2, pos := "l21_parse.go:48", after := #[{ on := 1, ground := Go.Ground.data }, { on := 3, ground := Go.Ground.data }], guard := none }) (v := ?_) rfl (by kernel_rfl) (by kernel_rfl) (by kernel_rfl) (fun _ _ _ h => h) (Or.inl ⟨rfl, ?_⟩) hS ?_
        rotate_left
        · (intro w' hS'; (try dsimp only at hS'); go_simp; try with_reducible rfl)
        simp only [Act.put, List.setIfInBounds_toArray, List.set_cons_zero, List.set_cons_succ]
        refine wpAnyH_take (i := 5) (oi := { dst := some 43, op := Go.Op.fieldAddr 67 (Go.Operand.tmp 7) 0, type := 0, pos := "l21_parse.go:48", after := #[], guard := none }) (v := ?_) rfl (by kernel_rfl) (by kernel_rfl) (by kernel_rfl) (fun _ _ _ h => h) (Or.inl ⟨rfl, ?_⟩) hS ?_
        rotate_left
        · (intro w' hS'; (try dsimp only at hS'); go_simp; try with_reducible rfl)
        simp only [Act.put, List.setIfInBounds_toArray, List.set_cons_zero, List.set_cons_succ]
        refine wpAnyH_take (i := 6) (oi := { dst := some 44, op := Go.Op.load 2 (Go.Operand.tmp 43), type := 2, pos := "l21_parse.go:48", after := #[{ on := 5, ground := Go.Ground.data }], guard := none }) (v := ?_) rfl (by kernel_rfl) (by kernel_rfl) (by kernel_rfl) (fun _ _ _ h => h) (Or.inl ⟨rfl, ?_⟩) hS ?_
        rotate_left
        · (intro w' hS'; (try dsimp only at hS'); go_simp; try with_reducible rfl)
        simp only [Act.put, List.setIfInBounds_toArray, List.set_cons_zero, List.set_cons_succ]
        refine wpAnyH_take (i := 7) (oi := { dst := some 45, op := Go.Op.binOp Go.BinOp.sub 2 (Go.Operand.tmp 42) (Go.Operand.tmp 44) 2, type := 2, pos := "l21_parse.go:48", after := #[{ on := 4, ground := Go.Ground.data }, { on := 6, ground := Go.Ground.data }], guard := none }) (v := ?_) rfl (by kernel_rfl) (by kernel_rfl) (by kernel_rfl) (fun _ _ _ h => h) (Or.inl ⟨rfl, ?_⟩) hS ?_
        rotate_left
        · (intro w' hS'; (try dsimp only at hS'); go_simp; try with_reducible rfl)
        simp only [Act.put, List.setIfInBounds_toArray, List.set_cons_zero, List.set_cons_succ]
        refine wpAnyH_take (i := 8) (oi := { dst := some 46, op := Go.Op.fieldAddr 67 (Go.Operand.tmp 7) 2, type := 0, pos := "l21_parse.go:48", after := #[], guard := none }) (v := ?_) rfl (by kernel_rfl) (by kernel_rfl) (by kernel_rfl) (fun _ _ _ h => h) (Or.inl ⟨rfl, ?_⟩) hS ?_
        rotate_left
        · (intro w' hS'; (try dsimp only at hS'); go_simp; try with_reducible rfl)
        simp only [Act.put, List.setIfInBounds_toArray, List.set_cons_zero, List.set_cons_succ]
        refine wpAnyH_take (i := 9) (oi := { dst := some 47, op := Go.Op.load 2 (Go.Operand.tmp 46), type := 2, pos := "l21_parse.go:48", after := #[{ on := 8, ground := Go.Ground.data }], guard := none }) (v := ?_) rfl (by kernel_rfl) (by kernel_rfl) (by kernel_rfl) (fun _ _ _ h => h) (Or.inl ⟨rfl, ?_⟩) hS ?_
        rotate_left
        · (intro w' hS'; (try dsimp only at hS'); go_simp; try with_reducible rfl)
        simp only [Act.put, List.setIfInBounds_toArray, List.set_cons_zero, List.set_cons_succ]
        refine wpAnyH_take (i := 10) (oi := { dst := some 48, op := Go.Op.binOp Go.BinOp.sub 2 (Go.Operand.tmp 45) (Go.Operand.tmp 47) 2, type := 2, pos := "l21_parse.go:48", after := #[{ on := 7, ground := Go.Ground.data }, { on := 9, ground := Go.Ground.data }], guard := none }) (v := ?_) rfl (by kernel_rfl) (by kernel_rfl) (by kernel_rfl) (fun _ _ _ h => h) (Or.inl ⟨rfl, ?_⟩) hS ?_
        rotate_left
        · (intro w' hS'; (try dsimp only at hS'); go_simp; try with_reducible rfl)
        simp only [Act.put, List.setIfInBounds_toArray, List.set_cons_zero, List.set_cons_succ]
        refine take_call (i := 11) (oi := { dst := some 49, op := Go.Op.call { callee := Go.Callee.value (Go.Operand.func 90), args := #[Go.Operand.tmp 48], argTypes := #[2] }, type := 2, pos := "l21_parse.go:48", after := #[{ on := 10, ground := Go.Ground.data }], guard := none }) rfl (by kernel_rfl) (by kernel_rfl) (by kernel_rfl) (fun _ _ _ h => h) 90 #[Go.Operand.tmp 48] _ rfl rfl #[.int .i64 (a.x1 + a.x2 - s.x1 - s.x2)] Try.call90 (by go_simp) (fun w => impl_abs_c _ w (by omega)) hS ?_
        simp only [Act.put, List.setIfInBounds_toArray, List.set_cons_zero, List.set_cons_succ]
        refine wpAnyH_take (i := 12) (oi := { dst := some 50, op := Go.Op.fieldAddr 67 (Go.Operand.tmp 6) 0, type := 0, pos := "l21_parse.go:48", after := #[], guard := none }) (v := ?_) rfl (by kernel_rfl) (by kernel_rfl) (by kernel_rfl) (fun _ _ _ h => h) (Or.inl ⟨rfl, ?_⟩) hS ?_
        rotate_left
        · (intro w' hS'; (try dsimp only at hS'); go_simp; try with_reducible rfl)
        simp only [Act.put, List.setIfInBounds_toArray, List.set_cons_zero, List.set_cons_succ]
        refine wpAnyH_take (i := 13) (oi := { dst := some 51, op := Go.Op.load 2 (Go.Operand.tmp 50), type := 2, pos := "l21_parse.go:48", after := #[{ on := 12, ground := Go.Ground.data }], guard := none }) (v := ?_) rfl (by kernel_rfl) (by kernel_rfl) (by kernel_rfl) (fun _ _ _ h => h) (Or.inl ⟨rfl, ?_⟩) hS ?_
        rotate_left
        · (intro w' hS'; (try dsimp only at hS'); go_simp; try with_reducible rfl)
        simp only [Act.put, List.setIfInBounds_toArray, List.set_cons_zero, List.set_cons_succ]
        refine wpAnyH_take (i := 14) (oi := { dst := some 52, op := Go.Op.fieldAddr 67 (Go.Operand.tmp 6) 2, type := 0, pos := "l21_parse.go:48", after := #[], guard := none }) (v := ?_) rfl (by kernel_rfl) (by kernel_rfl) (by kernel_rfl) (fun _ _ _ h => h) (Or.inl ⟨rfl, ?_⟩) hS ?_
        rotate_left
        · (intro w' hS'; (try dsimp only at hS'); go_simp; try with_reducible rfl)
        simp only [Act.put, List.setIfInBounds_toArray, List.set_cons_zero, List.set_cons_succ]
        refine wpAnyH_take (i := 15) (oi := { dst := some 53, op := Go.Op.load 2 (Go.Operand.tmp 52), type := 2, pos := "l21_parse.go:48", after := #[{ on := 14, ground := Go.Ground.data }], guard := none }) (v := ?_) rfl (by kernel_rfl) (by kernel_rfl) (by kernel_rfl) (fun _ _ _ h => h) (Or.inl ⟨rfl, ?_⟩) hS ?_
        rotate_left
        · (intro w' hS'; (try dsimp only at hS'); go_simp; try with_reducible rfl)
        simp only [Act.put, List.setIfInBounds_toArray, List.set_cons_zero, List.set_cons_succ]
        refine wpAnyH_take (i := 16) (oi := { dst := some 54, op := Go.Op.binOp Go.BinOp.add 2 (Go.Operand.tmp 51) (Go.Operand.tmp 53) 2, type := 2, pos := "l21_parse.go:48", after := #[{ on := 13, ground := Go.Ground.data }, { on := 15, ground := Go.Ground.data }], guard := none }) (v := ?_) rfl (by kernel_rfl) (by kernel_rfl) (by kernel_rfl) (fun _ _ _ h => h) (Or.inl ⟨rfl, ?_⟩) hS ?_
        rotate_left
        · (intro w' hS'; (try dsimp only at hS'); go_simp; try with_reducible rfl)
        simp only [Act.put, List.setIfInBounds_toArray, List.set_cons_zero, List.set_cons_succ]
        refine wpAnyH_take (i := 17) (oi := { dst := some 55, op := Go.Op.fieldAddr 67 (Go.Operand.tmp 7) 0, type := 0, pos := "l21_parse.go:48", after := #[], guard := none }) (v := ?_) rfl (by kernel_rfl) (by kernel_rfl) (by kernel_rfl) (fun _ _ _ h => h) (Or.inl ⟨rfl, ?_⟩) hS ?_
        rotate_left
        · (intro w' hS'; (try dsimp only at hS'); go_simp; try with_reducible rfl)
        simp only [Act.put, List.setIfInBounds_toArray, List.set_cons_zero, List.set_cons_succ]
        refine wpAnyH_take (i := 18) (oi := { dst := some 56, op := Go.Op.load 2 (Go.Operand.tmp 55), type := 2, pos := "l21_parse.go:48", after := #[{ on := 17, ground := Go.Ground.data }], guard := none }) (v := ?_) rfl (by kernel_rfl) (by kernel_rfl) (by kernel_rfl) (fun _ _ _ h => h) (Or.inl ⟨rfl, ?_⟩) hS ?_
        rotate_left
        · (intro w' hS'; (try dsimp only at hS'); go_simp; try with_reducible rfl)
        simp only [Act.put, List.setIfInBounds_toArray, List.set_cons_zero, List.set_cons_succ]
        refine wpAnyH_take (i := 19) (oi := { dst := some 57, op := Go.Op.binOp Go.BinOp.sub 2 (Go.Operand.tmp 54) (Go.Operand.tmp 56) 2, type := 2, pos := "l21_parse.go:48", after := #[{ on := 16, ground := Go.Ground.data }, { on := 18, ground := Go.Ground.data }], guard := none }) (v := ?_) rfl (by kernel_rfl) (by kernel_rfl) (by kernel_rfl) (fun _ _ _ h => h) (Or.inl ⟨rfl, ?_⟩) hS ?_
        rotate_left
        · (intro w' hS'; (try dsimp only at hS'); go_simp; try with_reducible rfl)
        simp only [Act.put, List.setIfInBounds_toArray, List.set_cons_zero, List.set_cons_succ]
        refine wpAnyH_take (i := 20) (oi := { dst := some 58, op := Go.Op.fieldAddr 67 (Go.Operand.tmp 7) 2, type := 0, pos := "l21_parse.go:48", after := #[], guard := none }) (v := ?_) rfl (by kernel_rfl) (by kernel_rfl) (by kernel_rfl) (fun _ _ _ h => h) (Or.inl ⟨rfl, ?_⟩) hS ?_
        rotate_left
        · (intro w' hS'; (try dsimp only at hS'); go_simp; try with_reducible rfl)
        simp only [Act.put, List.setIfInBounds_toArray, List.set_cons_zero, List.set_cons_succ]
        refine wpAnyH_take (i := 21) (oi := { dst := some 59, op := Go.Op.load 2 (Go.Operand.tmp 58), type := 2, pos := "l21_parse.go:48", after := #[{ on := 20, ground := Go.Ground.data }], guard := none }) (v := ?_) rfl (by kernel_rfl) (by kernel_rfl) (by kernel_rfl) (fun _ _ _ h => h) (Or.inl ⟨rfl, ?_⟩) hS ?_
        rotate_left
        · (intro w' hS'; (try dsimp only at hS'); go_simp; try with_reducible rfl)
        simp only [Act.put, List.setIfInBounds_toArray, List.set_cons_zero, List.set_cons_succ]
        refine wpAnyH_take (i := 22) (oi := { dst := some 60, op := Go.Op.binOp Go.BinOp.sub 2 (Go.Operand.tmp 57) (Go.Operand.tmp 59) 2, type := 2, pos := "l21_parse.go:48", after := #[{ on := 19, ground := Go.Ground.data }, { on := 21, ground := Go.Ground.data }], guard := none }) (v := ?_) rfl (by kernel_rfl) (by kernel_rfl) (by kernel_rfl) (fun _ _ _ h => h) (Or.inl ⟨rfl, ?_⟩) hS ?_
        rotate_left
        · (intro w' hS'; (try dsimp only at hS'); go_simp; try with_reducible rfl)
        simp only [Act.put, List.setIfInBounds_toArray, List.set_cons_zero, List.set_cons_succ]
        refine take_call (i := 23) (oi := { dst := some 61, op := Go.Op.call { callee := Go.Callee.value (Go.Operand.func 90), args := #[Go.Operand.tmp 60], argTypes := #[2] }, type := 2, pos := "l21_parse.go:48", after := #[{ on := 22, ground := Go.Ground.data }, { on := 11, ground := Go.Ground.chain }], guard := none }) rfl (by kernel_rfl) (by kernel_rfl) (by kernel_rfl) (fun _ _ _ h => h) 90 #[Go.Operand.tmp 60] _ rfl rfl #[.int .i64 (b.x1 + b.x2 - s.x1 - s.x2)] Try.call90 (by go_simp) (fun w => impl_abs_c _ w (by omega)) hS ?_
        simp only [Act.put, List.setIfInBounds_toArray, List.set_cons_zero, List.set_cons_succ]
        refine wpAnyH_take (i := 24) (oi := { dst := some 62, op := Go.Op.binOp Go.BinOp.add 2 (Go.Operand.tmp 49) (Go.Operand.tmp 61) 2, type := 2, pos := "l21_parse.go:48", after := #[{ on := 11, ground := Go.Ground.data }, { on := 23, ground := Go.Ground.data }], guard := none }) (v := ?_) rfl (by kernel_rfl) (by kernel_rfl) (by kernel_rfl) (fun _ _ _ h => h) (Or.inl ⟨rfl, ?_⟩) hS ?_
        rotate_left
        · (intro w' hS'; (try dsimp only at hS'); go_simp; try with_reducible rfl)
        simp only [Act.put, List.setIfInBounds_toArray, List.set_cons_zero, List.set_cons_succ]
        refine wpAnyH_take (i := 25) (oi := { dst := some 63, op := Go.Op.load 67 (Go.Operand.tmp 7), type := 67, pos := "l21_parse.go:48", after := #[], guard := none }) (v := ?_) rfl (by kernel_rfl) (by kernel_rfl) (by kernel_rfl) (fun _ _ _ h => h) (Or.inl ⟨rfl, ?_⟩) hS ?_
        rotate_left
        · (intro w' hS'; (try dsimp only at hS'); go_simp; try with_reducible rfl)
        simp only [Act.put, List.setIfInBounds_toArray, List.set_cons_zero, List.set_cons_succ]
        refine wpAnyH_take (i := 26) (oi := { dst := some 64, op := Go.Op.load 67 (Go.Operand.tmp 5), type := 67, pos := "l21_parse.go:48", after := #[], guard := none }) (v := ?_) rfl (by kernel_rfl) (by kernel_rfl) (by kernel_rfl) (fun _ _ _ h => h) (Or.inl ⟨rfl, ?_⟩) hS ?_
        rotate_left
        · (intro w' hS'; (try dsimp only at hS'); go_simp; try with_reducible rfl)
        simp only [Act.put, List.setIfInBounds_toArray, List.set_cons_zero, List.set_cons_succ]
        refine wpAnyH_ready (rs := [27]) (by kernel_rfl) (by simp) ?_
        refine AllReadyH.cons (o := { dst := some 65, op := Go.Op.call { callee := Go.Callee.value (Go.Operand.func 91), args := #[Go.Operand.tmp 63, Go.Operand.tmp 64], argTypes := #[67, 67] }, type := 2, pos := "l21_parse.go:48", after := #[{ on := 25, ground := Go.Ground.data }, { on := 26, ground := Go.Ground.data }, { on := 23, ground := Go.Ground.chain }], guard := none }) rfl (fun K hK => ?_) .nil
        refine step_call 91 #[Go.Operand.tmp 63, Go.Operand.tmp 64] _ rfl rfl #[.agg #[.int .i64 s.x1, .int .i64 s.y1, .int .i64 s.x2, .int .i64 s.y2], .agg #[.int .i64 a.x1, .int .i64 a.y1, .int .i64 a.x2, .int .i64 a.y2]] Try.call91 (by go_simp) (impl_relation_c s a _ hs ha) ?_
        rintro e w1 ⟨rfl, rfl⟩
        refine ⟨_, rfl, ?_⟩
        replace Ra := (Ra.alloc (.cells #[.int .i64 s.x1, .int .i64 s.y1, .int .i64 s.x2, .int .i64 s.y2] 67)).alloc (.cells #[.int .i64 a.x1, .int .i64 a.y1, .int .i64 a.x2, .int .i64 a.y2] 67)
        replace Rb := (Rb.alloc (.cells #[.int .i64 s.x1, .int .i64 s.y1, .int .i64 s.x2, .int .i64 s.y2] 67)).alloc (.cells #[.int .i64 a.x1, .int .i64 a.y1, .int .i64 a.x2, .int .i64 a.y2] 67)
        replace Rs := (Rs.alloc (.cells #[.int .i64 s.x1, .int .i64 s.y1, .int .i64 s.x2, .int .i64 s.y2] 67)).alloc (.cells #[.int .i64 a.x1, .int .i64 a.y1, .int .i64 a.x2, .int .i64 a.y2] 67)
        replace hS := and12 (Ra.cell' (i := 0) rfl) (Ra.cell' (i := 1) rfl) (Ra.cell' (i := 2) rfl) (Ra.cell' (i := 3) rfl) (Rb.cell' (i := 0) rfl) (Rb.cell' (i := 1) rfl) (Rb.cell' (i := 2) rfl) (Rb.cell' (i := 3) rfl) (Rs.cell' (i := 0) rfl) (Rs.cell' (i := 1) rfl) (Rs.cell' (i := 2) rfl) (Rs.cell' (i := 3) rfl)
        refine hK.out _ _ ?_ (fun hHeld => ?_)
        · exact hS
        clear hK K hHeld
        simp only [Act.put, List.setIfInBounds_toArray, List.set_cons_zero, List.set_cons_succ]
        refine wpAnyH_take (i := 28) (oi := { dst := some 66, op := Go.Op.binOp Go.BinOp.eql 2 (Go.Operand.tmp 65) (Go.Operand.const (Go.Value.int Go.IntKind.i64 2)) 2, type := 4, pos := "l21_parse.go:48", after := #[{ on := 27, ground := Go.Ground.data }], guard := none }) (v := ?_) rfl (by kernel_rfl) (by kernel_rfl) (by kernel_rfl) (fun _ _ _ h => h) (Or.inl ⟨rfl, ?_⟩) hS ?_
        rotate_left
        · (intro w' hS'; (try dsimp only at hS'); go_simp; try with_reducible rfl)
        simp only [Act.put, List.setIfInBounds_toArray, List.set_cons_zero, List.set_cons_succ]
        refine wpAnyH_take (i := 29) (oi := { dst := some 67, op := Go.Op.move (Go.Operand.tmp 66), type := 4, pos := "l21_parse.go:48", after := #[{ on := 28, ground := Go.Ground.data }, { on := 27, ground := Go.Ground.chain }], guard := none }) (v := ?_) rfl (by kernel_rfl) (by kernel_rfl) (by kernel_rfl) (fun _ _ _ h => h) (Or.inl ⟨rfl, ?_⟩) hS ?_
        rotate_left
        · (intro w' hS'; (try dsimp only at hS'); go_simp; try with_reducible rfl)
        simp only [Act.put, List.setIfInBounds_toArray, List.set_cons_zero, List.set_cons_succ]
        refine wpAnyH_take (i := 30) (oi := { dst := some 68, op := Go.Op.load 67 (Go.Operand.tmp 7), type := 67, pos := "l21_parse.go:48", after := #[{ on := 29, ground := Go.Ground.guard }], guard := some (29, true) }) rfl (by kernel_rfl) (by kernel_rfl) (by kernel_rfl) (fun _ _ _ h => h) (Or.inr ⟨rfl, rfl⟩) hS ?_
        simp only [Act.put, List.setIfInBounds_toArray, List.set_cons_zero, List.set_cons_succ]
        refine wpAnyH_take (i := 31) (oi := { dst := some 69, op := Go.Op.load 67 (Go.Operand.tmp 6), type := 67, pos := "l21_parse.go:48", after := #[{ on := 29, ground := Go.Ground.guard }], guard := some (29, true) }) rfl (by kernel_rfl) (by kernel_rfl) (by kernel_rfl) (fun _ _ _ h => h) (Or.inr ⟨rfl, rfl⟩) hS ?_
        simp only [Act.put, List.setIfInBounds_toArray, List.set_cons_zero, List.set_cons_succ]
        refine wpAnyH_take (i := 32) (oi := { dst := some 70, op := Go.Op.call { callee := Go.Callee.value (Go.Operand.func 91), args := #[Go.Operand.tmp 68, Go.Operand.tmp 69], argTypes := #[67, 67] }, type := 2, pos := "l21_parse.go:48", after := #[{ on := 30, ground := Go.Ground.data }, { on := 31, ground := Go.Ground.data }, { on := 29, ground := Go.Ground.chain }, { on := 29, ground := Go.Ground.guard }], guard := some (29, true) }) rfl (by kernel_rfl) (by kernel_rfl) (by kernel_rfl) (fun _ _ _ h => h) (Or.inr ⟨rfl, rfl⟩) hS ?_
        simp only [Act.put, List.setIfInBounds_toArray, List.set_cons_zero, List.set_cons_succ]
        refine wpAnyH_take (i := 33) (oi := { dst := some 71, op := Go.Op.binOp Go.BinOp.eql 2 (Go.Operand.tmp 70) (Go.Operand.const (Go.Value.int Go.IntKind.i64 3)) 2, type := 4, pos := "l21_parse.go:48", after := #[{ on := 32, ground := Go.Ground.data }, { on := 29, ground := Go.Ground.guard }, { on := 35, ground := Go.Ground.gcOnly Go.Departure.lateStores }], guard := some (29, true) }) rfl (by kernel_rfl) (by kernel_rfl) (by kernel_rfl) (fun _ _ _ h => h) (Or.inr ⟨rfl, rfl⟩) hS ?_
        simp only [Act.put, List.setIfInBounds_toArray, List.set_cons_zero, List.set_cons_succ]
        refine wpAnyH_take (i := 34) (oi := { dst := some 72, op := Go.Op.pick (Go.Operand.tmp 67) (Go.Operand.tmp 71) (Go.Operand.const (Go.Value.bool false)), type := 4, pos := "l21_parse.go:48", after := #[{ on := 29, ground := Go.Ground.data }, { on := 33, ground := Go.Ground.data }, { on := 35, ground := Go.Ground.gcOnly Go.Departure.lateStores }], guard := none }) (v := ?_) rfl (by kernel_rfl) (by kernel_rfl) (by kernel_rfl) (fun _ _ _ h => h) (Or.inl ⟨rfl, ?_⟩) hS ?_
        rotate_left
        · (intro w' hS'; (try dsimp only at hS'); go_simp; try with_reducible rfl)
        simp only [Act.put, List.setIfInBounds_toArray, List.set_cons_zero, List.set_cons_succ]
        refine wpAnyH_take (i := 35) (oi := { dst := some 8, op := Go.Op.assign (Go.Operand.tmp 62), type := 2, pos := "l21_parse.go:48", after := #[{ on := 24, ground := Go.Ground.data }, { on := 32, ground := Go.Ground.chain }, { on := 0, ground := Go.Ground.phase }, { on := 1, ground := Go.Ground.phase }, { on := 2, ground := Go.Ground.phase }, { on := 3, ground := Go.Ground.phase }, { on := 4, ground := Go.Ground.phase }, { on := 5, ground := Go.Ground.phase }, { on := 6, ground := Go.Ground.phase }, { on := 7, ground := Go.Ground.phase }, { on := 8, ground := Go.Ground.phase }, { on := 9, ground := Go.Ground.phase }, { on := 10, ground := Go.Ground.phase }, { on := 11, ground := Go.Ground.phase }, { on := 12, ground := Go.Ground.phase }, { on := 13, ground := Go.Ground.phase }, { on := 14, ground := Go.Ground.phase }, { on := 15, ground := Go.Ground.phase }, { on := 16, ground := Go.Ground.phase }, { on := 17, ground := Go.Ground.phase }, { on := 18, ground := Go.Ground.phase }, { on := 19, ground := Go.Ground.phase }, { on := 20, ground := Go.Ground.phase }, { on := 21, ground := Go.Ground.phase }, { on := 22, ground := Go.Ground.phase }, { on := 23, ground := Go.Ground.phase }, { on := 24, ground := Go.Ground.phase }, { on := 25, ground := Go.Ground.textOnly Go.Departure.lateStores }, { on := 26, ground := Go.Ground.textOnly Go.Departure.lateStores }, { on := 27, ground := Go.Ground.textOnly Go.Departure.lateStoresUnsure }, { on := 28, ground := Go.Ground.textOnly Go.Departure.lateStores }, { on := 29, ground := Go.Ground.textOnly Go.Departure.lateStores }, { on := 30, ground := Go.Ground.textOnly Go.Departure.lateStores }, { on := 31, ground := Go.Ground.textOnly Go.Departure.lateStores }, { on := 32, ground := Go.Ground.textOnly Go.Departure.lateStoresUnsure }, { on := 33, ground := Go.Ground.textOnly Go.Departure.lateStores }, { on := 34, ground := Go.Ground.textOnly Go.Departure.lateStores }], guard := none }) (v := ?_) rfl (by kernel_rfl) (by kernel_rfl) (by kernel_rfl) (fun _ _ _ h => h) (Or.inl ⟨rfl, ?_⟩) hS ?_
        rotate_left
        · (intro w' hS'; (try dsimp only at hS'); go_simp; try with_reducible rfl)
        simp only [Act.put, List.setIfInBounds_toArray, List.set_cons_zero, List.set_cons_succ]
        refine wpAnyH_take (i := 36) (oi := { dst := some 9, op := Go.Op.assign (Go.Operand.tmp 72), type := 4, pos := "l21_parse.go:48", after := #[{ on := 34, ground := Go.Ground.data }, { on := 35, ground := Go.Ground.chain }, { on := 0, ground := Go.Ground.phase }, { on := 1, ground := Go.Ground.phase }, { on := 2, ground := Go.Ground.phase }, { on := 3, ground := Go.Ground.phase }, { on := 4, ground := Go.Ground.phase }, { on := 5, ground := Go.Ground.phase }, { on := 6, ground := Go.Ground.phase }, { on := 7, ground := Go.Ground.phase }, { on := 8, ground := Go.Ground.phase }, { on := 9, ground := Go.Ground.phase }, { on := 10, ground := Go.Ground.phase }, { on := 11, ground := Go.Ground.phase }, { on := 12, ground := Go.Ground.phase }, { on := 13, ground := Go.Ground.phase }, { on := 14, ground := Go.Ground.phase }, { on := 15, ground := Go.Ground.phase }, { on := 16, ground := Go.Ground.phase }, { on := 17, ground := Go.Ground.phase }, { on := 18, ground := Go.Ground.phase }, { on := 19, ground := Go.Ground.phase }, { on := 20, ground := Go.Ground.phase }, { on := 21, ground := Go.Ground.phase }, { on := 22, ground := Go.Ground.phase }, { on := 23, ground := Go.Ground.phase }, { on := 24, ground := Go.Ground.phase }, { on := 25, ground := Go.Ground.phase }, { on := 26, ground := Go.Ground.phase }, { on := 27, ground := Go.Ground.phase }, { on := 28, ground := Go.Ground.phase }, { on := 29, ground := Go.Ground.phase }, { on := 30, ground := Go.Ground.phase }, { on := 31, ground := Go.Ground.phase }, { on := 32, ground := Go.Ground.phase }, { on := 33, ground := Go.Ground.phase }, { on := 34, ground := Go.Ground.phase }, { on := 35, ground := Go.Ground.phase }], guard := none }) (v := ?_) rfl (by kernel_rfl) (by kernel_rfl) (by kernel_rfl) (fun _ _ _ h => h) (Or.inl ⟨rfl, ?_⟩) hS ?_
        rotate_left
        · (intro w' hS'; (try dsimp only at hS'); go_simp; try with_reducible rfl)
        simp only [Act.put, List.setIfInBounds_toArray, List.set_cons_zero, List.set_cons_succ]
        refine wpAnyH_done (by kernel_rfl) ?_ _
        go_wp2_with fail
        go_ret2
        exact ⟨ret_pair (by simp [ownF]) (by rw [Bool.eq_iff_iff]; simp [fitsF, R.out]), (al.alloc (by simp; omega) _).alloc (by simp; omega) _⟩
    · by_cases k3 : kind = 3
      · subst k3
        have e1 : IntKind.i64.wrap (b.x1 - a.x2) = b.x1 - a.x2 := IntWalk.i64_in _ (by omega)
        have e2 : IntKind.i64.wrap (b.y2 - a.y1) = b.y2 - a.y1 := IntWalk.i64_in _ (by omega)
        have h1 := absI_le (n := b.x1 - a.x2) (m := 9000) (by omega)
        have h2 := absI_le (n := b.y2 - a.y1) (m := 9000) (by omega)
        have e3 : IntKind.i64.wrap (absI (b.x1 - a.x2) + absI (b.y2 - a.y1)) = absI (b.x1 - a.x2) + absI (b.y2 - a.y1) := IntWalk.i64_in _ (by omega)
        have e4 : IntKind.i64.wrap (absI (b.x1 - a.x2) + absI (b.y2 - a.y1) + 20) = absI (b.x1 - a.x2) + absI (b.y2 - a.y1) + 20 := IntWalk.i64_in _ (by omega)
        go_enter Try.func85, Try.ntmps85
        go_wp2_with fail
        obtain ⟨Ra, Rb, Rs⟩ := three_boxes w a b s
        replace Ra := Ra.drew
        replace Rb := Rb.drew
        replace Rs := Rs.drew
        have hS : (fun w' => w'.cell? ⟨w.heap.size, 0, none⟩ = some (.int .i64 a.x1) ∧ w'.cell? ⟨w.heap.size, 1, none⟩ = some (.int .i64 a.y1) ∧ w'.cell? ⟨w.heap.size, 2, none⟩ = some (.int .i64 a.x2) ∧ w'.cell? ⟨w.heap.size, 3, none⟩ = some (.int .i64 a.y2) ∧ w'.cell? ⟨w.heap.size + 1, 0, none⟩ = some (.int .i64 b.x1) ∧ w'.cell? ⟨w.heap.size + 1, 1, none⟩ = some (.int .i64 b.y1) ∧ w'.cell? ⟨w.heap.size + 1, 2, none⟩ = some (.int .i64 b.x2) ∧ w'.cell? ⟨w.heap.size + 1, 3, none⟩ = some (.int .i64 b.y2) ∧ w'.cell? ⟨w.heap.size + 1 + 1, 0, none⟩ = some (.int .i64 s.x1) ∧ w'.cell? ⟨w.heap.size + 1 + 1, 1, none⟩ = some (.int .i64 s.y1) ∧ w'.cell? ⟨w.heap.size + 1 + 1, 2, none⟩ = some (.int .i64 s.x2) ∧ w'.cell? ⟨w.heap.size + 1 + 1, 3, none⟩ = some (.int .i64 s.y2)) (((w.alloc (.cells #[.int .i64 a.x1, .int .i64 a.y1, .int .i64 a.x2, .int .i64 a.y2] 67)).alloc (.cells #[.int .i64 b.x1, .int .i64 b.y1, .int .i64 b.x2, .int .i64 b.y2] 67)).alloc (.cells #[.int .i64 s.x1, .int .i64 s.y1, .int .i64 s.x2, .int .i64 s.y2] 67)).drew := ⟨Ra.cell' (i := 0) rfl, Ra.cell' (i := 1) rfl, Ra.cell' (i := 2) rfl, Ra.cell' (i := 3) rfl, Rb.cell' (i := 0) rfl, Rb.cell' (i := 1) rfl, Rb.cell' (i := 2) rfl, Rb.cell' (i := 3) rfl, Rs.cell' (i := 0) rfl, Rs.cell' (i := 1) rfl, Rs.cell' (i := 2) rfl, Rs.cell' (i := 3) rfl⟩
        dsimp only at hS
        have al : Below w.heap.size w (((w.alloc (.cells #[.int .i64 a.x1, .int .i64 a.y1, .int .i64 a.x2, .int .i64 a.y2] 67)).alloc (.cells #[.int .i64 b.x1, .int .i64 b.y1, .int .i64 b.x2, .int .i64 b.y2] 67)).alloc (.cells #[.int .i64 s.x1, .int .i64 s.y1, .int .i64 s.x2, .int .i64 s.y2] 67)).drew := ((((Below.refl _ _).alloc (Nat.le_refl _) _).alloc (by simp) _).alloc (by simp; omega) _).drew
        refine wp_region_held_drew (S := (fun w' => w'.cell? ⟨w.heap.size, 0, none⟩ = some (.int .i64 a.x1) ∧ w'.cell? ⟨w.heap.size, 1, none⟩ = some (.int .i64 a.y1) ∧ w'.cell? ⟨w.heap.size, 2, none⟩ = some (.int .i64 a.x2) ∧ w'.cell? ⟨w.heap.size, 3, none⟩ = some (.int .i64 a.y2) ∧ w'.cell? ⟨w.heap.size + 1, 0, none⟩ = some (.int .i64 b.x1) ∧ w'.cell? ⟨w.heap.size + 1, 1, none⟩ = some (.int .i64 b.y1) ∧ w'.cell? ⟨w.heap.size + 1, 2, none⟩ = some (.int .i64 b.x2) ∧ w'.cell? ⟨w.heap.size + 1, 3, none⟩ = some (.int .i64 b.y2) ∧ w'.cell? ⟨w.heap.size + 1 + 1, 0, none⟩ = some (.int .i64 s.x1) ∧ w'.cell? ⟨w.heap.size + 1 + 1, 1, none⟩ = some (.int .i64 s.y1) ∧ w'.cell? ⟨w.heap.size + 1 + 1, 2, none⟩ = some (.int .i64 s.x2) ∧ w'.cell? ⟨w.heap.size + 1 + 1, 3, none⟩ = some (.int .i64 s.y2))) (by kernel_rfl) hS (fun _ => ?_)
        refine wpAnyH_take (i := 0) (oi := { dst := some 75, op := Go.Op.fieldAddr 67 (Go.Operand.tmp 6) 0, type := 0, pos := "l21_parse.go:50", after := #[], guard := none }) (v := ?_) rfl (by kernel_rfl) (by kernel_rfl) (by kernel_rfl) (fun _ _ _ h => h) (Or.inl ⟨rfl, ?_⟩) hS ?_
        rotate_left
        · (intro w' hS'; (try dsimp only at hS'); go_simp; try with_reducible rfl)
        simp only [Act.put, List.setIfInBounds_toArray, List.set_cons_zero, List.set_cons_succ]
        refine wpAnyH_take (i := 1) (oi := { dst := some 76, op := Go.Op.load 2 (Go.Operand.tmp 75), type := 2, pos := "l21_parse.go:50", after := #[{ on := 0, ground := Go.Ground.data }], guard := none }) (v := ?_) rfl (by kernel_rfl) (by kernel_rfl) (by kernel_rfl) (fun _ _ _ h => h) (Or.inl ⟨rfl, ?_⟩) hS ?_
        rotate_left
        · (intro w' hS'; (try dsimp only at hS'); go_simp; try with_reducible rfl)
        simp only [Act.put, List.setIfInBounds_toArray, List.set_cons_zero, List.set_cons_succ]
        refine wpAnyH_take (i := 2) (oi := { dst := some 77, op := Go.Op.fieldAddr 67 (Go.Operand.tmp 5) 2, type := 0, pos := "l21_parse.go:50", after := #[], guard := none }) (v := ?_) rfl (by kernel_rfl) (by kernel_rfl) (by kernel_rfl) (fun _ _ _ h => h) (Or.inl ⟨rfl, ?_⟩) hS ?_
        rotate_left
        · (intro w' hS'; (try dsimp only at hS'); go_simp; try with_reducible rfl)
        simp only [Act.put, List.setIfInBounds_toArray, List.set_cons_zero, List.set_cons_succ]
        refine wpAnyH_take (i := 3) (oi := { dst := some 78, op := Go.Op.load 2 (Go.Operand.tmp 77), type := 2, pos := "l21_parse.go:50", after := #[{ on := 2, ground := Go.Ground.data }], guard := none }) (v := ?_) rfl (by kernel_rfl) (by kernel_rfl) (by kernel_rfl) (fun _ _ _ h => h) (Or.inl ⟨rfl, ?_⟩) hS ?_
        rotate_left
        · (intro w' hS'; (try dsimp only at hS'); go_simp; try with_reducible rfl)
        simp only [Act.put, List.setIfInBounds_toArray, List.set_cons_zero, List.set_cons_succ]
        refine wpAnyH_take (i := 4) (oi := { dst := some 79, op := Go.Op.binOp Go.BinOp.sub 2 (Go.Operand.tmp 76) (Go.Operand.tmp 78) 2, type := 2, pos := "l21_parse.go:50", after := #[{ on := 1, ground := Go.Ground.data }, { on := 3, ground := Go.Ground.data }], guard := none }) (v := ?_) rfl (by kernel_rfl) (by kernel_rfl) (by kernel_rfl) (fun _ _ _ h => h) (Or.inl ⟨rfl, ?_⟩) hS ?_
        rotate_left
        · (intro w' hS'; (try dsimp only at hS'); go_simp; try with_reducible rfl)
        simp only [Act.put, List.setIfInBounds_toArray, List.set_cons_zero, List.set_cons_succ]
        refine take_call (i := 5) (oi := { dst := some 80, op := Go.Op.call { callee := Go.Callee.value (Go.Operand.func 90), args := #[Go.Operand.tmp 79], argTypes := #[2] }, type := 2, pos := "l21_parse.go:50", after := #[{ on := 4, ground := Go.Ground.data }], guard := none }) rfl (by kernel_rfl) (by kernel_rfl) (by kernel_rfl) (fun _ _ _ h => h) 90 #[Go.Operand.tmp 79] _ rfl rfl #[.int .i64 (b.x1 - a.x2)] Try.call90 (by go_simp) (fun w => impl_abs_c _ w (by omega)) hS ?_
        simp only [Act.put, List.setIfInBounds_toArray, List.set_cons_zero, List.set_cons_succ]
        refine wpAnyH_take (i := 6) (oi := { dst := some 81, op := Go.Op.fieldAddr 67 (Go.Operand.tmp 6) 3, type := 0, pos := "l21_parse.go:50", after := #[], guard := none }) (v := ?_) rfl (by kernel_rfl) (by kernel_rfl) (by kernel_rfl) (fun _ _ _ h => h) (Or.inl ⟨rfl, ?_⟩) hS ?_
        rotate_left
        · (intro w' hS'; (try dsimp only at hS'); go_simp; try with_reducible rfl)
        simp only [Act.put, List.setIfInBounds_toArray, List.set_cons_zero, List.set_cons_succ]
        refine wpAnyH_take (i := 7) (oi := { dst := some 82, op := Go.Op.load 2 (Go.Operand.tmp 81), type := 2, pos := "l21_parse.go:50", after := #[{ on := 6, ground := Go.Ground.data }], guard := none }) (v := ?_) rfl (by kernel_rfl) (by kernel_rfl) (by kernel_rfl) (fun _ _ _ h => h) (Or.inl ⟨rfl, ?_⟩) hS ?_
        rotate_left
        · (intro w' hS'; (try dsimp only at hS'); go_simp; try with_reducible rfl)
        simp only [Act.put, List.setIfInBounds_toArray, List.set_cons_zero, List.set_cons_succ]
        refine wpAnyH_take (i := 8) (oi := { dst := some 83, op := Go.Op.fieldAddr 67 (Go.Operand.tmp 5) 1, type := 0, pos := "l21_parse.go:50", after := #[], guard := none }) (v := ?_) rfl (by kernel_rfl) (by kernel_rfl) (by kernel_rfl) (fun _ _ _ h => h) (Or.inl ⟨rfl, ?_⟩) hS ?_
        rotate_left
        · (intro w' hS'; (try dsimp only at hS'); go_simp; try with_reducible rfl)
        simp only [Act.put, List.setIfInBounds_toArray, List.set_cons_zero, List.set_cons_succ]
        refine wpAnyH_take (i := 9) (oi := { dst := some 84, op := Go.Op.load 2 (Go.Operand.tmp 83), type := 2, pos := "l21_parse.go:50", after := #[{ on := 8, ground := Go.Ground.data }], guard := none }) (v := ?_) rfl (by kernel_rfl) (by kernel_rfl) (by kernel_rfl) (fun _ _ _ h => h) (Or.inl ⟨rfl, ?_⟩) hS ?_
        rotate_left
        · (intro w' hS'; (try dsimp only at hS'); go_simp; try with_reducible rfl)
        simp only [Act.put, List.setIfInBounds_toArray, List.set_cons_zero, List.set_cons_succ]
        refine wpAnyH_take (i := 10) (oi := { dst := some 85, op := Go.Op.binOp Go.BinOp.sub 2 (Go.Operand.tmp 82) (Go.Operand.tmp 84) 2, type := 2, pos := "l21_parse.go:50", after := #[{ on := 7, ground := Go.Ground.data }, { on := 9, ground := Go.Ground.data }], guard := none }) (v := ?_) rfl (by kernel_rfl) (by kernel_rfl) (by kernel_rfl) (fun _ _ _ h => h) (Or.inl ⟨rfl, ?_⟩) hS ?_
        rotate_left
        · (intro w' hS'; (try dsimp only at hS'); go_simp; try with_reducible rfl)
        simp only [Act.put, List.setIfInBounds_toArray, List.set_cons_zero, List.set_cons_succ]
        refine take_call (i := 11) (oi := { dst := some 86, op := Go.Op.call { callee := Go.Callee.value (Go.Operand.func 90), args := #[Go.Operand.tmp 85], argTypes := #[2] }, type := 2, pos := "l21_parse.go:50", after := #[{ on := 10, ground := Go.Ground.data }, { on := 5, ground := Go.Ground.chain }], guard := none }) rfl (by kernel_rfl) (by kernel_rfl) (by kernel_rfl) (fun _ _ _ h => h) 90 #[Go.Operand.tmp 85] _ rfl rfl #[.int .i64 (b.y2 - a.y1)] Try.call90 (by go_simp) (fun w => impl_abs_c _ w (by omega)) hS ?_
        simp only [Act.put, List.setIfInBounds_toArray, List.set_cons_zero, List.set_cons_succ]
        refine wpAnyH_take (i := 12) (oi := { dst := some 87, op := Go.Op.binOp Go.BinOp.add 2 (Go.Operand.tmp 80) (Go.Operand.tmp 86) 2, type := 2, pos := "l21_parse.go:50", after := #[{ on := 5, ground := Go.Ground.data }, { on := 11, ground := Go.Ground.data }], guard := none }) (v := ?_) rfl (by kernel_rfl) (by kernel_rfl) (by kernel_rfl) (fun _ _ _ h => h) (Or.inl ⟨rfl, ?_⟩) hS ?_
        rotate_left
        · (intro w' hS'; (try dsimp only at hS'); go_simp; try with_reducible rfl)
        simp only [Act.put, List.setIfInBounds_toArray, List.set_cons_zero, List.set_cons_succ]
        refine wpAnyH_take (i := 13) (oi := { dst := some 88, op := Go.Op.binOp Go.BinOp.add 2 (Go.Operand.tmp 87) (Go.Operand.const (Go.Value.int Go.IntKind.i64 20)) 2, type := 2, pos := "l21_parse.go:50", after := #[{ on := 12, ground := Go.Ground.data }], guard := none }) (v := ?_) rfl (by kernel_rfl) (by kernel_rfl) (by kernel_rfl) (fun _ _ _ h => h) (Or.inl ⟨rfl, ?_⟩) hS ?_
        rotate_left
        · (intro w' hS'; (try dsimp only at hS'); go_simp; try with_reducible rfl)
        simp only [Act.put, List.setIfInBounds_toArray, List.set_cons_zero, List.set_cons_succ]
        refine wpAnyH_take (i := 14) (oi := { dst := some 89, op := Go.Op.load 67 (Go.Operand.tmp 5), type := 67, pos := "l21_parse.go:50", after := #[], guard := none }) (v := ?_) rfl (by kernel_rfl) (by kernel_rfl) (by kernel_rfl) (fun _ _ _ h => h) (Or.inl ⟨rfl, ?_⟩) hS ?_
        rotate_left
        · (intro w' hS'; (try dsimp only at hS'); go_simp; try with_reducible rfl)
        simp only [Act.put, List.setIfInBounds_toArray, List.set_cons_zero, List.set_cons_succ]
        refine wpAnyH_take (i := 15) (oi := { dst := some 90, op := Go.Op.load 67 (Go.Operand.tmp 6), type := 67, pos := "l21_parse.go:50", after := #[], guard := none }) (v := ?_) rfl (by kernel_rfl) (by kernel_rfl) (by kernel_rfl) (fun _ _ _ h => h) (Or.inl ⟨rfl, ?_⟩) hS ?_
        rotate_left
        · (intro w' hS'; (try dsimp only at hS'); go_simp; try with_reducible rfl)
        simp only [Act.put, List.setIfInBounds_toArray, List.set_cons_zero, List.set_cons_succ]
        refine wpAnyH_ready (rs := [16]) (by kernel_rfl) (by simp) ?_
        refine AllReadyH.cons (o := { dst := some 91, op := Go.Op.call { callee := Go.Callee.value (Go.Operand.func 91), args := #[Go.Operand.tmp 89, Go.Operand.tmp 90], argTypes := #[67, 67] }, type := 2, pos := "l21_parse.go:50", after := #[{ on := 14, ground := Go.Ground.data }, { on := 15, ground := Go.Ground.data }, { on := 11, ground := Go.Ground.chain }], guard := none }) rfl (fun K hK => ?_) .nil
        refine step_call 91 #[Go.Operand.tmp 89, Go.Operand.tmp 90] _ rfl rfl #[.agg #[.int .i64 a.x1, .int .i64 a.y1, .int .i64 a.x2, .int .i64 a.y2], .agg #[.int .i64 b.x1, .int .i64 b.y1, .int .i64 b.x2, .int .i64 b.y2]] Try.call91 (by go_simp) (impl_relation_c a b _ ha hb) ?_
        rintro e w1 ⟨rfl, rfl⟩
        refine ⟨_, rfl, ?_⟩
        replace Ra := (Ra.alloc (.cells #[.int .i64 a.x1, .int .i64 a.y1, .int .i64 a.x2, .int .i64 a.y2] 67)).alloc (.cells #[.int .i64 b.x1, .int .i64 b.y1, .int .i64 b.x2, .int .i64 b.y2] 67)
        replace Rb := (Rb.alloc (.cells #[.int .i64 a.x1, .int .i64 a.y1, .int .i64 a.x2, .int .i64 a.y2] 67)).alloc (.cells #[.int .i64 b.x1, .int .i64 b.y1, .int .i64 b.x2, .int .i64 b.y2] 67)
        replace Rs := (Rs.alloc (.cells #[.int .i64 a.x1, .int .i64 a.y1, .int .i64 a.x2, .int .i64 a.y2] 67)).alloc (.cells #[.int .i64 b.x1, .int .i64 b.y1, .int .i64 b.x2, .int .i64 b.y2] 67)
        replace hS := and12 (Ra.cell' (i := 0) rfl) (Ra.cell' (i := 1) rfl) (Ra.cell' (i := 2) rfl) (Ra.cell' (i := 3) rfl) (Rb.cell' (i := 0) rfl) (Rb.cell' (i := 1) rfl) (Rb.cell' (i := 2) rfl) (Rb.cell' (i := 3) rfl) (Rs.cell' (i := 0) rfl) (Rs.cell' (i := 1) rfl) (Rs.cell' (i := 2) rfl) (Rs.cell' (i := 3) rfl)
        refine hK.out _ _ ?_ (fun hHeld => ?_)
        · exact hS
        clear hK K hHeld
        simp only [Act.put, List.setIfInBounds_toArray, List.set_cons_zero, List.set_cons_succ]
        refine wpAnyH_take (i := 17) (oi := { dst := some 92, op := Go.Op.binOp Go.BinOp.eql 2 (Go.Operand.tmp 91) (Go.Operand.const (Go.Value.int Go.IntKind.i64 4)) 2, type := 4, pos := "l21_parse.go:50", after := #[{ on := 16, ground := Go.Ground.data }, { on := 18, ground := Go.Ground.gcOnly Go.Departure.lateStores }], guard := none }) (v := ?_) rfl (by kernel_rfl) (by kernel_rfl) (by kernel_rfl) (fun _ _ _ h => h) (Or.inl ⟨rfl, ?_⟩) hS ?_
        rotate_left
        · (intro w' hS'; (try dsimp only at hS'); go_simp; try with_reducible rfl)
        simp only [Act.put, List.setIfInBounds_toArray, List.set_cons_zero, List.set_cons_succ]
        refine wpAnyH_take (i := 18) (oi := { dst := some 8, op := Go.Op.assign (Go.Operand.tmp 88), type := 2, pos := "l21_parse.go:50", after := #[{ on := 13, ground := Go.Ground.data }, { on := 16, ground := Go.Ground.chain }, { on := 0, ground := Go.Ground.phase }, { on := 1, ground := Go.Ground.phase }, { on := 2, ground := Go.Ground.phase }, { on := 3, ground := Go.Ground.phase }, { on := 4, ground := Go.Ground.phase }, { on := 5, ground := Go.Ground.phase }, { on := 6, ground := Go.Ground.phase }, { on := 7, ground := Go.Ground.phase }, { on := 8, ground := Go.Ground.phase }, { on := 9, ground := Go.Ground.phase }, { on := 10, ground := Go.Ground.phase }, { on := 11, ground := Go.Ground.phase }, { on := 12, ground := Go.Ground.phase }, { on := 13, ground := Go.Ground.phase }, { on := 14, ground := Go.Ground.textOnly Go.Departure.lateStores }, { on := 15, ground := Go.Ground.textOnly Go.Departure.lateStores }, { on := 16, ground := Go.Ground.textOnly Go.Departure.lateStoresUnsure }, { on := 17, ground := Go.Ground.textOnly Go.Departure.lateStores }], guard := none }) (v := ?_) rfl (by kernel_rfl) (by kernel_rfl) (by kernel_rfl) (fun _ _ _ h => h) (Or.inl ⟨rfl, ?_⟩) hS ?_
        rotate_left
        · (intro w' hS'; (try dsimp only at hS'); go_simp; try with_reducible rfl)
        simp only [Act.put, List.setIfInBounds_toArray, List.set_cons_zero, List.set_cons_succ]
        refine wpAnyH_take (i := 19) (oi := { dst := some 9, op := Go.Op.assign (Go.Operand.tmp 92), type := 4, pos := "l21_parse.go:50", after := #[{ on := 17, ground := Go.Ground.data }, { on := 18, ground := Go.Ground.chain }, { on := 0, ground := Go.Ground.phase }, { on := 1, ground := Go.Ground.phase }, { on := 2, ground := Go.Ground.phase }, { on := 3, ground := Go.Ground.phase }, { on := 4, ground := Go.Ground.phase }, { on := 5, ground := Go.Ground.phase }, { on := 6, ground := Go.Ground.phase }, { on := 7, ground := Go.Ground.phase }, { on := 8, ground := Go.Ground.phase }, { on := 9, ground := Go.Ground.phase }, { on := 10, ground := Go.Ground.phase }, { on := 11, ground := Go.Ground.phase }, { on := 12, ground := Go.Ground.phase }, { on := 13, ground := Go.Ground.phase }, { on := 14, ground := Go.Ground.phase }, { on := 15, ground := Go.Ground.phase }, { on := 16, ground := Go.Ground.phase }, { on := 17, ground := Go.Ground.phase }, { on := 18, ground := Go.Ground.phase }], guard := none }) (v := ?_) rfl (by kernel_rfl) (by kernel_rfl) (by kernel_rfl) (fun _ _ _ h => h) (Or.inl ⟨rfl, ?_⟩) hS ?_
        rotate_left
        · (intro w' hS'; (try dsimp only at hS'); go_simp; try with_reducible rfl)
        simp only [Act.put, List.setIfInBounds_toArray, List.set_cons_zero, List.set_cons_succ]
        refine wpAnyH_done (by kernel_rfl) ?_ _
        go_wp2_with fail
        go_ret2
        exact ⟨ret_pair (by simp [ownF]) (by rw [Bool.eq_iff_iff]; simp [fitsF]), (al.alloc (by simp; omega) _).alloc (by simp; omega) _⟩
      · by_cases k4 : kind = 4
        · subst k4
          have e1 : IntKind.i64.wrap (b.x1 - a.x2) = b.x1 - a.x2 := IntWalk.i64_in _ (by omega)
          have e2 : IntKind.i64.wrap (b.y1 - a.y2) = b.y1 - a.y2 := IntWalk.i64_in _ (by omega)
          have h1 := absI_le (n := b.x1 - a.x2) (m := 9000) (by omega)
          have h2 := absI_le (n := b.y1 - a.y2) (m := 9000) (by omega)
          have e3 : IntKind.i64.wrap (absI (b.x1 - a.x2) + absI (b.y1 - a.y2)) = absI (b.x1 - a.x2) + absI (b.y1 - a.y2) := IntWalk.i64_in _ (by omega)
          have e4 : IntKind.i64.wrap (absI (b.x1 - a.x2) + absI (b.y1 - a.y2) + 20) = absI (b.x1 - a.x2) + absI (b.y1 - a.y2) + 20 := IntWalk.i64_in _ (by omega)
          go_enter Try.func85, Try.ntmps85
          go_wp2_with fail
          obtain ⟨Ra, Rb, Rs⟩ := three_boxes w a b s
          replace Ra := Ra.drew
          replace Rb := Rb.drew
          replace Rs := Rs.drew
          have hS : (fun w' => w'.cell? ⟨w.heap.size, 0, none⟩ = some (.int .i64 a.x1) ∧ w'.cell? ⟨w.heap.size, 1, none⟩ = some (.int .i64 a.y1) ∧ w'.cell? ⟨w.heap.size, 2, none⟩ = some (.int .i64 a.x2) ∧ w'.cell? ⟨w.heap.size, 3, none⟩ = some (.int .i64 a.y2) ∧ w'.cell? ⟨w.heap.size + 1, 0, none⟩ = some (.int .i64 b.x1) ∧ w'.cell? ⟨w.heap.size + 1, 1, none⟩ = some (.int .i64 b.y1) ∧ w'.cell? ⟨w.heap.size + 1, 2, none⟩ = some (.int .i64 b.x2) ∧ w'.cell? ⟨w.heap.size + 1, 3, none⟩ = some (.int .i64 b.y2) ∧ w'.cell? ⟨w.heap.size + 1 + 1, 0, none⟩ = some (.int .i64 s.x1) ∧ w'.cell? ⟨w.heap.size + 1 + 1, 1, none⟩ = some (.int .i64 s.y1) ∧ w'.cell? ⟨w.heap.size + 1 + 1, 2, none⟩ = some (.int .i64 s.x2) ∧ w'.cell? ⟨w.heap.size + 1 + 1, 3, none⟩ = some (.int .i64 s.y2)) (((w.alloc (.cells #[.int .i64 a.x1, .int .i64 a.y1, .int .i64 a.x2, .int .i64 a.y2] 67)).alloc (.cells #[.int .i64 b.x1, .int .i64 b.y1, .int .i64 b.x2, .int .i64 b.y2] 67)).alloc (.cells #[.int .i64 s.x1, .int .i64 s.y1, .int .i64 s.x2, .int .i64 s.y2] 67)).drew := ⟨Ra.cell' (i := 0) rfl, Ra.cell' (i := 1) rfl, Ra.cell' (i := 2) rfl, Ra.cell' (i := 3) rfl, Rb.cell' (i := 0) rfl, Rb.cell' (i := 1) rfl, Rb.cell' (i := 2) rfl, Rb.cell' (i := 3) rfl, Rs.cell' (i := 0) rfl, Rs.cell' (i := 1) rfl, Rs.cell' (i := 2) rfl, Rs.cell' (i := 3) rfl⟩
          dsimp only at hS
          have al : Below w.heap.size w (((w.alloc (.cells #[.int .i64 a.x1, .int .i64 a.y1, .int .i64 a.x2, .int .i64 a.y2] 67)).alloc (.cells #[.int .i64 b.x1, .int .i64 b.y1, .int .i64 b.x2, .int .i64 b.y2] 67)).alloc (.cells #[.int .i64 s.x1, .int .i64 s.y1, .int .i64 s.x2, .int .i64 s.y2] 67)).drew := ((((Below.refl _ _).alloc (Nat.le_refl _) _).alloc (by simp) _).alloc (by simp; omega) _).drew
          refine wp_region_held_drew (S := (fun w' => w'.cell? ⟨w.heap.size, 0, none⟩ = some (.int .i64 a.x1) ∧ w'.cell? ⟨w.heap.size, 1, none⟩ = some (.int .i64 a.y1) ∧ w'.cell? ⟨w.heap.size, 2, none⟩ = some (.int .i64 a.x2) ∧ w'.cell? ⟨w.heap.size, 3, none⟩ = some (.int .i64 a.y2) ∧ w'.cell? ⟨w.heap.size + 1, 0, none⟩ = some (.int .i64 b.x1) ∧ w'.cell? ⟨w.heap.size + 1, 1, none⟩ = some (.int .i64 b.y1) ∧ w'.cell? ⟨w.heap.size + 1, 2, none⟩ = some (.int .i64 b.x2) ∧ w'.cell? ⟨w.heap.size + 1, 3, none⟩ = some (.int .i64 b.y2) ∧ w'.cell? ⟨w.heap.size + 1 + 1, 0, none⟩ = some (.int .i64 s.x1) ∧ w'.cell? ⟨w.heap.size + 1 + 1, 1, none⟩ = some (.int .i64 s.y1) ∧ w'.cell? ⟨w.heap.size + 1 + 1, 2, none⟩ = some (.int .i64 s.x2) ∧ w'.cell? ⟨w.heap.size + 1 + 1, 3, none⟩ = some (.int .i64 s.y2))) (by kernel_rfl) hS (fun _ => ?_)
          refine wpAnyH_take (i := 0) (oi := { dst := some 95, op := Go.Op.fieldAddr 67 (Go.Operand.tmp 6) 0, type := 0, pos := "l21_parse.go:52", after := #[], guard := none }) (v := ?_) rfl (by kernel_rfl) (by kernel_rfl) (by kernel_rfl) (fun _ _ _ h => h) (Or.inl ⟨rfl, ?_⟩) hS ?_
          rotate_left
          · (intro w' hS'; (try dsimp only at hS'); go_simp; try with_reducible rfl)
          simp only [Act.put, List.setIfInBounds_toArray, List.set_cons_zero, List.set_cons_succ]
          refine wpAnyH_take (i := 1) (oi := { dst := some 96, op := Go.Op.load 2 (Go.Operand.tmp 95), type := 2, pos := "l21_parse.go:52", after := #[{ on := 0, ground := Go.Ground.data }], guard := none }) (v := ?_) rfl (by kernel_rfl) (by kernel_rfl) (by kernel_rfl) (fun _ _ _ h => h) (Or.inl ⟨rfl, ?_⟩) hS ?_
          rotate_left
          · (intro w' hS'; (try dsimp only at hS'); go_simp; try with_reducible rfl)
          simp only [Act.put, List.setIfInBounds_toArray, List.set_cons_zero, List.set_cons_succ]
          refine wpAnyH_take (i := 2) (oi := { dst := some 97, op := Go.Op.fieldAddr 67 (Go.Operand.tmp 5) 2, type := 0, pos := "l21_parse.go:52", after := #[], guard := none }) (v := ?_) rfl (by kernel_rfl) (by kernel_rfl) (by kernel_rfl) (fun _ _ _ h => h) (Or.inl ⟨rfl, ?_⟩) hS ?_
          rotate_left
          · (intro w' hS'; (try dsimp only at hS'); go_simp; try with_reducible rfl)
          simp only [Act.put, List.setIfInBounds_toArray, List.set_cons_zero, List.set_cons_succ]
          refine wpAnyH_take (i := 3) (oi := { dst := some 98, op := Go.Op.load 2 (Go.Operand.tmp 97), type := 2, pos := "l21_parse.go:52", after := #[{ on := 2, ground := Go.Ground.data }], guard := none }) (v := ?_) rfl (by kernel_rfl) (by kernel_rfl) (by kernel_rfl) (fun _ _ _ h => h) (Or.inl ⟨rfl, ?_⟩) hS ?_
          rotate_left
          · (intro w' hS'; (try dsimp only at hS'); go_simp; try with_reducible rfl)
          simp only [Act.put, List.setIfInBounds_toArray, List.set_cons_zero, List.set_cons_succ]
          refine wpAnyH_take (i := 4) (oi := { dst := some 99, op := Go.Op.binOp Go.BinOp.sub 2 (Go.Operand.tmp 96) (Go.Operand.tmp 98) 2, type := 2, pos := "l21_parse.go:52", after := #[{ on := 1, ground := Go.Ground.data }, { on := 3, ground := Go.Ground.data }], guard := none }) (v := ?_) rfl (by kernel_rfl) (by kernel_rfl) (by kernel_rfl) (fun _ _ _ h => h) (Or.inl ⟨rfl, ?_⟩) hS ?_
          rotate_left
          · (intro w' hS'; (try dsimp only at hS'); go_simp; try with_reducible rfl)
          simp only [Act.put, List.setIfInBounds_toArray, List.set_cons_zero, List.set_cons_succ]
          refine take_call (i := 5) (oi := { dst := some 100, op := Go.Op.call { callee := Go.Callee.value (Go.Operand.func 90), args := #[Go.Operand.tmp 99], argTypes := #[2] }, type := 2, pos := "l21_parse.go:52", after := #[{ on := 4, ground := Go.Ground.data }], guard := none }) rfl (by kernel_rfl) (by kernel_rfl) (by kernel_rfl) (fun _ _ _ h => h) 90 #[Go.Operand.tmp 99] _ rfl rfl #[.int .i64 (b.x1 - a.x2)] Try.call90 (by go_simp) (fun w => impl_abs_c _ w (by omega)) hS ?_
          simp only [Act.put, List.setIfInBounds_toArray, List.set_cons_zero, List.set_cons_succ]
          refine wpAnyH_take (i := 6) (oi := { dst := some 101, op := Go.Op.fieldAddr 67 (Go.Operand.tmp 6) 1, type := 0, pos := "l21_parse.go:52", after := #[], guard := none }) (v := ?_) rfl (by kernel_rfl) (by kernel_rfl) (by kernel_rfl) (fun _ _ _ h => h) (Or.inl ⟨rfl, ?_⟩) hS ?_
          rotate_left
          · (intro w' hS'; (try dsimp only at hS'); go_simp; try with_reducible rfl)
          simp only [Act.put, List.setIfInBounds_toArray, List.set_cons_zero, List.set_cons_succ]
          refine wpAnyH_take (i := 7) (oi := { dst := some 102, op := Go.Op.load 2 (Go.Operand.tmp 101), type := 2, pos := "l21_parse.go:52", after := #[{ on := 6, ground := Go.Ground.data }], guard := none }) (v := ?_) rfl (by kernel_rfl) (by kernel_rfl) (by kernel_rfl) (fun _ _ _ h => h) (Or.inl ⟨rfl, ?_⟩) hS ?_
          rotate_left
          · (intro w' hS'; (try dsimp only at hS'); go_simp; try with_reducible rfl)
          simp only [Act.put, List.setIfInBounds_toArray, List.set_cons_zero, List.set_cons_succ]
          refine wpAnyH_take (i := 8) (oi := { dst := some 103, op := Go.Op.fieldAddr 67 (Go.Operand.tmp 5) 3, type := 0, pos := "l21_parse.go:52", after := #[], guard := none }) (v := ?_) rfl (by kernel_rfl) (by kernel_rfl) (by kernel_rfl) (fun _ _ _ h => h) (Or.inl ⟨rfl, ?_⟩) hS ?_
          rotate_left
          · (intro w' hS'; (try dsimp only at hS'); go_simp; try with_reducible rfl)
          simp only [Act.put, List.setIfInBounds_toArray, List.set_cons_zero, List.set_cons_succ]
          refine wpAnyH_take (i := 9) (oi := { dst := some 104, op := Go.Op.load 2 (Go.Operand.tmp 103), type := 2, pos := "l21_parse.go:52", after := #[{ on := 8, ground := Go.Ground.data }], guard := none }) (v := ?_) rfl (by kernel_rfl) (by kernel_rfl) (by kernel_rfl) (fun _ _ _ h => h) (Or.inl ⟨rfl, ?_⟩) hS ?_
          rotate_left
          · (intro w' hS'; (try dsimp only at hS'); go_simp; try with_reducible rfl)
          simp only [Act.put, List.setIfInBounds_toArray, List.set_cons_zero, List.set_cons_succ]
          refine wpAnyH_take (i := 10) (oi := { dst := some 105, op := Go.Op.binOp Go.BinOp.sub 2 (Go.Operand.tmp 102) (Go.Operand.tmp 104) 2, type := 2, pos := "l21_parse.go:52", after := #[{ on := 7, ground := Go.Ground.data }, { on := 9, ground := Go.Ground.data }], guard := none }) (v := ?_) rfl (by kernel_rfl) (by kernel_rfl) (by kernel_rfl) (fun _ _ _ h => h) (Or.inl ⟨rfl, ?_⟩) hS ?_
          rotate_left
          · (intro w' hS'; (try dsimp only at hS'); go_simp; try with_reducible rfl)
          simp only [Act.put, List.setIfInBounds_toArray, List.set_cons_zero, List.set_cons_succ]
          refine take_call (i := 11) (oi := { dst := some 106, op := Go.Op.call { callee := Go.Callee.value (Go.Operand.func 90), args := #[Go.Operand.tmp 105], argTypes := #[2] }, type := 2, pos := "l21_parse.go:52", after := #[{ on := 10, ground := Go.Ground.data }, { on := 5, ground := Go.Ground.chain }], guard := none }) rfl (by kernel_rfl) (by kernel_rfl) (by kernel_rfl) (fun _ _ _ h => h) 90 #[Go.Operand.tmp 105] _ rfl rfl #[.int .i64 (b.y1 - a.y2)] Try.call90 (by go_simp) (fun w => impl_abs_c _ w (by omega)) hS ?_
          simp only [Act.put, List.setIfInBounds_toArray, List.set_cons_zero, List.set_cons_succ]
          refine wpAnyH_take (i := 12) (oi := { dst := some 107, op := Go.Op.binOp Go.BinOp.add 2 (Go.Operand.tmp 100) (Go.Operand.tmp 106) 2, type := 2, pos := "l21_parse.go:52", after := #[{ on := 5, ground := Go.Ground.data }, { on := 11, ground := Go.Ground.data }], guard := none }) (v := ?_) rfl (by kernel_rfl) (by kernel_rfl) (by kernel_rfl) (fun _ _ _ h => h) (Or.inl ⟨rfl, ?_⟩) hS ?_
          rotate_left
          · (intro w' hS'; (try dsimp only at hS'); go_simp; try with_reducible rfl)
          simp only [Act.put, List.setIfInBounds_toArray, List.set_cons_zero, List.set_cons_succ]
          refine wpAnyH_take (i := 13) (oi := { dst := some 108, op := Go.Op.binOp Go.BinOp.add 2 (Go.Operand.tmp 107) (Go.Operand.const (Go.Value.int Go.IntKind.i64 20)) 2, type := 2, pos := "l21_parse.go:52", after := #[{ on := 12, ground := Go.Ground.data }], guard := none }) (v := ?_) rfl (by kernel_rfl) (by kernel_rfl) (by kernel_rfl) (fun _ _ _ h => h) (Or.inl ⟨rfl, ?_⟩) hS ?_
          rotate_left
          · (intro w' hS'; (try dsimp only at hS'); go_simp; try with_reducible rfl)
          simp only [Act.put, List.setIfInBounds_toArray, List.set_cons_zero, List.set_cons_succ]
          refine wpAnyH_take (i := 14) (oi := { dst := some 109, op := Go.Op.load 67 (Go.Operand.tmp 5), type := 67, pos := "l21_parse.go:52", after := #[], guard := none }) (v := ?_) rfl (by kernel_rfl) (by kernel_rfl) (by kernel_rfl) (fun _ _ _ h => h) (Or.inl ⟨rfl, ?_⟩) hS ?_
          rotate_left
          · (intro w' hS'; (try dsimp only at hS'); go_simp; try with_reducible rfl)
          simp only [Act.put, List.setIfInBounds_toArray, List.set_cons_zero, List.set_cons_succ]
          refine wpAnyH_take (i := 15) (oi := { dst := some 110, op := Go.Op.load 67 (Go.Operand.tmp 6), type := 67, pos := "l21_parse.go:52", after := #[], guard := none }) (v := ?_) rfl (by kernel_rfl) (by kernel_rfl) (by kernel_rfl) (fun _ _ _ h => h) (Or.inl ⟨rfl, ?_⟩) hS ?_
          rotate_left
          · (intro w' hS'; (try dsimp only at hS'); go_simp; try with_reducible rfl)
          simp only [Act.put, List.setIfInBounds_toArray, List.set_cons_zero, List.set_cons_succ]
          refine wpAnyH_ready (rs := [16]) (by kernel_rfl) (by simp) ?_
          refine AllReadyH.cons (o := { dst := some 111, op := Go.Op.call { callee := Go.Callee.value (Go.Operand.func 91), args := #[Go.Operand.tmp 109, Go.Operand.tmp 110], argTypes := #[67, 67] }, type := 2, pos := "l21_parse.go:52", after := #[{ on := 14, ground := Go.Ground.data }, { on := 15, ground := Go.Ground.data }, { on := 11, ground := Go.Ground.chain }], guard := none }) rfl (fun K hK => ?_) .nil
          refine step_call 91 #[Go.Operand.tmp 109, Go.Operand.tmp 110] _ rfl rfl #[.agg #[.int .i64 a.x1, .int .i64 a.y1, .int .i64 a.x2, .int .i64 a.y2], .agg #[.int .i64 b.x1, .int .i64 b.y1, .int .i64 b.x2, .int .i64 b.y2]] Try.call91 (by go_simp) (impl_relation_c a b _ ha hb) ?_
          rintro e w1 ⟨rfl, rfl⟩
          refine ⟨_, rfl, ?_⟩
          replace Ra := (Ra.alloc (.cells #[.int .i64 a.x1, .int .i64 a.y1, .int .i64 a.x2, .int .i64 a.y2] 67)).alloc (.cells #[.int .i64 b.x1, .int .i64 b.y1, .int .i64 b.x2, .int .i64 b.y2] 67)
          replace Rb := (Rb.alloc (.cells #[.int .i64 a.x1, .int .i64 a.y1, .int .i64 a.x2, .int .i64 a.y2] 67)).alloc (.cells #[.int .i64 b.x1, .int .i64 b.y1, .int .i64 b.x2, .int .i64 b.y2] 67)
          replace Rs := (Rs.alloc (.cells #[.int .i64 a.x1, .int .i64 a.y1, .int .i64 a.x2, .int .i64 a.y2] 67)).alloc (.cells #[.int .i64 b.x1, .int .i64 b.y1, .int .i64 b.x2, .int .i64 b.y2] 67)
          replace hS := and12 (Ra.cell' (i := 0) rfl) (Ra.cell' (i := 1) rfl) (Ra.cell' (i := 2) rfl) (Ra.cell' (i := 3) rfl) (Rb.cell' (i := 0) rfl) (Rb.cell' (i := 1) rfl) (Rb.cell' (i := 2) rfl) (Rb.cell' (i := 3) rfl) (Rs.cell' (i := 0) rfl) (Rs.cell' (i := 1) rfl) (Rs.cell' (i := 2) rfl) (Rs.cell' (i := 3) rfl)
          refine hK.out _ _ ?_ (fun hHeld => ?_)
          · exact hS
          clear hK K hHeld
          simp only [Act.put, List.setIfInBounds_toArray, List.set_cons_zero, List.set_cons_succ]
          refine wpAnyH_take (i := 17) (oi := { dst := some 112, op := Go.Op.binOp Go.BinOp.eql 2 (Go.Operand.tmp 111) (Go.Operand.const (Go.Value.int Go.IntKind.i64 5)) 2, type := 4, pos := "l21_parse.go:52", after := #[{ on := 16, ground := Go.Ground.data }, { on := 18, ground := Go.Ground.gcOnly Go.Departure.lateStores }], guard := none }) (v := ?_) rfl (by kernel_rfl) (by kernel_rfl) (by kernel_rfl) (fun _ _ _ h => h) (Or.inl ⟨rfl, ?_⟩) hS ?_
          rotate_left
          · (intro w' hS'; (try dsimp only at hS'); go_simp; try with_reducible rfl)
          simp only [Act.put, List.setIfInBounds_toArray, List.set_cons_zero, List.set_cons_succ]
          refine wpAnyH_take (i := 18) (oi := { dst := some 8, op := Go.Op.assign (Go.Operand.tmp 108), type := 2, pos := "l21_parse.go:52", after := #[{ on := 13, ground := Go.Ground.data }, { on := 16, ground := Go.Ground.chain }, { on := 0, ground := Go.Ground.phase }, { on := 1, ground := Go.Ground.phase }, { on := 2, ground := Go.Ground.phase }, { on := 3, ground := Go.Ground.phase }, { on := 4, ground := Go.Ground.phase }, { on := 5, ground := Go.Ground.phase }, { on := 6, ground := Go.Ground.phase }, { on := 7, ground := Go.Ground.phase }, { on := 8, ground := Go.Ground.phase }, { on := 9, ground := Go.Ground.phase }, { on := 10, ground := Go.Ground.phase }, { on := 11, ground := Go.Ground.phase }, { on := 12, ground := Go.Ground.phase }, { on := 13, ground := Go.Ground.phase }, { on := 14, ground := Go.Ground.textOnly Go.Departure.lateStores }, { on := 15, ground := Go.Ground.textOnly Go.Departure.lateStores }, { on := 16, ground := Go.Ground.textOnly Go.Departure.lateStoresUnsure }, { on := 17, ground := Go.Ground.textOnly Go.Departure.lateStores }], guard := none }) (v := ?_) rfl (by kernel_rfl) (by kernel_rfl) (by kernel_rfl) (fun _ _ _ h => h) (Or.inl ⟨rfl, ?_⟩) hS ?_
          rotate_left
          · (intro w' hS'; (try dsimp only at hS'); go_simp; try with_reducible rfl)
          simp only [Act.put, List.setIfInBounds_toArray, List.set_cons_zero, List.set_cons_succ]
          refine wpAnyH_take (i := 19) (oi := { dst := some 9, op := Go.Op.assign (Go.Operand.tmp 112), type := 4, pos := "l21_parse.go:52", after := #[{ on := 17, ground := Go.Ground.data }, { on := 18, ground := Go.Ground.chain }, { on := 0, ground := Go.Ground.phase }, { on := 1, ground := Go.Ground.phase }, { on := 2, ground := Go.Ground.phase }, { on := 3, ground := Go.Ground.phase }, { on := 4, ground := Go.Ground.phase }, { on := 5, ground := Go.Ground.phase }, { on := 6, ground := Go.Ground.phase }, { on := 7, ground := Go.Ground.phase }, { on := 8, ground := Go.Ground.phase }, { on := 9, ground := Go.Ground.phase }, { on := 10, ground := Go.Ground.phase }, { on := 11, ground := Go.Ground.phase }, { on := 12, ground := Go.Ground.phase }, { on := 13, ground := Go.Ground.phase }, { on := 14, ground := Go.Ground.phase }, { on := 15, ground := Go.Ground.phase }, { on := 16, ground := Go.Ground.phase }, { on := 17, ground := Go.Ground.phase }, { on := 18, ground := Go.Ground.phase }], guard := none }) (v := ?_) rfl (by kernel_rfl) (by kernel_rfl) (by kernel_rfl) (fun _ _ _ h => h) (Or.inl ⟨rfl, ?_⟩) hS ?_
          rotate_left
          · (intro w' hS'; (try dsimp only at hS'); go_simp; try with_reducible rfl)
          simp only [Act.put, List.setIfInBounds_toArray, List.set_cons_zero, List.set_cons_succ]
          refine wpAnyH_done (by kernel_rfl) ?_ _
          go_wp2_with fail
          go_ret2
          exact ⟨ret_pair (by simp [ownF]) (by rw [Bool.eq_iff_iff]; simp [fitsF]), (al.alloc (by simp; omega) _).alloc (by simp; omega) _⟩
        · by_cases k5 : kind = 5
          · subst k5
            go_enter Try.func85, Try.ntmps85
            go_wp2_with fail
            refine (impl_relation_c s a _ hs ha).mono ?_
            rintro e w1 ⟨rfl, rfl⟩
            go_wp2_with fail
            go_ret2
            exact ⟨ret_pair (by simp [ownF]) (by rw [Bool.eq_iff_iff]; simp [fitsF]), (((((Below.refl _ _).alloc (Nat.le_refl _) _).alloc (by simp) _).alloc (by simp; omega) _).alloc (by simp; omega) _).alloc (by simp; omega) _⟩
          · have g1 : (kind == 1) = false := by simp [k1]
            have g2 : (kind == 2) = false := by simp [k2]
            have g3 : (kind == 3) = false := by simp [k3]
            have g4 : (kind == 4) = false := by simp [k4]
            have g5 : (kind == 5) = false := by simp [k5]
            have r1 : ownF kind a b s = 0 := by simp [ownF, k1, k2, k3, k4]
            have r2 : fitsF kind a b s = false := by simp [fitsF, k1, k2, k3, k4, k5]
            rw [r1, r2]
            clear k1 k2 k3 k4 k5 r1 r2
            go_enter Try.func85, Try.ntmps85
            go_wp2_with fail
            go_ret2
            exact ⟨rfl, (((Below.refl _ _).alloc (Nat.le_refl _) _).alloc (by simp) _).alloc (by simp; omega) _⟩
end Go.Proofs.Ytkickllohilciaa
