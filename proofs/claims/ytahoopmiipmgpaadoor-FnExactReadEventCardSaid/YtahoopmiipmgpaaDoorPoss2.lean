/- Events: which are possible, in the reference. Conditions: none. -/
import Derived.Test.YtahoopmiipmgpaaDoorPoss
namespace Go.Proofs.YtahoopmiipmgpaaDoor
open Go Go.RowKit

set_option maxRecDepth 100000 in
set_option maxHeartbeats 2000000 in
theorem spec_l26Possible_c (e : PEvent) {g : Nat} (w : World) (R : Row w g 32 [.int .i64 e.kind, .int .i64 e.x, .int .i64 e.y, .int .i64 e.t]) :
    Calls Tryd.prog 49 #[.pointer (some ⟨g, 0, none⟩)] w fun en w' => en = .returned (.bool (possB e)) ∧ Below w.heap.size w w' := by
  have c0 := R.cell' (i := 0) rfl
  have c1 := R.cell' (i := 1) rfl
  have c2 := R.cell' (i := 2) rfl
  have c3 := R.cell' (i := 3) rfl
  have CT := spec_inR_c e.t 0 3600000
  cases ht : inR e.t 0 3600000
  · have hv : possB e = false := by
      cases hv : possB e with
      | false => rfl
      | true => have := possB_t hv; simp [inR] at ht; omega
    rw [hv]
    rw [ht] at CT
    have HT := Lib.hid CT
    clear CT ht hv
    go_enter Tryd.func49, Tryd.ntmps49
    go_wp2_with fail
    refine (HT.out _).mono ?_
    rintro en w1 ⟨rfl, rfl⟩
    go_wp2_with fail
    go_ret
    exact ⟨rfl, Below.refl _ _⟩
  · rw [ht] at CT
    have HT := Lib.hid CT
    clear CT
    by_cases k12 : e.kind = 1 ∨ e.kind = 2
    · have hv : possB e = pointB ⟨e.x, e.y, e.t⟩ := by simp [possB, k12]
      have HP := Lib.hid (spec_l02Point_c ⟨e.x, e.y, e.t⟩)
      rw [hv]
      generalize pointB ⟨e.x, e.y, e.t⟩ = b at HP
      clear hv ht
      rcases k12 with hk | hk
      all_goals
        rw [hk] at c0
        clear hk
        go_enter Tryd.func49, Tryd.ntmps49
        go_wp2_with fail
        refine (HT.out _).mono ?_
        rintro en w1 ⟨rfl, rfl⟩
        go_wp2_with fail
        have hS : (fun w' : World => w'.cell? ⟨g, 1, none⟩ = some (.int .i64 e.x) ∧ w'.cell? ⟨g, 2, none⟩ = some (.int .i64 e.y) ∧ w'.cell? ⟨g, 3, none⟩ = some (.int .i64 e.t)) w.drew := ⟨c1, c2, c3⟩
        dsimp only at hS
        refine wp_region_held_drew (S := (fun w' : World => w'.cell? ⟨g, 1, none⟩ = some (.int .i64 e.x) ∧ w'.cell? ⟨g, 2, none⟩ = some (.int .i64 e.y) ∧ w'.cell? ⟨g, 3, none⟩ = some (.int .i64 e.t))) (by kernel_rfl) hS (fun _ => ?_)
        refine wpAnyH_take (i := 0) (oi := { dst := some 16, op := Go.Op.move (Go.Operand.tmp 0), type := 84, pos := "l26_sessions.go:120", after := #[], guard := none }) (v := ?_) rfl (by kernel_rfl) (by kernel_rfl) (by kernel_rfl) (fun _ _ _ h => h) (Or.inl ⟨rfl, ?_⟩) hS ?_
        rotate_left
        · (intro w' hS'; (try dsimp only at hS'); go_simp; try with_reducible rfl)
        simp only [Act.put, List.setIfInBounds_toArray, List.set_cons_zero, List.set_cons_succ]
        refine wpAnyH_take (i := 1) (oi := { dst := some 17, op := Go.Op.nilCheck (Go.Operand.tmp 16), type := 0, pos := "l26_sessions.go:120", after := #[{ on := 0, ground := Go.Ground.data }], guard := none }) (v := ?_) rfl (by kernel_rfl) (by kernel_rfl) (by kernel_rfl) (fun _ _ _ h => h) (Or.inl ⟨rfl, ?_⟩) hS ?_
        rotate_left
        · (intro w' hS'; (try dsimp only at hS'); go_simp; try with_reducible rfl)
        simp only [Act.put, List.setIfInBounds_toArray, List.set_cons_zero, List.set_cons_succ]
        refine wpAnyH_take (i := 2) (oi := { dst := some 18, op := Go.Op.fieldAddr 32 (Go.Operand.tmp 17) 1, type := 0, pos := "l26_sessions.go:120", after := #[{ on := 1, ground := Go.Ground.data }], guard := none }) (v := ?_) rfl (by kernel_rfl) (by kernel_rfl) (by kernel_rfl) (fun _ _ _ h => h) (Or.inl ⟨rfl, ?_⟩) hS ?_
        rotate_left
        · (intro w' hS'; (try dsimp only at hS'); go_simp; try with_reducible rfl)
        simp only [Act.put, List.setIfInBounds_toArray, List.set_cons_zero, List.set_cons_succ]
        refine wpAnyH_take (i := 3) (oi := { dst := some 19, op := Go.Op.load 2 (Go.Operand.tmp 18), type := 2, pos := "l26_sessions.go:120", after := #[{ on := 2, ground := Go.Ground.data }], guard := none }) (v := ?_) rfl (by kernel_rfl) (by kernel_rfl) (by kernel_rfl) (fun _ _ _ h => h) (Or.inl ⟨rfl, ?_⟩) hS ?_
        rotate_left
        · (intro w' hS'; (try dsimp only at hS'); go_simp; try with_reducible rfl)
        simp only [Act.put, List.setIfInBounds_toArray, List.set_cons_zero, List.set_cons_succ]
        refine wpAnyH_take (i := 4) (oi := { dst := some 20, op := Go.Op.move (Go.Operand.tmp 0), type := 84, pos := "l26_sessions.go:120", after := #[], guard := none }) (v := ?_) rfl (by kernel_rfl) (by kernel_rfl) (by kernel_rfl) (fun _ _ _ h => h) (Or.inl ⟨rfl, ?_⟩) hS ?_
        rotate_left
        · (intro w' hS'; (try dsimp only at hS'); go_simp; try with_reducible rfl)
        simp only [Act.put, List.setIfInBounds_toArray, List.set_cons_zero, List.set_cons_succ]
        refine wpAnyH_take (i := 5) (oi := { dst := some 21, op := Go.Op.nilCheck (Go.Operand.tmp 20), type := 0, pos := "l26_sessions.go:120", after := #[{ on := 4, ground := Go.Ground.data }], guard := none }) (v := ?_) rfl (by kernel_rfl) (by kernel_rfl) (by kernel_rfl) (fun _ _ _ h => h) (Or.inl ⟨rfl, ?_⟩) hS ?_
        rotate_left
        · (intro w' hS'; (try dsimp only at hS'); go_simp; try with_reducible rfl)
        simp only [Act.put, List.setIfInBounds_toArray, List.set_cons_zero, List.set_cons_succ]
        refine wpAnyH_take (i := 6) (oi := { dst := some 22, op := Go.Op.fieldAddr 32 (Go.Operand.tmp 21) 2, type := 0, pos := "l26_sessions.go:120", after := #[{ on := 5, ground := Go.Ground.data }], guard := none }) (v := ?_) rfl (by kernel_rfl) (by kernel_rfl) (by kernel_rfl) (fun _ _ _ h => h) (Or.inl ⟨rfl, ?_⟩) hS ?_
        rotate_left
        · (intro w' hS'; (try dsimp only at hS'); go_simp; try with_reducible rfl)
        simp only [Act.put, List.setIfInBounds_toArray, List.set_cons_zero, List.set_cons_succ]
        refine wpAnyH_take (i := 7) (oi := { dst := some 23, op := Go.Op.load 2 (Go.Operand.tmp 22), type := 2, pos := "l26_sessions.go:120", after := #[{ on := 6, ground := Go.Ground.data }], guard := none }) (v := ?_) rfl (by kernel_rfl) (by kernel_rfl) (by kernel_rfl) (fun _ _ _ h => h) (Or.inl ⟨rfl, ?_⟩) hS ?_
        rotate_left
        · (intro w' hS'; (try dsimp only at hS'); go_simp; try with_reducible rfl)
        simp only [Act.put, List.setIfInBounds_toArray, List.set_cons_zero, List.set_cons_succ]
        refine wpAnyH_take (i := 8) (oi := { dst := some 24, op := Go.Op.move (Go.Operand.tmp 0), type := 84, pos := "l26_sessions.go:120", after := #[], guard := none }) (v := ?_) rfl (by kernel_rfl) (by kernel_rfl) (by kernel_rfl) (fun _ _ _ h => h) (Or.inl ⟨rfl, ?_⟩) hS ?_
        rotate_left
        · (intro w' hS'; (try dsimp only at hS'); go_simp; try with_reducible rfl)
        simp only [Act.put, List.setIfInBounds_toArray, List.set_cons_zero, List.set_cons_succ]
        refine wpAnyH_take (i := 9) (oi := { dst := some 25, op := Go.Op.nilCheck (Go.Operand.tmp 24), type := 0, pos := "l26_sessions.go:120", after := #[{ on := 8, ground := Go.Ground.data }], guard := none }) (v := ?_) rfl (by kernel_rfl) (by kernel_rfl) (by kernel_rfl) (fun _ _ _ h => h) (Or.inl ⟨rfl, ?_⟩) hS ?_
        rotate_left
        · (intro w' hS'; (try dsimp only at hS'); go_simp; try with_reducible rfl)
        simp only [Act.put, List.setIfInBounds_toArray, List.set_cons_zero, List.set_cons_succ]
        refine wpAnyH_take (i := 10) (oi := { dst := some 26, op := Go.Op.fieldAddr 32 (Go.Operand.tmp 25) 3, type := 0, pos := "l26_sessions.go:120", after := #[{ on := 9, ground := Go.Ground.data }], guard := none }) (v := ?_) rfl (by kernel_rfl) (by kernel_rfl) (by kernel_rfl) (fun _ _ _ h => h) (Or.inl ⟨rfl, ?_⟩) hS ?_
        rotate_left
        · (intro w' hS'; (try dsimp only at hS'); go_simp; try with_reducible rfl)
        simp only [Act.put, List.setIfInBounds_toArray, List.set_cons_zero, List.set_cons_succ]
        refine wpAnyH_take (i := 11) (oi := { dst := some 27, op := Go.Op.load 2 (Go.Operand.tmp 26), type := 2, pos := "l26_sessions.go:120", after := #[{ on := 10, ground := Go.Ground.data }], guard := none }) (v := ?_) rfl (by kernel_rfl) (by kernel_rfl) (by kernel_rfl) (fun _ _ _ h => h) (Or.inl ⟨rfl, ?_⟩) hS ?_
        rotate_left
        · (intro w' hS'; (try dsimp only at hS'); go_simp; try with_reducible rfl)
        simp only [Act.put, List.setIfInBounds_toArray, List.set_cons_zero, List.set_cons_succ]
        refine wpAnyH_take (i := 12) (oi := { dst := some 28, op := Go.Op.build 97 #[(0, Go.Operand.tmp 19), (1, Go.Operand.tmp 23), (2, Go.Operand.tmp 27)], type := 97, pos := "l26_sessions.go:120", after := #[{ on := 3, ground := Go.Ground.data }, { on := 7, ground := Go.Ground.data }, { on := 11, ground := Go.Ground.data }], guard := none }) (v := ?_) rfl (by kernel_rfl) (by kernel_rfl) (by kernel_rfl) (fun _ _ _ h => h) (Or.inl ⟨rfl, ?_⟩) hS ?_
        rotate_left
        · (intro w' hS'; (try dsimp only at hS'); go_simp; try with_reducible rfl)
        simp only [Act.put, List.setIfInBounds_toArray, List.set_cons_zero, List.set_cons_succ]
        refine wpAnyH_ready (rs := [13]) (by kernel_rfl) (by simp) ?_
        refine AllReadyH.cons (o := { dst := some 29, op := Go.Op.call { callee := Go.Callee.value (Go.Operand.func 69), args := #[Go.Operand.tmp 28], argTypes := #[97] }, type := 4, pos := "l26_sessions.go:120", after := #[{ on := 12, ground := Go.Ground.data }], guard := none }) rfl (fun K hK => ?_) .nil
        refine step_call 69 #[Go.Operand.tmp 28] _ rfl rfl #[.agg #[.int .i64 e.x, .int .i64 e.y, .int .i64 e.t]] Tryd.call69 (by go_simp) (HP.out _) ?_
        rintro en w1 ⟨rfl, rfl⟩
        refine ⟨_, rfl, ?_⟩
        have R2 := R.drew.alloc (.cells #[.int .i64 e.x, .int .i64 e.y, .int .i64 e.t] 97)
        replace hS : (fun w' : World => w'.cell? ⟨g, 1, none⟩ = some (.int .i64 e.x) ∧ w'.cell? ⟨g, 2, none⟩ = some (.int .i64 e.y) ∧ w'.cell? ⟨g, 3, none⟩ = some (.int .i64 e.t)) (w.drew.alloc (.cells #[.int .i64 e.x, .int .i64 e.y, .int .i64 e.t] 97)) := ⟨R2.cell' (i := 1) rfl, R2.cell' (i := 2) rfl, R2.cell' (i := 3) rfl⟩
        dsimp only at hS
        refine hK.out _ _ ?_ (fun hHeld => ?_)
        · exact hS
        clear hK K hHeld
        simp only [Act.put, List.setIfInBounds_toArray, List.set_cons_zero, List.set_cons_succ]
        refine wpAnyH_take (i := 14) (oi := { dst := some 2, op := Go.Op.assign (Go.Operand.tmp 29), type := 4, pos := "l26_sessions.go:120", after := #[{ on := 13, ground := Go.Ground.data }, { on := 13, ground := Go.Ground.chain }, { on := 0, ground := Go.Ground.phase }, { on := 1, ground := Go.Ground.phase }, { on := 2, ground := Go.Ground.phase }, { on := 3, ground := Go.Ground.phase }, { on := 4, ground := Go.Ground.phase }, { on := 5, ground := Go.Ground.phase }, { on := 6, ground := Go.Ground.phase }, { on := 7, ground := Go.Ground.phase }, { on := 8, ground := Go.Ground.phase }, { on := 9, ground := Go.Ground.phase }, { on := 10, ground := Go.Ground.phase }, { on := 11, ground := Go.Ground.phase }, { on := 12, ground := Go.Ground.phase }, { on := 13, ground := Go.Ground.phase }], guard := none }) (v := ?_) rfl (by kernel_rfl) (by kernel_rfl) (by kernel_rfl) (fun _ _ _ h => h) (Or.inl ⟨rfl, ?_⟩) hS ?_
        rotate_left
        · (intro w' hS'; (try dsimp only at hS'); go_simp; try with_reducible rfl)
        simp only [Act.put, List.setIfInBounds_toArray, List.set_cons_zero, List.set_cons_succ]
        refine wpAnyH_done (by kernel_rfl) ?_ _
        go_wp2_with fail
        go_ret
        exact ⟨rfl, (Below.refl _ _).drew.alloc (Nat.le_refl _) _⟩
    · by_cases k34 : e.kind = 3 ∨ e.kind = 4
      · have hv : possB e = ((e.x == 0) && (e.y == 0)) := by
          rw [possB, if_neg k12, if_pos k34, ht, Bool.and_true]
          rw [Bool.eq_iff_iff]; simp
        rw [hv]
        clear hv k12 ht
        cases gx : (e.x == 0)
        all_goals
          rcases k34 with hk | hk
          all_goals
            rw [hk] at c0
            clear hk
            go_enter Tryd.func49, Tryd.ntmps49
            go_wp2_with fail
            refine (HT.out _).mono ?_
            rintro en w1 ⟨rfl, rfl⟩
            go_wp2_with fail
            go_ret
            exact ⟨rfl, Below.refl _ _⟩
      · have hv : possB e = false := by simp [possB, k12, k34]
        rw [hv]
        have g1 : (e.kind == 1) = false := by simp; omega
        have g2 : (e.kind == 2) = false := by simp; omega
        have g3 : (e.kind == 3) = false := by simp; omega
        have g4 : (e.kind == 4) = false := by simp; omega
        clear hv k12 k34 ht
        go_enter Tryd.func49, Tryd.ntmps49
        go_wp2_with fail
        refine (HT.out _).mono ?_
        rintro en w1 ⟨rfl, rfl⟩
        go_wp2_with fail
        go_ret
        exact ⟨rfl, Below.refl _ _⟩
end Go.Proofs.YtahoopmiipmgpaaDoor
