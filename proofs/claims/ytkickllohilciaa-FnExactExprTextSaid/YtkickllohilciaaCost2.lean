/- What it costs to join two boxes and whether they fit, in the reference; signs. Conditions: none. -/
import Derived.Test.YtkickllohilciaaCost
import Derived.Deep.QuietTactic
import Derived.BigQuiet
namespace Go.Proofs.Ytkickllohilciaa
open Go Go.RowKit

theorem impl_signOf_c (kind : Int) (w : World) : Calls Try.prog 49 #[.int .i64 kind] w fun e w' => e = .returned (.string (labelF kind)) ∧ w' = w := by
  by_cases h2 : kind = 2
  · subst h2
    go_enter Try.func49, Try.ntmps49
    go_wp2_with fail
    go_ret
    exact ⟨rfl, rfl⟩
  · by_cases h5 : kind = 5
    · subst h5
      go_enter Try.func49, Try.ntmps49
      go_wp2_with fail
      go_ret
      exact ⟨rfl, rfl⟩
    · have g2 : (kind == 2) = false := by simp [h2]
      have g5 : (kind == 5) = false := by simp [h5]
      have e : labelF kind = .empty := by simp [labelF, h2, h5]
      rw [e]
      clear e h2 h5
      go_enter Try.func49, Try.ntmps49
      go_wp2_with fail
      go_ret
      exact ⟨rfl, rfl⟩
theorem spec_l21Label_c (kind : Int) (w : World) : Calls Try.prog 48 #[.int .i64 kind] w fun e w' => e = .returned (.string (labelF kind)) ∧ w' = w := by
  by_cases h2 : kind = 2
  · subst h2
    go_enter Try.func48, Try.ntmps48
    go_wp2_with fail
    go_ret
    exact ⟨rfl, rfl⟩
  · by_cases h5 : kind = 5
    · subst h5
      go_enter Try.func48, Try.ntmps48
      go_wp2_with fail
      go_ret
      exact ⟨rfl, rfl⟩
    · have g2 : (kind == 2) = false := by simp [h2]
      have g5 : (kind == 5) = false := by simp [h5]
      have e : labelF kind = .empty := by simp [labelF, h2, h5]
      rw [e]
      clear e h2 h5
      go_enter Try.func48, Try.ntmps48
      go_wp2_with fail
      go_ret
      exact ⟨rfl, rfl⟩
set_option maxRecDepth 100000 in
set_option maxHeartbeats 4000000 in
theorem spec_l21Own_c (kind : Int) (a b s : PBox) (w : World) (ha : boxIn a) (hb : boxIn b) (hs : boxIn s) :
    Calls Try.prog 80 #[.int .i64 kind, .agg #[.int .i64 s.x1, .int .i64 s.y1, .int .i64 s.x2, .int .i64 s.y2], .agg #[.int .i64 a.x1, .int .i64 a.y1, .int .i64 a.x2, .int .i64 a.y2], .agg #[.int .i64 b.x1, .int .i64 b.y1, .int .i64 b.x2, .int .i64 b.y2]] w fun e w' => e = .returned (.int .i64 (ownF kind a b s)) ∧ Below w.heap.size w w' := by
  have al : ∀ x y z : Obj, ∀ n, Below w.heap.size w ((((w.alloc x).alloc y).alloc z).drewN n) := fun x y z n => below_drewN ((((Below.refl _ _).alloc (Nat.le_refl _) _).alloc (by simp) _).alloc (by simp; omega) _) n
  have al0 : ∀ x y z : Obj, Below w.heap.size w (((w.alloc x).alloc y).alloc z) := fun x y z => (((Below.refl _ _).alloc (Nat.le_refl _) _).alloc (by simp) _).alloc (by simp; omega) _
  unfold boxIn at ha hb hs
  by_cases k1 : kind = 1
  · subst k1
    have e1 : IntKind.i64.wrap (a.y1 + a.y2) = a.y1 + a.y2 := IntWalk.i64_in _ (by omega)
    have e2 : IntKind.i64.wrap (a.y1 + a.y2 - b.y1) = a.y1 + a.y2 - b.y1 := IntWalk.i64_in _ (by omega)
    have e3 : IntKind.i64.wrap (a.y1 + a.y2 - b.y1 - b.y2) = a.y1 + a.y2 - b.y1 - b.y2 := IntWalk.i64_in _ (by omega)
    have e4 : IntKind.i64.wrap (b.x1 - a.x2) = b.x1 - a.x2 := IntWalk.i64_in _ (by omega)
    have h1 := absI_le (n := a.y1 + a.y2 - b.y1 - b.y2) (m := 9000) (by omega)
    have e6 : IntKind.i64.wrap (absI (a.y1 + a.y2 - b.y1 - b.y2) + max 0 (b.x1 - a.x2)) = absI (a.y1 + a.y2 - b.y1 - b.y2) + max 0 (b.x1 - a.x2) := IntWalk.i64_in _ (by omega)
    go_enter Try.func80, Try.ntmps80
    go_wp2_with fail
    go_quiet ((first | (go_at_call 87; exact Calls.quiet_of_same (spec_size_c _ _ (by omega))) | (go_at_call 78; exact Calls.quiet_of_same (spec_max_c _ _ _))))
    go_wp2_with fail
    go_ret
    exact ⟨ret_intJ (by simp only [ownF, if_true]; omega), al _ _ _ _⟩
  · by_cases k2 : kind = 2
    · subst k2
      have e1 : IntKind.i64.wrap (a.x1 + a.x2) = a.x1 + a.x2 := IntWalk.i64_in _ (by omega)
      have e2 : IntKind.i64.wrap (a.x1 + a.x2 - s.x1) = a.x1 + a.x2 - s.x1 := IntWalk.i64_in _ (by omega)
      have e3 : IntKind.i64.wrap (a.x1 + a.x2 - s.x1 - s.x2) = a.x1 + a.x2 - s.x1 - s.x2 := IntWalk.i64_in _ (by omega)
      have e4 : IntKind.i64.wrap (b.x1 + b.x2) = b.x1 + b.x2 := IntWalk.i64_in _ (by omega)
      have e5 : IntKind.i64.wrap (b.x1 + b.x2 - s.x1) = b.x1 + b.x2 - s.x1 := IntWalk.i64_in _ (by omega)
      have e6 : IntKind.i64.wrap (b.x1 + b.x2 - s.x1 - s.x2) = b.x1 + b.x2 - s.x1 - s.x2 := IntWalk.i64_in _ (by omega)
      have h1 := absI_le (n := a.x1 + a.x2 - s.x1 - s.x2) (m := 9000) (by omega)
      have h2 := absI_le (n := b.x1 + b.x2 - s.x1 - s.x2) (m := 9000) (by omega)
      have e7 : IntKind.i64.wrap (absI (a.x1 + a.x2 - s.x1 - s.x2) + absI (b.x1 + b.x2 - s.x1 - s.x2)) = absI (a.x1 + a.x2 - s.x1 - s.x2) + absI (b.x1 + b.x2 - s.x1 - s.x2) := IntWalk.i64_in _ (by omega)
      go_enter Try.func80, Try.ntmps80
      go_wp2_with fail
      go_quiet ((first | (go_at_call 87; exact Calls.quiet_of_same (spec_size_c _ _ (by omega))) | (go_at_call 78; exact Calls.quiet_of_same (spec_max_c _ _ _))))
      go_wp2_with fail
      go_ret
      exact ⟨ret_intJ (by simp [ownF]), al _ _ _ _⟩
    · by_cases k3 : kind = 3
      · subst k3
        have e1 : IntKind.i64.wrap (b.x1 - a.x2) = b.x1 - a.x2 := IntWalk.i64_in _ (by omega)
        have e2 : IntKind.i64.wrap (b.y2 - a.y1) = b.y2 - a.y1 := IntWalk.i64_in _ (by omega)
        have h1 := absI_le (n := b.x1 - a.x2) (m := 9000) (by omega)
        have h2 := absI_le (n := b.y2 - a.y1) (m := 9000) (by omega)
        have e3 : IntKind.i64.wrap (absI (b.x1 - a.x2) + absI (b.y2 - a.y1)) = absI (b.x1 - a.x2) + absI (b.y2 - a.y1) := IntWalk.i64_in _ (by omega)
        have e4 : IntKind.i64.wrap (absI (b.x1 - a.x2) + absI (b.y2 - a.y1) + 20) = absI (b.x1 - a.x2) + absI (b.y2 - a.y1) + 20 := IntWalk.i64_in _ (by omega)
        go_enter Try.func80, Try.ntmps80
        go_wp2_with fail
        go_quiet ((first | (go_at_call 87; exact Calls.quiet_of_same (spec_size_c _ _ (by omega))) | (go_at_call 78; exact Calls.quiet_of_same (spec_max_c _ _ _))))
        go_wp2_with fail
        go_ret
        exact ⟨ret_intJ (by simp [ownF]), al _ _ _ _⟩
      · by_cases k4 : kind = 4
        · subst k4
          have e1 : IntKind.i64.wrap (b.x1 - a.x2) = b.x1 - a.x2 := IntWalk.i64_in _ (by omega)
          have e2 : IntKind.i64.wrap (b.y1 - a.y2) = b.y1 - a.y2 := IntWalk.i64_in _ (by omega)
          have h1 := absI_le (n := b.x1 - a.x2) (m := 9000) (by omega)
          have h2 := absI_le (n := b.y1 - a.y2) (m := 9000) (by omega)
          have e3 : IntKind.i64.wrap (absI (b.x1 - a.x2) + absI (b.y1 - a.y2)) = absI (b.x1 - a.x2) + absI (b.y1 - a.y2) := IntWalk.i64_in _ (by omega)
          have e4 : IntKind.i64.wrap (absI (b.x1 - a.x2) + absI (b.y1 - a.y2) + 20) = absI (b.x1 - a.x2) + absI (b.y1 - a.y2) + 20 := IntWalk.i64_in _ (by omega)
          go_enter Try.func80, Try.ntmps80
          go_wp2_with fail
          go_quiet ((first | (go_at_call 87; exact Calls.quiet_of_same (spec_size_c _ _ (by omega))) | (go_at_call 78; exact Calls.quiet_of_same (spec_max_c _ _ _))))
          go_wp2_with fail
          go_ret
          exact ⟨ret_intJ (by simp [ownF]), al _ _ _ _⟩
        · have g1 : (kind == 1) = false := by simp [k1]
          have g2 : (kind == 2) = false := by simp [k2]
          have g3 : (kind == 3) = false := by simp [k3]
          have g4 : (kind == 4) = false := by simp [k4]
          have r1 : ownF kind a b s = 0 := by simp [ownF, k1, k2, k3, k4]
          rw [r1]
          clear k1 k2 k3 k4 r1
          go_enter Try.func80, Try.ntmps80
          go_wp2_with fail
          go_ret
          exact ⟨rfl, al0 _ _ _⟩
set_option maxRecDepth 100000 in
set_option maxHeartbeats 4000000 in
theorem spec_l21Fits_c (kind : Int) (a b s : PBox) (w : World) (hk : kind = 1 ∨ kind = 2 ∨ kind = 3 ∨ kind = 4 ∨ kind = 5) (ha : boxIn a) (hb : boxIn b) (hs : boxIn s) :
    Calls Try.prog 79 #[.int .i64 kind, .agg #[.int .i64 s.x1, .int .i64 s.y1, .int .i64 s.x2, .int .i64 s.y2], .agg #[.int .i64 a.x1, .int .i64 a.y1, .int .i64 a.x2, .int .i64 a.y2], .agg #[.int .i64 b.x1, .int .i64 b.y1, .int .i64 b.x2, .int .i64 b.y2]] w fun e w' => e = .returned (.bool (fitsF kind a b s)) ∧ Below w.heap.size w w' := by
  have al : ∀ x y z u v : Obj, Below w.heap.size w (((((w.alloc x).alloc y).alloc z).alloc u).alloc v) := fun x y z u v => (((((Below.refl _ _).alloc (Nat.le_refl _) _).alloc (by simp) _).alloc (by simp; omega) _).alloc (by simp; omega) _).alloc (by simp; omega) _
  obtain ⟨Ra, Rb, Rs⟩ := three_boxes w s a b
  rcases hk with rfl | rfl | rfl | rfl | rfl
  · go_enter Try.func79, Try.ntmps79
    go_wp2_with fail
    refine (spec_l20Relation_c a b _ ha hb).mono ?_
    rintro e w1 ⟨rfl, rfl⟩
    go_wp2_with fail
    go_ret
    exact ⟨ret_boolI (by rw [Bool.eq_iff_iff]; simp [fitsF]), al _ _ _ _ _⟩
  · by_cases hr : relF s a = 2
    · have g : (relF s a == 2) = true := by simp [hr]
      have R := Lib.hid hr
      clear hr
      have Qs := (Rs.alloc (.cells #[.int .i64 s.x1, .int .i64 s.y1, .int .i64 s.x2, .int .i64 s.y2] 67)).alloc (.cells #[.int .i64 a.x1, .int .i64 a.y1, .int .i64 a.x2, .int .i64 a.y2] 67)
      have Qa := (Ra.alloc (.cells #[.int .i64 s.x1, .int .i64 s.y1, .int .i64 s.x2, .int .i64 s.y2] 67)).alloc (.cells #[.int .i64 a.x1, .int .i64 a.y1, .int .i64 a.x2, .int .i64 a.y2] 67)
      have s0 := Qa.cell' (i := 0) rfl
      have s1 := Qa.cell' (i := 1) rfl
      have s2 := Qa.cell' (i := 2) rfl
      have s3 := Qa.cell' (i := 3) rfl
      have b0 := Qs.cell' (i := 0) rfl
      have b1 := Qs.cell' (i := 1) rfl
      have b2 := Qs.cell' (i := 2) rfl
      have b3 := Qs.cell' (i := 3) rfl
      go_enter Try.func79, Try.ntmps79
      go_wp2_with fail
      refine (spec_l20Relation_c s a _ hs ha).mono ?_
      rintro e w1 ⟨rfl, rfl⟩
      go_wp2_with fail
      refine (spec_l20Relation_c s b _ hs hb).mono ?_
      rintro e w1 ⟨rfl, rfl⟩
      go_wp2_with fail
      go_ret
      exact ⟨ret_boolI (by rw [Bool.eq_iff_iff]; simp [fitsF, R.out]), ((al _ _ _ _ _).alloc (by simp; omega) _).alloc (by simp; omega) _⟩
    · have g : (relF s a == 2) = false := by simp [hr]
      have R := Lib.hid hr
      clear hr
      go_enter Try.func79, Try.ntmps79
      go_wp2_with fail
      refine (spec_l20Relation_c s a _ hs ha).mono ?_
      rintro e w1 ⟨rfl, rfl⟩
      go_wp2_with fail
      go_ret
      exact ⟨ret_boolI (by rw [Bool.eq_iff_iff]; simp [fitsF, R.out]), al _ _ _ _ _⟩
  · go_enter Try.func79, Try.ntmps79
    go_wp2_with fail
    refine (spec_l20Relation_c a b _ ha hb).mono ?_
    rintro e w1 ⟨rfl, rfl⟩
    go_wp2_with fail
    go_ret
    exact ⟨ret_boolI (by rw [Bool.eq_iff_iff]; simp [fitsF]), al _ _ _ _ _⟩
  · go_enter Try.func79, Try.ntmps79
    go_wp2_with fail
    refine (spec_l20Relation_c a b _ ha hb).mono ?_
    rintro e w1 ⟨rfl, rfl⟩
    go_wp2_with fail
    go_ret
    exact ⟨ret_boolI (by rw [Bool.eq_iff_iff]; simp [fitsF]), al _ _ _ _ _⟩
  · go_enter Try.func79, Try.ntmps79
    go_wp2_with fail
    refine (spec_l20Relation_c s a _ hs ha).mono ?_
    rintro e w1 ⟨rfl, rfl⟩
    go_wp2_with fail
    go_ret
    exact ⟨ret_boolI (by rw [Bool.eq_iff_iff]; simp [fitsF]), al _ _ _ _ _⟩
end Go.Proofs.Ytkickllohilciaa
