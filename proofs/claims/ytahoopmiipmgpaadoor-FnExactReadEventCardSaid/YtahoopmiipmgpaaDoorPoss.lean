/- Events: which are possible, in the program and in the reference. Conditions: none. -/
import Derived.Test.YtahoopmiipmgpaaDoorTyEvent
import Derived.Test.YtahoopmiipmgpaaDoorPoint
import Derived.Test.YtahoopmiipmgpaaDoorTakeCall
namespace Go.Proofs.YtahoopmiipmgpaaDoor
open Go Go.RowKit

/-- Is an event possible? -/
def possB (e : PEvent) : Bool :=
  if e.kind = 1 ∨ e.kind = 2 then pointB ⟨e.x, e.y, e.t⟩
  else if e.kind = 3 ∨ e.kind = 4 then decide (e.x = 0) && (decide (e.y = 0) && inR e.t 0 3600000)
  else false
theorem possB_kind {e : PEvent} (h : possB e = true) : (e.kind = 1 ∨ e.kind = 2) ∨ (e.kind = 3 ∨ e.kind = 4) := by
  unfold possB at h
  split at h
  · left; assumption
  · split at h
    · right; assumption
    · cases h
theorem possB_t {e : PEvent} (h : possB e = true) : 0 ≤ e.t ∧ e.t ≤ 3600000 := by
  unfold possB at h
  split at h
  · simp only [pointB, inR, Bool.and_eq_true, decide_eq_true_eq] at h; omega
  · split at h
    · simp only [inR, Bool.and_eq_true, decide_eq_true_eq] at h; omega
    · cases h
theorem possB_xy {e : PEvent} (h : possB e = true) : 0 ≤ e.x ∧ e.x ≤ 4095 ∧ 0 ≤ e.y ∧ e.y ≤ 4095 := by
  unfold possB at h
  split at h
  · simp only [pointB, inR, Bool.and_eq_true, decide_eq_true_eq] at h; omega
  · split at h
    · simp only [inR, Bool.and_eq_true, decide_eq_true_eq] at h; omega
    · cases h
set_option maxHeartbeats 2000000 in
theorem impl_possible_c (e : PEvent) (w : World) :
    Calls Tryd.prog 29 #[.agg #[.int .i64 e.kind, .int .i64 e.x, .int .i64 e.y, .int .i64 e.t]] w fun en w' => en = .returned (.bool (possB e)) ∧ w' = w.alloc (.cells #[.int .i64 e.kind, .int .i64 e.x, .int .i64 e.y, .int .i64 e.t] 32) := by
  have CX := impl_isCoord_c e.x
  have CY := impl_isCoord_c e.y
  have CT := impl_inR_c e.t 0 3600000
  by_cases k12 : e.kind = 1 ∨ e.kind = 2
  · have hv : possB e = (inR e.x 0 4095 && (inR e.y 0 4095 && inR e.t 0 3600000)) := by simp [possB, k12, pointB]
    rw [hv]
    clear hv
    generalize inR e.x 0 4095 = bx at CX ⊢
    generalize inR e.y 0 4095 = cy at CY ⊢
    generalize inR e.t 0 3600000 = dt at CT ⊢
    have HX := Lib.hid CX
    have HY := Lib.hid CY
    have HT := Lib.hid CT
    clear CX CY CT
    rcases k12 with hk | hk
    all_goals
      rw [hk]
      have g1 : ((1 : Int) == 1) = true := rfl
      clear hk
      cases bx <;> cases cy
      all_goals
        go_enter Tryd.func29, Tryd.ntmps29
        go_wp2_with (first | (go_at_call_of 54 (Value.int .i64 e.x); refine (HX.out _).mono ?_; rintro en w1 ⟨rfl, rfl⟩) | (go_at_call_of 54 (Value.int .i64 e.y); refine (HY.out _).mono ?_; rintro en w1 ⟨rfl, rfl⟩) | (go_at_call 55; refine (HT.out _).mono ?_; rintro en w1 ⟨rfl, rfl⟩))
        go_ret
        exact ⟨rfl, rfl⟩
  · by_cases k34 : e.kind = 3 ∨ e.kind = 4
    · have hv : possB e = (decide (e.x = 0) && (decide (e.y = 0) && inR e.t 0 3600000)) := by simp [possB, k12, k34]
      rw [hv]
      clear hv
      generalize inR e.t 0 3600000 = dt at CT ⊢
      have HT := Lib.hid CT
      clear CX CY CT k12
      by_cases hx : e.x = 0
      all_goals by_cases hy : e.y = 0
      all_goals
        first | (have gx : (e.x == 0) = true := by simp [hx]) | (have gx : (e.x == 0) = false := by simp [hx])
        first | (have gy : (e.y == 0) = true := by simp [hy]) | (have gy : (e.y == 0) = false := by simp [hy])
        rw [show decide (e.x = 0) = (e.x == 0) by rw [Bool.eq_iff_iff]; simp, show decide (e.y = 0) = (e.y == 0) by rw [Bool.eq_iff_iff]; simp, gx, gy]
        clear hx hy
        rcases k34 with hk | hk
        all_goals
          rw [hk]
          clear hk
          go_enter Tryd.func29, Tryd.ntmps29
          go_wp2_with (first | (go_at_call 55; refine (HT.out _).mono ?_; rintro en w1 ⟨rfl, rfl⟩))
          go_ret
          exact ⟨rfl, rfl⟩
    · have hv : possB e = false := by simp [possB, k12, k34]
      rw [hv]
      have g1 : (e.kind == 1) = false := by simp; omega
      have g2 : (e.kind == 2) = false := by simp; omega
      have g3 : (e.kind == 3) = false := by simp; omega
      have g4 : (e.kind == 4) = false := by simp; omega
      clear hv k12 k34 CX CY CT
      go_enter Tryd.func29, Tryd.ntmps29
      go_wp2_with fail
      go_ret
      exact ⟨rfl, rfl⟩
end Go.Proofs.YtahoopmiipmgpaaDoor
