/- Points: which are valid, in the program and in the reference. Conditions: none. -/
import Derived.Test.YtkkignkoneeieaaGreatTyPointm
import Derived.Test.YtkkignkoneeieaaGreatInm
namespace Go.Proofs.YtkkignkoneeieaaGreat
open Go Go.RowKit

theorem impl_isCoord_c (n : Int) (w : World) :
    Calls Tryz.prog 175 #[.int .i64 n] w fun e w' => e = .returned (.bool (inR n 0 4095)) ∧ w = w' := by
  have C := impl_inR_c n 0 4095
  generalize inR n 0 4095 = b at C
  have HC := Lib.hid C
  clear C
  go_enter Tryz.func175, Tryz.ntmps175
  go_wp2_with fail
  refine (HC.out _).mono ?_
  rintro e w1 ⟨rfl, rfl⟩
  go_wp2_with fail
  go_ret
  exact ⟨rfl, rfl⟩
def pointB (p : PPoint) : Bool := inR p.x 0 4095 && (inR p.y 0 4095 && inR p.t 0 3600000)
set_option maxHeartbeats 400000 in
theorem impl_validPoint_c (p : PPoint) (w : World) :
    Calls Tryz.prog 102 #[.agg #[.int .i64 p.x, .int .i64 p.y, .int .i64 p.t]] w fun e w' => e = .returned (.bool (pointB p)) ∧ w' = w.alloc (.cells #[.int .i64 p.x, .int .i64 p.y, .int .i64 p.t] 110) := by
  have CX := impl_isCoord_c p.x
  have CY := impl_isCoord_c p.y
  have CT := impl_inR_c p.t 0 3600000
  unfold pointB
  generalize inR p.x 0 4095 = bx at CX ⊢
  generalize inR p.y 0 4095 = cy at CY ⊢
  generalize inR p.t 0 3600000 = dt at CT ⊢
  have HX := Lib.hid CX
  have HY := Lib.hid CY
  have HT := Lib.hid CT
  clear CX CY CT
  cases bx <;> cases cy
  all_goals
    go_enter Tryz.func102, Tryz.ntmps102
    go_wp2_with (first | (go_at_call_of 175 (Value.int .i64 p.x); refine (HX.out _).mono ?_; rintro e w1 ⟨rfl, rfl⟩) | (go_at_call_of 175 (Value.int .i64 p.y); refine (HY.out _).mono ?_; rintro e w1 ⟨rfl, rfl⟩) | (go_at_call 41; refine (HT.out _).mono ?_; rintro e w1 ⟨rfl, rfl⟩))
    go_ret
    exact ⟨rfl, rfl⟩
set_option maxHeartbeats 400000 in
theorem spec_l02Point_c (p : PPoint) (w : World) :
    Calls Tryz.prog 166 #[.agg #[.int .i64 p.x, .int .i64 p.y, .int .i64 p.t]] w fun e w' => e = .returned (.bool (pointB p)) ∧ w' = w.alloc (.cells #[.int .i64 p.x, .int .i64 p.y, .int .i64 p.t] 110) := by
  have CX := spec_inR_c p.x 0 4095
  have CY := spec_inR_c p.y 0 4095
  have CT := spec_inR_c p.t 0 3600000
  unfold pointB
  generalize inR p.x 0 4095 = bx at CX ⊢
  generalize inR p.y 0 4095 = cy at CY ⊢
  generalize inR p.t 0 3600000 = dt at CT ⊢
  have HX := Lib.hid CX
  have HY := Lib.hid CY
  have HT := Lib.hid CT
  clear CX CY CT
  cases bx <;> cases cy
  all_goals
    go_enter Tryz.func166, Tryz.ntmps166
    go_wp2_with (first | (go_at_call_of 91 (Value.int .i64 p.x); refine (HX.out _).mono ?_; rintro e w1 ⟨rfl, rfl⟩) | (go_at_call_of 91 (Value.int .i64 p.y); refine (HY.out _).mono ?_; rintro e w1 ⟨rfl, rfl⟩) | (go_at_call_of 91 (Value.int .i64 p.t); refine (HT.out _).mono ?_; rintro e w1 ⟨rfl, rfl⟩))
    go_ret
    exact ⟨rfl, rfl⟩
end Go.Proofs.YtkkignkoneeieaaGreat
