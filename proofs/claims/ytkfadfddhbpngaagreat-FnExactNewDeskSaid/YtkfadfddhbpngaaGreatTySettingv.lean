/- The type Setting: its data, how it lies in memory, and the law's own helpers over it. Conditions: none. -/
import Derived.Test.YtkfadfddhbpngaaGreatRows
import Derived.Test.YtkfadfddhbpngaaGreatStrSv
namespace Go.Proofs.YtkfadfddhbpngaaGreat
open Go Go.RowKit

structure PSetting where
 points : Int
 most : Int
 pen : Int
 deriving DecidableEq

set_option maxHeartbeats 400000 in
theorem eqSetting_c (s t : PSetting) (w : World) :
 Calls Tryz.prog 55 #[.agg #[.int .i64 s.points, .int .i64 s.most, .int .i64 s.pen], .agg #[.int .i64 t.points, .int .i64 t.most, .int .i64 t.pen]] w fun e w' => e = .returned (.bool (decide (s = t))) ∧ Below w.heap.size w w' := by
 have e : decide (s = t) = decide (s.points = t.points ∧ s.most = t.most ∧ s.pen = t.pen) := by apply decide_eq_decide.2; cases s; cases t; simp
 rw [e]
 clear e
 go_enter Tryz.func55, Tryz.ntmps55
 go_wp2_with fail
 all_goals go_ret
 all_goals refine ⟨?_, ((Below.refl _ _).alloc (Nat.le_refl _) _).alloc (by simp) _⟩
 all_goals simp_all
end Go.Proofs.YtkfadfddhbpngaaGreat
