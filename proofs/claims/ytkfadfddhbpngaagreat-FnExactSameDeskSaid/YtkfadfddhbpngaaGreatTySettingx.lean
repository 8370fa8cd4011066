/- The type Setting: its data, how it lies in memory, and the law's own helpers over it. Conditions: none. -/
import Derived.Test.YtkfadfddhbpngaaGreatRows
import Derived.Test.YtkfadfddhbpngaaGreatStrSx
namespace Go.Proofs.YtkfadfddhbpngaaGreat
open Go Go.RowKit

structure PSetting where
 points : Int
 most : Int
 pen : Int
 deriving DecidableEq

def pSetting : Ty PSetting := (int64.prod (int64.prod int64)).via fun s => (s.points, s.most, s.pen)
theorem pSetting_rep {o : Bool} {w : World} {s : PSetting} {cs : List Value} {F : List Nat} : pSetting.rep o w s cs F ↔ cs = [.int .i64 s.points, .int .i64 s.most, .int .i64 s.pen] ∧ F = [] ∧ I64 s.points ∧ I64 s.most ∧ I64 s.pen := by
 constructor
 · rintro ⟨_, _, _, _, rfl, rfl, ⟨rfl, rfl, h0⟩, ⟨_, _, _, _, rfl, rfl, ⟨rfl, rfl, h1⟩, ⟨rfl, rfl, h2⟩⟩⟩
   exact ⟨rfl, rfl, h0, h1, h2⟩
 · rintro ⟨rfl, rfl, h0, h1, h2⟩
   exact ⟨_, _, [], [], rfl, rfl, ⟨rfl, rfl, h0⟩, ⟨_, _, [], [], rfl, rfl, ⟨rfl, rfl, h1⟩, ⟨rfl, rfl, h2⟩⟩⟩
set_option maxHeartbeats 400000 in
theorem toSetting_c (s : PSetting) (w : World) :
 Calls Tryz.prog 46 #[.agg #[.int .i64 s.points, .int .i64 s.most, .int .i64 s.pen]] w fun e w' => e = .returned (.agg #[.int .i64 s.points, .int .i64 s.most, .int .i64 s.pen]) ∧ Below w.heap.size w w' := by
 go_enter Tryz.func46, Tryz.ntmps46
 go_wp2_with fail
 refine bodyPost_ret (v := .agg #[.int .i64 s.points, .int .i64 s.most, .int .i64 s.pen]) (by simp [results, Tryz.results46, go_sem]) rfl ⟨rfl, ?_⟩
 exact (((Below.refl _ _).alloc (Nat.le_refl _) _).alloc (by simp) _).alloc (by simp; omega) _
set_option maxHeartbeats 400000 in
theorem eqSetting_c (s t : PSetting) (w : World) :
 Calls Tryz.prog 55 #[.agg #[.int .i64 s.points, .int .i64 s.most, .int .i64 s.pen], .agg #[.int .i64 t.points, .int .i64 t.most, .int .i64 t.pen]] w fun e w' => e = .returned (.bool (decide (s = t))) ∧ Below w.heap.size w w' := by
 have e : decide (s = t) = decide (s.points = t.points ∧ s.most = t.most ∧ s.pen = t.pen) := by apply decide_eq_decide.2; cases s; cases t; simp
 rw [e]
 clear e
 go_enter Tryz.func55, Tryz.ntmps55
 go_wp2_with fail
 all_goals go_ret
 all_goals refine ⟨?_, ((Below.refl _ _).alloc (Nat.le_refl _) _).alloc (by simp) _⟩
 all_goals simp_all
end Go.Proofs.YtkfadfddhbpngaaGreat
