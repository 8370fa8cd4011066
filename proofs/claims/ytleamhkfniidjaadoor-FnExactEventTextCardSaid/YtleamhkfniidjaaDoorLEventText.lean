/- The walk of the law FnExactEventText. Conditions: none. -/
import Derived.Test.YtleamhkfniidjaaDoorEvText2
namespace Go.Proofs.YtleamhkfniidjaaDoor
open Go Go.RowKit

set_option maxHeartbeats 400000 in
theorem law_EventText (e : PEvent) (w : World) (hT : Tab w) :
    Calls Tryd.prog 3 #[.agg #[.int .i64 e.kind, .int .i64 e.x, .int .i64 e.y, .int .i64 e.t]] w fun en w' => en = .returned (.bool true) ∧ Below w.heap.size w w' := by
  have HS := Lib.hid (fun w' => spec_EventText_c e w')
  have HI := Lib.hid (fun w' (q : Tab w') => impl_EventText_c e w' q)
  generalize evText e = s at HS HI
  have R := Row.new w 23 #[.int .i64 e.kind, .int .i64 e.x, .int .i64 e.y, .int .i64 e.t]
  have b0 : Below w.heap.size w (w.alloc (.cells #[.int .i64 e.kind, .int .i64 e.x, .int .i64 e.y, .int .i64 e.t] 23)) := (Below.refl _ _).alloc (Nat.le_refl _) _
  go_enter Tryd.func3, Tryd.ntmps3
  go_wp2_with fail
  refine (toEvent_c e _).mono ?_
  rintro en w1 ⟨rfl, b1⟩
  replace R := R.later b1
  replace b0 := b0.trans (b1.mono b0.size)
  go_wp2_with fail
  refine (HS.out _).mono ?_
  rintro en w2 ⟨rfl, b2⟩
  replace R := R.later b2
  replace b0 := b0.trans (b2.mono b0.size)
  have c0 := R.cell' (i := 0) rfl
  have c1 := R.cell' (i := 1) rfl
  have c2 := R.cell' (i := 2) rfl
  have c3 := R.cell' (i := 3) rfl
  go_wp2_with fail
  refine (toEvent_c e _).mono ?_
  rintro en w3 ⟨rfl, b3⟩
  replace b0 := b0.trans (b3.mono b0.size)
  clear c0 c1 c2 c3
  go_wp2_with fail
  refine (HI.out _ (hT.below b0)).mono ?_
  rintro en w4 ⟨rfl, b4⟩
  replace b0 := b0.trans (b4.mono b0.size)
  go_wp2_with fail
  go_ret
  exact ⟨rfl, b0⟩
end Go.Proofs.YtleamhkfniidjaaDoor
