/- The walk of the law FnExactReadEvent. Conditions: the library's variables are laid. -/
import Derived.Test.YtahoopmiipmgpaaDoorEvRd8
import Derived.Test.YtahoopmiipmgpaaDoorTyEvent
namespace Go.Proofs.YtahoopmiipmgpaaDoor
open Go Go.RowKit

/-- What both give. -/
def readE (s : ByteArray) : PEvent := if readOk s = true then implE s.data.toList else ⟨0, 0, 0, 0⟩
set_option maxHeartbeats 1000000 in
theorem law_ReadEvent (s : ByteArray) (w : World) (hE : Env w) :
    Calls Tryd.prog 4 #[.string s] w fun en w' => en = .returned (.bool true) ∧ Below w.heap.size w w' := by
  by_cases hs : s.size ≤ 1048576
  · have g0 : ((1048576 : Int) < (s.size : Int)) = False := eq_false (by omega)
    obtain ⟨hr1, hr2⟩ := read_ref s
    have HS : Hid (∀ w', Calls Tryd.prog 10 #[.string s] w' fun en w'' => en = .returned (.tuple #[.agg #[.int .i64 (readE s).kind, .int .i64 (readE s).x, .int .i64 (readE s).y, .int .i64 (readE s).t], .bool (readOk s)]) ∧ Below w'.heap.size w' w'') := by
      intro w'
      have := spec_ReadEvent_c s w' hs
      rw [hr1] at this
      cases ho : readOk s with
      | false => simpa [readE, ho] using this
      | true => simpa [readE, ho, hr2 ho] using this
    have HI : Hid (∀ w', Env w' → Calls Tryd.prog 11 #[.string s] w' fun en w'' => en = .returned (.tuple #[.agg #[.int .i64 (readE s).kind, .int .i64 (readE s).x, .int .i64 (readE s).y, .int .i64 (readE s).t], .bool (readOk s)]) ∧ Below w'.heap.size w' w'') := by
      intro w' q
      have := impl_ReadEvent_c s w' hs q
      cases ho : readOk s with
      | false => simpa [readE, ho] using this
      | true => simpa [readE, ho] using this
    generalize readE s = e at HS HI
    generalize readOk s = ok at HS HI
    have HEQ := Lib.hid (fun w' => eqEvent_c e e w')
    clear hr1 hr2
    go_enter Tryd.func4, Tryd.ntmps4
    go_wp2_with fail
    refine (HS.out _).mono ?_
    rintro en w1 ⟨rfl, b1⟩
    go_upto_region 4 with fail
    have R1 := Row.new w1 32 #[.int .i64 e.kind, .int .i64 e.x, .int .i64 e.y, .int .i64 e.t]
    have b2 : Below w.heap.size w (w1.alloc (.cells #[.int .i64 e.kind, .int .i64 e.x, .int .i64 e.y, .int .i64 e.t] 32)) := b1.alloc b1.size _
    generalize (w1.alloc (.cells #[.int .i64 e.kind, .int .i64 e.x, .int .i64 e.y, .int .i64 e.t] 32)) = w2 at R1 b2 ⊢
    go_wp2_with fail
    refine (HI.out _ (hE.below b2)).mono ?_
    rintro en w3 ⟨rfl, b3⟩
    replace R1 := R1.later b3
    replace b2 := b2.trans (b3.mono b2.size)
    go_upto_region 5 with fail
    have R3 := Row.new w3 32 #[.int .i64 e.kind, .int .i64 e.x, .int .i64 e.y, .int .i64 e.t]
    have b34 : Below w3.heap.size w3 (w3.alloc (.cells #[.int .i64 e.kind, .int .i64 e.x, .int .i64 e.y, .int .i64 e.t] 32)) := (Below.refl _ _).alloc (Nat.le_refl _) _
    replace R1 := R1.later b34
    replace b2 := b2.trans (b34.mono b2.size)
    clear b34 b3 b1
    generalize (w3.alloc (.cells #[.int .i64 e.kind, .int .i64 e.x, .int .i64 e.y, .int .i64 e.t] 32)) = w4 at R1 R3 b2 ⊢
    have r0 := R1.cell' (i := 0) rfl
    have r1 := R1.cell' (i := 1) rfl
    have r2 := R1.cell' (i := 2) rfl
    have r3 := R1.cell' (i := 3) rfl
    have s0 := R3.cell' (i := 0) rfl
    have s1 := R3.cell' (i := 1) rfl
    have s2 := R3.cell' (i := 2) rfl
    have s3 := R3.cell' (i := 3) rfl
    go_wp2_with fail
    refine (HEQ.out _).mono ?_
    rintro en w5 ⟨rfl, b5⟩
    simp only [decide_true]
    cases ok
    all_goals
      go_wp2_with fail
      go_ret
      exact ⟨rfl, b2.trans (b5.mono b2.size)⟩
  · have g0 : ((1048576 : Int) < (s.size : Int)) = True := eq_true (by omega)
    go_enter Tryd.func4, Tryd.ntmps4
    go_wp2_with fail
    go_ret
    exact ⟨rfl, Below.refl _ _⟩
end Go.Proofs.YtahoopmiipmgpaaDoor
