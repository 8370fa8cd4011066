/- The type Ink: the law's own helpers over it. Conditions: none. -/
import Derived.Test.YtkfadfddhbpngaaGreatTyStroke4z
namespace Go.Proofs.YtkfadfddhbpngaaGreat
open Go Go.RowKit

set_option maxHeartbeats 400000 in
theorem eqInk_c {oa ob : Bool} {pa pb ea eb : TypeId} {xs ys : List PStroke} {v u : Value} {F G : List Nat} (w : World) (h : (pStrokes pa ea).rep oa w xs [v] F) (h' : (pStrokes pb eb).rep ob w ys [u] G) (hx : xs.length ≤ 1048576) (hy : ys.length ≤ 1048576) (hxe : ∀ l ∈ xs, l.length ≤ 1048576) (hye : ∀ l ∈ ys, l.length ≤ 1048576) :
    Calls Tryz.prog 51 #[.agg #[v], .agg #[u]] w fun e w' => e = .returned (.bool (decide (xs = ys))) ∧ Below w.heap.size w w' := by
  cases hd : decide (xs = ys)
  all_goals
    go_enter Tryz.func51, Tryz.ntmps51
    go_wp2_with (go_at_call 124; refine (eqStrokeS_c _ ((h.alloc _).alloc _) ((h'.alloc _).alloc _) hx hy hxe hye).mono ?_; rw [hd]; rintro e w1 ⟨rfl, hb1⟩)
    go_ret
    exact ⟨rfl, ((((Below.refl _ _).alloc (Nat.le_refl _) _).alloc (by simp) _).trans (hb1.mono (by simp; omega)))⟩
set_option maxHeartbeats 400000 in
theorem markInk_c {pe e : TypeId} {xs : List PStroke} {v : Value} {F : List Nat} (w : World) (h : (pStrokes pe e).rep true w xs [v] F) (hnd : F.Nodup) (hx : xs.length ≤ 1048576) (hxe : ∀ l ∈ xs, l.length ≤ 1048576) (s : Nat) (hs0 : 0 < s) (hs : s + pointsIn xs ≤ 10000000) :
    Calls Tryz.prog 61 #[.agg #[v], .int .i64 s] w fun e' w' => e' = .returned (.int .i64 ((s + pointsIn xs : Nat) : Int)) ∧ (pStrokes pe e).rep true w' (markStrokes xs s) [v] F ∧ Only F w w' := by
  have H := Lib.hid (fun w' (q : (pStrokes pe e).rep true w' xs [v] F) => markStrokeS_c w' q hnd hx hxe s hs0 hs)
  go_enter Tryz.func61, Tryz.ntmps61
  go_wp2_with fail
  refine (H.out _ (h.alloc _)).mono ?_
  rintro e' w1 ⟨rfl, r1, o1⟩
  go_wp2_with fail
  go_ret
  exact ⟨rfl, r1, (Only.of_below ((Below.refl _ _).alloc (Nat.le_refl _) _)).trans o1⟩
end Go.Proofs.YtkfadfddhbpngaaGreat
