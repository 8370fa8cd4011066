/- The law's own mark and held over the predicate of desks. Conditions: none. -/
import Derived.Test.YtkfadfddhbpngaaGreatDkMkv
import Derived.Test.YtkfadfddhbpngaaGreatSeMkv
namespace Go.Proofs.YtkfadfddhbpngaaGreat
open Go Go.RowKit

theorem markDesk_p {I : DIds} {d : PDesk} {v : Value} {F : List Nat} (w : World) (h : DeskIs I true w d v F) (hnd : F.Nodup) (hp : DkSmall d) (hs : 1 + marksDesk d ≤ 10000000) :
 Calls Tryz.prog 14 #[v, .int .i64 1] w fun e w' => e = .returned (.int .i64 ((1 + marksDesk d : Nat) : Int)) ∧ DeskIs I true w' (markDesk d 1) v F ∧ Only F w w' := by
 obtain ⟨a0, a1, a2, a3, a4, a5, a6, a7, a8, F0, F1, F2, F3, F4, F5, F6, F7, F8, rfl, rfl, h0, h1, h2, h3, h4, h5, h6, h7, h8⟩ := h
 exact (markDesk_s w h0 h1 h2 h3 h4 h5 h6 h7 h8 hnd hp 1 1 rfl (by omega) hs).mono fun _ _ ⟨r, x1, x2, r0, r1, r2, r3, r4, r5, r6, r7, r8, x3⟩ => ⟨by rw [x1, x2], ⟨a0, a1, a2, a3, a4, a5, a6, a7, a8, F0, F1, F2, F3, F4, F5, F6, F7, F8, rfl, rfl, r0, r1, r2, r3, r4, r5, r6, r7, r8⟩, x3⟩
theorem heldDesk_p {I : DIds} {o : Bool} {d : PDesk} {v : Value} {F : List Nat} (w : World) (h : DeskIs I o w (markDesk d 1) v F) (hp : DkSmall d) (hs : 1 + marksDesk d ≤ 10000000) :
 Calls Tryz.prog 15 #[v, .int .i64 1] w fun e w' => e = .returned (.int .i64 ((1 + marksDesk d : Nat) : Int)) ∧ Below w.heap.size w w' := by
 obtain ⟨a0, a1, a2, a3, a4, a5, a6, a7, a8, F0, F1, F2, F3, F4, F5, F6, F7, F8, rfl, rfl, h0, h1, h2, h3, h4, h5, h6, h7, h8⟩ := h
 exact (heldDesk_s (d := d) w 1 h0 h1 h2 h3 h4 h5 h6 h7 h8 hp 1 rfl (by omega) hs).mono fun _ _ ⟨r, x1, x2, x3⟩ => ⟨by rw [x1, x2], x3⟩
end Go.Proofs.YtkfadfddhbpngaaGreat
