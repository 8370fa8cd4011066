/- NewPage of the program and of the reference. Conditions: none. -/
import Derived.Test.YtkfadfddhbpngaaGreatPgApplyv
namespace Go.Proofs.YtkfadfddhbpngaaGreat
open Go Go.RowKit

/-- The page with one empty line. -/
def newPage : PPage := ⟨[[]], [], []⟩
theorem newPage_small : PSmall newPage := ⟨by decide, by intro x hx; simp [newPage] at hx; subst hx; simp, by decide, by decide, by decide⟩
theorem newPage_marks : marksIn newPage = 0 := by decide
theorem newPage_is (w : World) {g : Nat} (hg : g = w.heap.size) : PageIs 147 159 true (w.alloc (.cells #[.slice none 0 0] 147)) newPage (.agg #[.slice (some ⟨g, 0, none⟩) 1 1, .slice none 0 0, .slice none 0 0]) [g] := by
 subst hg
 exact ⟨_, _, _, [w.heap.size], [], [], rfl, rfl, slice_of_row (xs := [[]]) (Row.new w _ _) (repL_single.2 (slice_nil _ _ _ _)) (by simp [maxLen]), slice_nil _ _ _ _, slice_nil _ _ _ _⟩
set_option maxHeartbeats 400000 in
theorem impl_NewPage_c (w : World) : Calls Tryz.prog 37 #[] w (GivesPage newPage w) := by
 go_enter Tryz.func37, Tryz.ntmps37
 go_wp2_with fail
 refine bodyPost_ret (v := .agg #[.slice (some ⟨w.heap.size + 1, 0, none⟩) 1 1, .slice none 0 0, .slice none 0 0]) (by simp [results, Tryz.results37, go_sem]) rfl ⟨_, [w.heap.size + 1], rfl, newPage_is _ (by simp), ⟨by simp, by simp⟩, ((Below.refl _ _).alloc (Nat.le_refl _) _).alloc (by simp) _⟩
set_option maxHeartbeats 400000 in
theorem spec_NewPage_c (w : World) : Calls Tryz.prog 99 #[] w (GivesPage newPage w) := by
 go_enter Tryz.func99, Tryz.ntmps99
 go_wp2_with fail
 refine bodyPost_ret (v := .agg #[.slice (some ⟨w.heap.size + 1, 0, none⟩) 1 1, .slice none 0 0, .slice none 0 0]) (by simp [results, Tryz.results99, go_sem]) rfl ⟨_, [w.heap.size + 1], rfl, newPage_is _ (by simp), ⟨by simp, by simp⟩, ((Below.refl _ _).alloc (Nat.le_refl _) _).alloc (by simp) _⟩
end Go.Proofs.YtkfadfddhbpngaaGreat
