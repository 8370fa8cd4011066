/- Pages: steps that can be undone. Conditions: none. -/
import Derived.Test.YtiagikhgcblhnaaPgFollow
namespace Go.Proofs.Ytiagikhgcblhnaa
open Go Go.RowKit

/-- A list to be read. -/
def GivesR {α : Type} (T : Ty α) (a : α) (w : World) (e : Ending) (w' : World) : Prop := ∃ u F, e = .returned u ∧ T.rep false w' a [u] F ∧ Below w.heap.size w w'
theorem keep_at {w2 w3 : World} {F : List Nat} {b N o : Nat} {u : Value} (o3 : Only F w2 w3) (f2 : Fresh N F) (hb : b < N) (hN : N ≤ w2.heap.size) (hu : w2.cell? ⟨b, o, none⟩ = some u) : w3.cell? ⟨b, o, none⟩ = some u :=
  (World.cell?_of_block (o3.block b (by omega) (fun hin => by have := f2.2 b hin; omega))).trans hu
theorem keep_below {w2 w3 : World} {b o : Nat} {u : Value} (o3 : Below w2.heap.size w2 w3) (hb : b < w2.heap.size) (hu : w2.cell? ⟨b, o, none⟩ = some u) : w3.cell? ⟨b, o, none⟩ = some u :=
  (o3.cell (p := ⟨b, o, none⟩) hb).trans hu

/-- A step's cells in a box. -/
def BoxS (g : Nat) (s : PStep) (w : World) : Prop := w.cell? ⟨g, 0, none⟩ = some (.int .i64 s.kind) ∧ w.cell? ⟨g, 1, none⟩ = some (.int .i64 s.line) ∧ w.cell? ⟨g, 2, none⟩ = some (.int .i64 s.pos) ∧ w.cell? ⟨g, 3, none⟩ = some (.string s.word) ∧ w.cell? ⟨g, 4, none⟩ = some (.string s.old)
theorem BoxS.of {w : World} {g : Nat} {s : PStep} (h : Row w g 43 (pStepCells s)) : BoxS g s w := ⟨h.cell' (i := 0) rfl, h.cell' (i := 1) rfl, h.cell' (i := 2) rfl, h.cell' (i := 3) rfl, h.cell' (i := 4) rfl⟩

set_option maxRecDepth 100000 in
set_option maxHeartbeats 2000000 in
theorem impl_pushed_c {o : Bool} {e : TypeId} {xs : List PStep} {v : Value} {F : List Nat} (s : PStep) (w : World) (h : (pSteps e).rep o w xs [v] F) (hx : xs.length ≤ 1000) (hok : pStepOk s) :
    Calls Try.prog 46 #[v, .agg #[.int .i64 s.kind, .int .i64 s.line, .int .i64 s.pos, .string s.word, .string s.old]] w (Gives (pSteps 43) (pushS xs s) w) := by
  have CL := fun w' (q : (pSteps e).rep o w' xs [v] F) => Clone_Step w' q (by omega) pStep_flat
  have HCL := Lib.hid CL
  have HOK := Lib.hid hok
  obtain ⟨A, c, rfl⟩ := slice_len h
  have HH := Lib.hid h
  clear CL h hok
  have HCA : Hid (CellsAt ((w.alloc (.cells #[.int .i64 s.kind, .int .i64 s.line, .int .i64 s.pos, .string s.word, .string s.old] 43)).alloc (.cells #[.int .i64 s.kind, .int .i64 s.line, .int .i64 s.pos, .string s.word, .string s.old] 43)).drew (some ⟨w.heap.size + 1, 0, none⟩) ([s].flatMap pStepCells)) := by
    have h := cellsAt_new (w.alloc (.cells #[.int .i64 s.kind, .int .i64 s.line, .int .i64 s.pos, .string s.word, .string s.old] 43)) 43 ([s].flatMap pStepCells)
    simp only [World.size_alloc] at h
    exact h.drew
  go_enter Try.func46, Try.ntmps46
  go_wp2_with fail
  go_region_held3 (fun w' => w'.cell? ⟨w.heap.size, 0, none⟩ = some (.int .i64 s.kind) ∧ w'.cell? ⟨w.heap.size, 1, none⟩ = some (.int .i64 s.line) ∧ w'.cell? ⟨w.heap.size, 2, none⟩ = some (.int .i64 s.pos) ∧ w'.cell? ⟨w.heap.size, 3, none⟩ = some (.string s.word) ∧ w'.cell? ⟨w.heap.size, 4, none⟩ = some (.string s.old)) (first | go_keep | (refine ⟨?_, ?_, ?_, ?_, ?_⟩ <;> first | exact keep_at o3 f2 (by simp <;> omega) (by have := b2.size; simp at this ⊢; omega) ((World.cell?_alloc_past (w := w2) _ _ _ (by have := b2.size; simp at this; omega)).trans (keep_below b2 (by simp <;> omega) (by simp))) | exact keep_at o3 f2 (by simp <;> omega) b2.size (keep_below b2 (by simp <;> omega) (by simp)) | exact keep_below b2 (by simp <;> omega) (by simp))) (first | (go_at_call 47; refine (HCL.out _ (by first | exact (HH.out.alloc _).drew | exact ((HH.out.alloc _).alloc _).drew)).mono ?_; rintro e' w2 ⟨u2, F2, rfl, r2, f2, b2⟩; obtain ⟨A2, c2, rfl⟩ := slice_len r2) | (refine step_append_repX (T := pStep) (e := 43) (ys := [s]) (by rfl) (.tmp 7) (.tmp 9) (by rfl) Try.underlying29 Try.infoStep rfl (by decide) (by rfl) (r2.alloc _) (by rfl) (repL_pStep [s] (by simpa using HOK.out)) (cellsAt_new _ _ _) (by simpa using f2.1) (by simp [maxLen]; omega) (by simp; omega) ?_; intro v3 w3 F3 r3 o3 q3 p3) | (refine step_append_repX (T := pStep) (e := 43) (ys := [s]) (by rfl) (.tmp 7) (.tmp 9) (by rfl) Try.underlying29 Try.infoStep rfl (by decide) (by rfl) r2 (by rfl) (repL_pStep [s] (by simpa using HOK.out)) (HCA.out.below b2) (by simpa using f2.1) (by simp [maxLen]; omega) (by simp; omega) ?_; intro v3 w3 F3 r3 o3 q3 p3))
  all_goals
    have hb2 : Below w.heap.size w w2 := by first | exact ((Below.refl _ _).alloc (Nat.le_refl _) _).drew.trans (b2.mono (by simp)) | exact (((Below.refl _ _).alloc (Nat.le_refl _) _).alloc (by simp) _).drew.trans (b2.mono (by simp <;> omega))
    have hb2s := hb2.size
    have hf2 : Fresh w.heap.size F2 := f2.mono (by simp <;> omega)
    have hb3 : Below w.heap.size w w3 := by first | exact below_only' hb2 o3 hf2.2 hb2s | exact below_only' (hb2.alloc hb2s _) o3 hf2.2 (by simp; omega)
    have hf3 : Fresh w.heap.size F3 := q3 _ (by rw [List.append_nil]; exact hf2) (by first | omega | (simp; omega))
    obtain ⟨A3, k3, rfl⟩ := slice_len r3
    rw [show (xs ++ [s]).length = xs.length + 1 from by simp] at r3
    have HR3 := Lib.hid r3
    have HF3 := Lib.hid hf3
    have HB3 := Lib.hid hb3
    clear r3 hf3 hb3 o3 q3 p3 hf2 hb2 f2 b2 r2
    by_cases hlt : 30 < xs.length + 1
    · have g1 : (30 : Int) < (xs.length : Int) + 1 := by omega
      have hp : Hid (pushS xs s = (xs ++ [s]).take 0 ++ (xs ++ [s]).drop (0 + 1)) := by show _ = _; simp [pushS, hlt]
      go_wp2_with fail
      refine (Delete_Step _ HR3.out HF3.out.1 (by simp; omega) _ _ 0 rfl (by omega) (by simp)).mono ?_
      rintro e' w4 ⟨u4, F4, rfl, r4, q4, o4⟩
      go_wp2_with fail
      go_ret
      refine ⟨_, _, rfl, by rw [hp.out]; exact r4, ⟨HF3.out.1.sublist q4, fun b hb => HF3.out.2 b (q4.subset hb)⟩, below_only' HB3.out o4 HF3.out.2 HB3.out.size⟩
    · have g1 : ¬ ((30 : Int) < (xs.length : Int) + 1) := by omega
      have hp : Hid (pushS xs s = xs ++ [s]) := by show _ = _; simp only [pushS]; rw [if_neg hlt]
      go_wp2_with fail
      go_ret
      refine ⟨_, _, rfl, ?_, HF3.out, HB3.out⟩
      rw [hp.out]
      exact HR3.out
end Go.Proofs.Ytiagikhgcblhnaa
