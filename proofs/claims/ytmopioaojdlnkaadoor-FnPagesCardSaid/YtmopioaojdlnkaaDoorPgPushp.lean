/- Pages: steps that can be undone. Conditions: none. -/
import Derived.Test.YtmopioaojdlnkaaDoorPgFollowp
import Derived.Test.YtmopioaojdlnkaaDoorPgOkp
namespace Go.Proofs.YtmopioaojdlnkaaDoor
open Go Go.RowKit
theorem keep_at {w2 w3 : World} {F : List Nat} {b N o : Nat} {u : Value} (o3 : Only F w2 w3) (f2 : Fresh N F) (hb : b < N) (hN : N ≤ w2.heap.size) (hu : w2.cell? ⟨b, o, none⟩ = some u) : w3.cell? ⟨b, o, none⟩ = some u :=
 (World.cell?_of_block (o3.block b (by omega) (fun hin => by have := f2.2 b hin; omega))).trans hu
theorem keep_below {w2 w3 : World} {b o : Nat} {u : Value} (o3 : Below w2.heap.size w2 w3) (hb : b < w2.heap.size) (hu : w2.cell? ⟨b, o, none⟩ = some u) : w3.cell? ⟨b, o, none⟩ = some u :=
 (o3.cell (p := ⟨b, o, none⟩) hb).trans hu
def BoxS (g : Nat) (s : PStep) (w : World) : Prop := w.cell? ⟨g, 0, none⟩ = some (.int .i64 s.kind) ∧ w.cell? ⟨g, 1, none⟩ = some (.int .i64 s.line) ∧ w.cell? ⟨g, 2, none⟩ = some (.int .i64 s.pos) ∧ w.cell? ⟨g, 3, none⟩ = some (.string s.word) ∧ w.cell? ⟨g, 4, none⟩ = some (.string s.old)
theorem BoxS.of {w : World} {g : Nat} {s : PStep} (h : Row w g 30 (pStepCells s)) : BoxS g s w := ⟨h.c0, h.c1, h.c2, h.c3, h.c4⟩
set_option maxRecDepth 100000 in
set_option maxHeartbeats 2000000 in
theorem impl_pushed_c {o : Bool} {e : TypeId} {xs : List PStep} {v : Value} {F : List Nat} (s : PStep) (w : World) (h : (pSteps e).rep o w xs [v] F) (hx : xs.length ≤ 1000) (hok : pStepOk s) :
 Calls Tryd.prog 23 #[v, .agg #[.int .i64 s.kind, .int .i64 s.line, .int .i64 s.pos, .string s.word, .string s.old]] w (Gives (pSteps 30) (pushS xs s) w) := by
 have CL := fun w' (q : (pSteps e).rep o w' xs [v] F) => Clone_Step w' q (by omega) pStep_flat
 have HCL := Lib.hid CL
 have HOK := Lib.hid hok
 obtain ⟨A, c, rfl⟩ := slice_len h
 have HH := Lib.hid h
 clear CL h hok
 have HCA : Hid (CellsAt ((w.alloc (.cells #[.int .i64 s.kind, .int .i64 s.line, .int .i64 s.pos, .string s.word, .string s.old] 30)).alloc (.cells #[.int .i64 s.kind, .int .i64 s.line, .int .i64 s.pos, .string s.word, .string s.old] 30)).drew (some ⟨w.heap.size + 1, 0, none⟩) ([s].flatMap pStepCells)) := by
  have h := cellsAt_new (w.alloc (.cells #[.int .i64 s.kind, .int .i64 s.line, .int .i64 s.pos, .string s.word, .string s.old] 30)) 30 ([s].flatMap pStepCells)
  simp only [World.size_alloc] at h
  exact h.drew
 go_enter Tryd.func23, Tryd.ntmps23
 go_wp2_with fail
 go_region_held3 (fun w' => w'.cell? ⟨w.heap.size, 0, none⟩ = some (.int .i64 s.kind) ∧ w'.cell? ⟨w.heap.size, 1, none⟩ = some (.int .i64 s.line) ∧ w'.cell? ⟨w.heap.size, 2, none⟩ = some (.int .i64 s.pos) ∧ w'.cell? ⟨w.heap.size, 3, none⟩ = some (.string s.word) ∧ w'.cell? ⟨w.heap.size, 4, none⟩ = some (.string s.old)) (first | go_keep | (refine ⟨?_, ?_, ?_, ?_, ?_⟩ <;> first | exact keep_at o3 f2 (by simp <;> omega) (by have := b2.size; simp at this ⊢; omega) ((World.cell?_alloc_past (w := w2) _ _ _ (by have := b2.size; simp at this; omega)).trans (keep_below b2 (by simp <;> omega) (by simp))) | exact keep_at o3 f2 (by simp <;> omega) b2.size (keep_below b2 (by simp <;> omega) (by simp)) | exact keep_below b2 (by simp <;> omega) (by simp))) (first | (go_at_call 22; refine (HCL.out _ (by first | exact (HH.out.alloc _).drew | exact ((HH.out.alloc _).alloc _).drew)).mono ?_; rintro e' w2 ⟨u2, F2, rfl, r2, f2, b2⟩; obtain ⟨A2, c2, rfl⟩ := slice_len r2) | (refine step_append_repX (T := pStep) (e := 30) (ys := [s]) (by rfl) (.tmp 7) (.tmp 9) (by rfl) Tryd.underlying25 Tryd.infoStep rfl (by decide) (by rfl) (r2.alloc _) (by rfl) (repL_pStep [s] (by simpa using HOK.out)) (cellsAt_new _ _ _) (by simpa using f2.1) (by simp [maxLen]; omega) (by simp; omega) ?_; intro v3 w3 F3 r3 o3 q3 p3) | (refine step_append_repX (T := pStep) (e := 30) (ys := [s]) (by rfl) (.tmp 7) (.tmp 9) (by rfl) Tryd.underlying25 Tryd.infoStep rfl (by decide) (by rfl) r2 (by rfl) (repL_pStep [s] (by simpa using HOK.out)) (HCA.out.below b2) (by simpa using f2.1) (by simp [maxLen]; omega) (by simp; omega) ?_; intro v3 w3 F3 r3 o3 q3 p3))
 all_goals
  have hb2 : Below w.heap.size w w2 := by first | exact ((Below.refl _ _).alloc (Nat.le_refl _) _).drew.trans (b2.mono (by simp)) | exact (((Below.refl _ _).alloc (Nat.le_refl _) _).alloc (by simp) _).drew.trans (b2.mono (by simp <;> omega))
  have hb2s := hb2.size
  have hf2 : Fresh w.heap.size F2 := f2.mono (by simp <;> omega)
  have hb3 : Below w.heap.size w w3 := by first | exact below_only' hb2 o3 hf2.2 hb2s | exact below_only' (hb2.alloc hb2s _) o3 hf2.2 (by simp; omega)
  have hf3 : Fresh w.heap.size F3 := q3 _ (by rw [List.append_nil]; exact hf2) (by first | omega | (simp; omega))
  obtain ⟨A3, k3, rfl⟩ := slice_len r3
  rw [show (xs ++ [s]).length = xs.length + 1 from by simp] at r3
  have HR3 := Lib.hid r3
  have HF3 := Lib.hid hf3
  have HB3 := Lib.hid hb3
  clear r3 hf3 hb3 o3 q3 p3 hf2 hb2 f2 b2 r2
  by_cases hlt : 30 < xs.length + 1
  · have g1 : (30 : Int) < (xs.length : Int) + 1 := by omega
    have hp : Hid (pushS xs s = (xs ++ [s]).take 0 ++ (xs ++ [s]).drop (0 + 1)) := by show _ = _; simp [pushS, hlt]
    go_wp2_with fail
    refine (Delete_Step _ HR3.out HF3.out.1 (by simp; omega) _ _ 0 rfl (by omega) (by simp)).mono ?_
    rintro e' w4 ⟨u4, F4, rfl, r4, q4, o4⟩
    go_wp2_with fail
    go_ret
    refine ⟨_, _, rfl, by rw [hp.out]; exact r4, ⟨HF3.out.1.sublist q4, fun b hb => HF3.out.2 b (q4.subset hb)⟩, below_only' HB3.out o4 HF3.out.2 HB3.out.size⟩
  · have g1 : ¬ ((30 : Int) < (xs.length : Int) + 1) := by omega
    have hp : Hid (pushS xs s = xs ++ [s]) := by show _ = _; simp only [pushS]; rw [if_neg hlt]
    go_wp2_with fail
    go_ret
    refine ⟨_, _, rfl, ?_, HF3.out, HB3.out⟩
    rw [hp.out]
    exact HR3.out
def szP (p : PPage) : Nat := szLines p.lines + szpStep p.done + szpStep p.undone
theorem szpStep_each {xs : List PStep} {n : Nat} (h : szpStep xs ≤ n) : xs.length ≤ n ∧ ∀ s ∈ xs, s.word.size ≤ n ∧ s.old.size ≤ n := by
 unfold szpStep at h
 refine ⟨by omega, fun s hs => ?_⟩
 have := mem_sum (List.mem_map.2 ⟨s, hs, rfl⟩ : pStepW s ∈ xs.map pStepW)
 have e : pStepW s = s.word.size + s.old.size := rfl
 omega
theorem words_le : ∀ xs : List PLine, wordsIn xs ≤ szLines xs := by
 intro xs
 have : ∀ xs : List PLine, (xs.map List.length).sum ≤ (xs.map szStrs).sum := by
  intro xs
  induction xs with
  | nil => simp
  | cons a r ih => simp only [List.map_cons, List.sum_cons, szStrs]; omega
 have := this xs
 unfold wordsIn szLines; omega
structure PLaw (p : PPage) : Prop where
 s : PSmall p
 b : PBytes p
 m : marksIn p ≤ 5242880
theorem PLaw.of {p : PPage} (h : szP p ≤ 1048576) : PLaw p := by
 unfold szP at h
 have l := szLines_each (xs := p.lines) (n := 1048576) (by omega)
 have d := szpStep_each (xs := p.done) (n := 1048576) (by omega)
 have u := szpStep_each (xs := p.undone) (n := 1048576) (by omega)
 have ww := words_le p.lines
 have hd : p.done.length ≤ szpStep p.done := by unfold szpStep; omega
 have hu : p.undone.length ≤ szpStep p.undone := by unfold szpStep; omega
 exact ⟨⟨l.1, fun x hx => (l.2 x hx).1, by omega, d.1, u.1⟩, ⟨fun x hx => (l.2 x hx).2, d.2, u.2⟩, by unfold marksIn; omega⟩
def GivesPage (p : PPage) (w : World) (e : Ending) (w' : World) : Prop := ∃ v F, e = .returned v ∧ PageIs 56 30 true w' p v F ∧ Fresh w.heap.size F ∧ Below w.heap.size w w'
set_option maxHeartbeats 1000000 in
theorem spec_ValidPage_c {el es : TypeId} {o : Bool} {p : PPage} {v : Value} {F : List Nat} (w : World) (h : PageIs el es o w p v F) (hp : PSmall p) (hq : PBytes p) :
 Calls Tryd.prog 10 #[v] w fun e w' => e = .returned (.bool (validB p)) ∧ Below w.heap.size w w' := by
 obtain ⟨a, b, c, F1, F2, F3, rfl, rfl, h1, h2, h3⟩ := h
 have R := Row.new w 27 #[a, b, c]
 have C := spec_l27Ok_c _ R (h1.alloc _) (h2.alloc _) (h3.alloc _) hp hq
 have H := Lib.hid C
 clear C R
 obtain ⟨A1, k1, rfl⟩ := slice_len h1
 obtain ⟨A2, k2, rfl⟩ := slice_len h2
 obtain ⟨A3, k3, rfl⟩ := slice_len h3
 go_enter Tryd.func10, Tryd.ntmps10
 go_wp2_with fail
 refine H.out.mono ?_
 rintro e w1 ⟨rfl, b1⟩
 go_wp2_with fail
 go_ret
 exact ⟨rfl, ((Below.refl _ _).alloc (Nat.le_refl _) _).trans (b1.mono (by simp))⟩
theorem PageIs.shape {el es : TypeId} {o : Bool} {w : World} {p : PPage} {v : Value} {F : List Nat} (h : PageIs el es o w p v F) :
 ∃ A1 k1 A2 k2 A3 k3, v = .agg #[.slice A1 p.lines.length k1, .slice A2 p.done.length k2, .slice A3 p.undone.length k3] := by
 obtain ⟨a, b, c, F1, F2, F3, rfl, rfl, h1, h2, h3⟩ := h
 obtain ⟨A1, k1, rfl⟩ := slice_len h1
 obtain ⟨A2, k2, rfl⟩ := slice_len h2
 obtain ⟨A3, k3, rfl⟩ := slice_len h3
 exact ⟨_, _, _, _, _, _, rfl⟩
theorem PageIs.alloc {el es : TypeId} {o : Bool} {w : World} {p : PPage} {v : Value} {F : List Nat} (h : PageIs el es o w p v F) (x : Obj) : PageIs el es o (w.alloc x) p v F := h.below ((Below.refl _ _).alloc (Nat.le_refl _) x)
theorem PageIs.drew {el es : TypeId} {o : Bool} {w : World} {p : PPage} {v : Value} {F : List Nat} (h : PageIs el es o w p v F) : PageIs el es o w.drew p v F := h.below (Below.refl _ _).drew
end Go.Proofs.YtmopioaojdlnkaaDoor
