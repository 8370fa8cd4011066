/- The type Page: its data, how it lies in memory, and the law's own eq, mark, held over it. Conditions: none. -/
import Derived.Test.YtkfadfddhbpngaaGreatTyLine3v
namespace Go.Proofs.YtkfadfddhbpngaaGreat
open Go Go.RowKit

structure PPage where
 lines : List PLine
 done : List PStep
 undone : List PStep
 deriving DecidableEq

/-- A page's value. -/
def PageIs (el es : TypeId) (o : Bool) (w : World) (p : PPage) (v : Value) (F : List Nat) : Prop :=
 ∃ a b c F1 F2 F3, v = .agg #[a, b, c] ∧ F = F1 ++ (F2 ++ F3) ∧ (pLines el).rep o w p.lines [a] F1 ∧ (pSteps es).rep o w p.done [b] F2 ∧ (pSteps es).rep o w p.undone [c] F3
/-- A page is small. -/
structure PSmall (p : PPage) : Prop where
 l : p.lines.length ≤ 1048576
 w : ∀ x ∈ p.lines, x.length ≤ 1048576
 n : wordsIn p.lines ≤ 1048576
 d : p.done.length ≤ 1048576
 u : p.undone.length ≤ 1048576
section
variable {el es : TypeId} {o : Bool} {w w' : World} {p : PPage} {v : Value} {F G : List Nat}
theorem PageIs.below (h : PageIs el es o w p v F) (hb : Below w.heap.size w w') : PageIs el es o w' p v F := by
 obtain ⟨a, b, c, F1, F2, F3, rfl, rfl, h1, h2, h3⟩ := h
 exact ⟨a, b, c, F1, F2, F3, rfl, rfl, h1.below hb, h2.below hb, h3.below hb⟩
theorem PageIs.only (h : PageIs el es o w p v F) (hb : Only G w w') (hd : ∀ x ∈ F, x ∉ G) : PageIs el es o w' p v F := by
 obtain ⟨a, b, c, F1, F2, F3, rfl, rfl, h1, h2, h3⟩ := h
 exact ⟨a, b, c, F1, F2, F3, rfl, rfl, h1.only hb (fun x hx => hd x (by simp [hx])), h2.only hb (fun x hx => hd x (by simp [hx])), h3.only hb (fun x hx => hd x (by simp [hx]))⟩
theorem PageIs.blocks (h : PageIs el es o w p v F) : ∀ x ∈ F, x < w.heap.size := by
 obtain ⟨a, b, c, F1, F2, F3, rfl, rfl, h1, h2, h3⟩ := h
 intro x hx
 simp only [List.mem_append] at hx
 rcases hx with hx | hx | hx
 · exact h1.blocks x hx
 · exact h2.blocks x hx
 · exact h3.blocks x hx
theorem Row.only {g : Nat} {e : TypeId} {cs : List Value} (h : Row w g e cs) (ho : Only F w w') (hg : g ∉ F) : Row w' g e cs := (ho.block g h.lt hg).trans h
end

set_option maxHeartbeats 1000000 in
theorem eqPage_c {el es el' es' : TypeId} {o o' : Bool} {p q : PPage} {v u : Value} {F G : List Nat} (w : World) (h : PageIs el es o w p v F) (h' : PageIs el' es' o' w q u G) (hp : PSmall p) (hq : PSmall q) :
 Calls Tryz.prog 35 #[v, u] w fun e w' => e = .returned (.bool (decide (p = q))) ∧ Below w.heap.size w w' := by
 obtain ⟨a, b, c, F1, F2, F3, rfl, rfl, h1, h2, h3⟩ := h
 obtain ⟨a', b', c', F1', F2', F3', rfl, rfl, g1, g2, g3⟩ := h'
 have e : decide (p = q) = (decide (p.lines = q.lines) && (decide (p.done = q.done) && decide (p.undone = q.undone))) := by
  rw [← Bool.decide_and, ← Bool.decide_and]; apply decide_eq_decide.2; cases p; cases q; simp
 rw [e]
 have C1 := fun w' (k1 : (pLines el).rep o w' p.lines [a] F1) (k2 : (pLines el').rep o' w' q.lines [a'] F1') => eqTextLineS_c w' k1 k2 hp.l hq.l hp.w hq.w
 have C2 := fun w' (k1 : (pSteps es).rep o w' p.done [b] F2) (k2 : (pSteps es').rep o' w' q.done [b'] F2') => eqStepS_c w' k1 k2 hp.d hq.d
 have C3 := fun w' (k1 : (pSteps es).rep o w' p.undone [c] F3) (k2 : (pSteps es').rep o' w' q.undone [c'] F3') => eqStepS_c w' k1 k2 hp.u hq.u
 obtain ⟨A1, k1, rfl⟩ := slice_len h1
 obtain ⟨A2, k2, rfl⟩ := slice_len h2
 obtain ⟨A3, k3, rfl⟩ := slice_len h3
 obtain ⟨B1, m1, rfl⟩ := slice_len g1
 obtain ⟨B2, m2, rfl⟩ := slice_len g2
 obtain ⟨B3, m3, rfl⟩ := slice_len g3
 generalize decide (p.lines = q.lines) = d1 at *
 generalize decide (p.done = q.done) = d2 at *
 generalize decide (p.undone = q.undone) = d3 at *
 clear e
 have H1 := Lib.hid C1
 have H2 := Lib.hid C2
 have H3 := Lib.hid C3
 clear C1 C2 C3
 have al : ∀ x y, Below w.heap.size w ((w.alloc x).alloc y) := fun x y => ((Below.refl _ _).alloc (Nat.le_refl _) x).alloc (by simp) y
 cases d1
 · go_enter Tryz.func35, Tryz.ntmps35
   go_wp2_with (go_at_call 97; refine (H1.out _ ((h1.alloc _).alloc _) ((g1.alloc _).alloc _)).mono ?_; rintro e w1 ⟨rfl, hb1⟩)
   go_ret
   exact ⟨rfl, (al _ _).trans (hb1.mono (by simp; omega))⟩
 · cases d2
   · go_enter Tryz.func35, Tryz.ntmps35
     go_wp2_with (go_at_call 97; refine (H1.out _ ((h1.alloc _).alloc _) ((g1.alloc _).alloc _)).mono ?_; rintro e w1 ⟨rfl, hb1⟩; have r2 := ((h2.alloc _).alloc _).below hb1; have s2 := ((g2.alloc _).alloc _).below hb1; have bb1 := (al _ _).trans (hb1.mono (by simp; omega)); obtain ⟨hcc, hff⟩ := bcell hb1)
     go_wp2_with (go_at_call 98; refine (H2.out _ r2 s2).mono ?_; rintro e w2 ⟨rfl, hb2⟩)
     go_ret
     exact ⟨rfl, bt bb1 hb2⟩
   · cases d3
     all_goals
      go_enter Tryz.func35, Tryz.ntmps35
      go_wp2_with (go_at_call 97; refine (H1.out _ ((h1.alloc _).alloc _) ((g1.alloc _).alloc _)).mono ?_; rintro e w1 ⟨rfl, hb1⟩; have r2 := ((h2.alloc _).alloc _).below hb1; have s2 := ((g2.alloc _).alloc _).below hb1; have r3 := ((h3.alloc _).alloc _).below hb1; have s3 := ((g3.alloc _).alloc _).below hb1; have bb1 := (al _ _).trans (hb1.mono (by simp; omega)); obtain ⟨hcc, hff⟩ := bcell hb1)
      go_wp2_with fail
      refine (H2.out _ r2 s2).mono ?_
      rintro e w2 ⟨rfl, hb2⟩
      clear hcc hff
      obtain ⟨hcc, hff⟩ := bcell (bt hb1 hb2)
      go_wp2_with fail
      refine (H3.out _ (r3.below hb2) (s3.below hb2)).mono ?_
      rintro e w3 ⟨rfl, hb3⟩
      go_wp2_with fail
      go_ret
      exact ⟨rfl, bt (bt bb1 hb2) hb3⟩

/-- The page whose cells are all marked. -/
def markP (p : PPage) (s : Nat) : PPage :=
 ⟨markLines p.lines s, markPStep p.done.length (s + wordsIn p.lines), markPStep p.undone.length (s + wordsIn p.lines + p.done.length * 5)⟩
/-- How many marks a page takes. -/
def marksIn (p : PPage) : Nat := wordsIn p.lines + p.done.length * 5 + p.undone.length * 5

theorem markStepS_i {e : TypeId} {xs : List PStep} {v : Value} {F : List Nat} (w : World) (h : (pSteps e).rep true w xs [v] F) (hx : xs.length ≤ 1048576) (n : Int) (s : Nat) (hn : n = (s : Int)) (hs0 : 0 < s) (hs : s ≤ 10000000) :
 Calls Tryz.prog 101 #[v, .int .i64 n] w fun e' w' => e' = .returned (.int .i64 ((s : Int) + (xs.length : Int) * 5)) ∧ (pSteps e).rep true w' (markPStep xs.length s) [v] F ∧ Only F w w' := by
 subst hn; exact markStepS_c w h hx s hs0 hs
set_option maxHeartbeats 1000000 in
theorem markPage_w {el es : TypeId} {p : PPage} {a b c : Value} {F1 F2 F3 : List Nat} (w : World) (h1 : (pLines el).rep true w p.lines [a] F1) (h2 : (pSteps es).rep true w p.done [b] F2) (h3 : (pSteps es).rep true w p.undone [c] F3) (hnd : (F1 ++ (F2 ++ F3)).Nodup) (hp : PSmall p) (s : Nat) (hs0 : 0 < s) (hs : s + marksIn p ≤ 10000000) :
 Calls Tryz.prog 38 #[.agg #[a, b, c], .int .i64 s] w fun e w' => e = .returned (.int .i64 ((s + marksIn p : Nat) : Int)) ∧ (pLines el).rep true w' (markP p s).lines [a] F1 ∧ (pSteps es).rep true w' (markP p s).done [b] F2 ∧ (pSteps es).rep true w' (markP p s).undone [c] F3 ∧ Only (F1 ++ (F2 ++ F3)) w w' := by
 unfold marksIn at hs
 have N1 := List.nodup_append.1 hnd
 have N2 := List.nodup_append.1 N1.2.1
 have d12 : ∀ x ∈ F2, x ∉ F1 := fun x hx hx2 => N1.2.2 x hx2 x (by simp [hx]) rfl
 have d13 : ∀ x ∈ F3, x ∉ F1 := fun x hx hx2 => N1.2.2 x hx2 x (by simp [hx]) rfl
 have d23 : ∀ x ∈ F3, x ∉ F2 := fun x hx hx2 => N2.2.2 x hx2 x hx rfl
 have d21 : ∀ x ∈ F1, x ∉ F2 := fun x hx hx2 => N1.2.2 x hx x (by simp [hx2]) rfl
 have d31 : ∀ x ∈ F1, x ∉ F3 := fun x hx hx2 => N1.2.2 x hx x (by simp [hx2]) rfl
 have d32 : ∀ x ∈ F2, x ∉ F3 := fun x hx hx2 => N2.2.2 x hx x hx2 rfl
 have o1 : w.heap.size ∉ F1 := fun hx => by have := h1.blocks _ hx; omega
 have o2 : w.heap.size ∉ F2 := fun hx => by have := h2.blocks _ hx; omega
 obtain ⟨A1, k1, rfl⟩ := slice_len h1
 obtain ⟨A2, k2, rfl⟩ := slice_len h2
 obtain ⟨A3, k3, rfl⟩ := slice_len h3
 have HN1 := Lib.hid N1.1
 clear N1 N2 hnd
 go_enter Tryz.func38, Tryz.ntmps38
 go_wp2_with (go_at_call 100; refine (markTextLineS_c _ (h1.alloc _) HN1.out hp.l hp.w s hs0 (by omega)).mono ?_; rintro e w1 ⟨rfl, r1, q1⟩; have R := (Row.new w 71 #[.slice A1 p.lines.length k1, .slice A2 p.done.length k2, .slice A3 p.undone.length k3]).only q1 o1; have hcell := R.cell' (i := 1) rfl; have r2 := (h2.alloc _).only q1 d12; have r3 := (h3.alloc _).only q1 d13)
 refine (markStepS_i _ r2 hp.d _ (s + wordsIn p.lines) (by omega) (by omega) (by omega)).mono ?_
 rintro e w2 ⟨rfl, r4, q2⟩
 have R2 := R.only q2 o2
 have hcell2 := R2.cell' (i := 2) rfl
 have r5 := r3.only q2 d23
 have r6 := r1.only q2 d21
 go_wp2_with fail
 refine (markStepS_i _ r5 hp.u _ (s + wordsIn p.lines + p.done.length * 5) (by omega) (by omega) (by omega)).mono ?_
 rintro e w3 ⟨rfl, r7, q3⟩
 go_wp2_with fail
 go_ret
 exact ⟨ret_int (by unfold marksIn; omega), r6.only q3 d31, r4.only q3 d32, r7,
  (((Only.of_below ((Below.refl _ _).alloc (Nat.le_refl _) _)).trans (q1.mono (by intro x hx; simp [hx]))).trans (q2.mono (by intro x hx; simp [hx]))).trans (q3.mono (by intro x hx; simp [hx]))⟩
theorem heldStepS_i {o : Bool} {e : TypeId} {n : Nat} {v : Value} {F : List Nat} (w : World) (m : Int) (s : Nat) (hm : m = (s : Int)) (h : (pSteps e).rep o w (markPStep n s) [v] F) (hx : n ≤ 1048576) (hs0 : 0 < s) (hs : s ≤ 10000000) :
 Calls Tryz.prog 103 #[v, .int .i64 m] w fun e' w' => e' = .returned (.int .i64 ((s : Int) + (n : Int) * 5)) ∧ Below w.heap.size w w' := by
 subst hm; exact heldStepS_c w s h hx hs0 hs
set_option maxHeartbeats 1000000 in
theorem heldPage_c {el es : TypeId} {o : Bool} {p : PPage} {v : Value} {F : List Nat} (w : World) (s : Nat) (h : PageIs el es o w (markP p s) v F) (hp : PSmall p) (hs0 : 0 < s) (hs : s + marksIn p ≤ 10000000) :
 Calls Tryz.prog 39 #[v, .int .i64 s] w fun e w' => e = .returned (.int .i64 ((s + marksIn p : Nat) : Int)) ∧ Below w.heap.size w w' := by
 obtain ⟨a, b, c, F1, F2, F3, rfl, rfl, h1, h2, h3⟩ := h
 unfold marksIn at hs
 obtain ⟨A1, k1, rfl⟩ := slice_len h1
 obtain ⟨A2, k2, rfl⟩ := slice_len h2
 obtain ⟨A3, k3, rfl⟩ := slice_len h3
 have al : ∀ x, Below w.heap.size w (w.alloc x) := fun x => (Below.refl _ _).alloc (Nat.le_refl _) x
 go_enter Tryz.func39, Tryz.ntmps39
 go_wp2_with (go_at_call 102; refine (heldTextLineS_c _ s (h1.alloc _) hp.l hp.w hs0 (by omega)).mono ?_; rintro e w1 ⟨rfl, hb1⟩; obtain ⟨hcc, hff⟩ := bcell hb1)
 refine (heldStepS_i _ _ (s + wordsIn p.lines) (by omega) ((h2.alloc _).below hb1) hp.d (by omega) (by omega)).mono ?_
 rintro e w2 ⟨rfl, hb2⟩
 clear hcc hff
 obtain ⟨hcc, hff⟩ := bcell (bt hb1 hb2)
 go_wp2_with fail
 refine (heldStepS_i _ _ (s + wordsIn p.lines + p.done.length * 5) (by omega) (((h3.alloc _).below hb1).below hb2) hp.u (by omega) (by omega)).mono ?_
 rintro e w3 ⟨rfl, hb3⟩
 go_wp2_with fail
 go_ret
 exact ⟨ret_int (by unfold marksIn; omega), bt (bt ((al _).trans (hb1.mono (by simp))) hb2) hb3⟩
end Go.Proofs.YtkfadfddhbpngaaGreat
