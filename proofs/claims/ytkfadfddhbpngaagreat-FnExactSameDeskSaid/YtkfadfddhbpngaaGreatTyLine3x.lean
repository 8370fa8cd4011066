/- The type TextLine: the law's own mark and held over it. Conditions: none. -/
import Derived.Test.YtkfadfddhbpngaaGreatTyLine2x
namespace Go.Proofs.YtkfadfddhbpngaaGreat
open Go Go.RowKit

/-- The words of all lines, counted. -/
def wordsIn (xs : List PLine) : Nat := (xs.map List.length).sum
end Go.Proofs.YtkfadfddhbpngaaGreat
namespace Go.Proofs.YtkfadfddhbpngaaGreat
open Go Go.RowKit

structure PPage where
 lines : List PLine
 done : List PStep
 undone : List PStep
 deriving DecidableEq

/-- A page's value. -/
def PageIs (el es : TypeId) (o : Bool) (w : World) (p : PPage) (v : Value) (F : List Nat) : Prop :=
 ∃ a b c F1 F2 F3, v = .agg #[a, b, c] ∧ F = F1 ++ (F2 ++ F3) ∧ (pLines el).rep o w p.lines [a] F1 ∧ (pSteps es).rep o w p.done [b] F2 ∧ (pSteps es).rep o w p.undone [c] F3
/-- A page is small. -/
structure PSmall (p : PPage) : Prop where
 l : p.lines.length ≤ 1048576
 w : ∀ x ∈ p.lines, x.length ≤ 1048576
 n : wordsIn p.lines ≤ 1048576
 d : p.done.length ≤ 1048576
 u : p.undone.length ≤ 1048576
section
variable {el es : TypeId} {o : Bool} {w w' : World} {p : PPage} {v : Value} {F G : List Nat}
theorem PageIs.below (h : PageIs el es o w p v F) (hb : Below w.heap.size w w') : PageIs el es o w' p v F := by
 obtain ⟨a, b, c, F1, F2, F3, rfl, rfl, h1, h2, h3⟩ := h
 exact ⟨a, b, c, F1, F2, F3, rfl, rfl, h1.below hb, h2.below hb, h3.below hb⟩
theorem PageIs.only (h : PageIs el es o w p v F) (hb : Only G w w') (hd : ∀ x ∈ F, x ∉ G) : PageIs el es o w' p v F := by
 obtain ⟨a, b, c, F1, F2, F3, rfl, rfl, h1, h2, h3⟩ := h
 exact ⟨a, b, c, F1, F2, F3, rfl, rfl, h1.only hb (fun x hx => hd x (by simp [hx])), h2.only hb (fun x hx => hd x (by simp [hx])), h3.only hb (fun x hx => hd x (by simp [hx]))⟩
theorem PageIs.blocks (h : PageIs el es o w p v F) : ∀ x ∈ F, x < w.heap.size := by
 obtain ⟨a, b, c, F1, F2, F3, rfl, rfl, h1, h2, h3⟩ := h
 intro x hx
 simp only [List.mem_append] at hx
 rcases hx with hx | hx | hx
 · exact h1.blocks x hx
 · exact h2.blocks x hx
 · exact h3.blocks x hx
theorem Row.only {g : Nat} {e : TypeId} {cs : List Value} (h : Row w g e cs) (ho : Only F w w') (hg : g ∉ F) : Row w' g e cs := (ho.block g h.lt hg).trans h
end

set_option maxHeartbeats 1000000 in
theorem eqPage_c {el es el' es' : TypeId} {o o' : Bool} {p q : PPage} {v u : Value} {F G : List Nat} (w : World) (h : PageIs el es o w p v F) (h' : PageIs el' es' o' w q u G) (hp : PSmall p) (hq : PSmall q) :
 Calls Tryz.prog 35 #[v, u] w fun e w' => e = .returned (.bool (decide (p = q))) ∧ Below w.heap.size w w' := by
 obtain ⟨a, b, c, F1, F2, F3, rfl, rfl, h1, h2, h3⟩ := h
 obtain ⟨a', b', c', F1', F2', F3', rfl, rfl, g1, g2, g3⟩ := h'
 have e : decide (p = q) = (decide (p.lines = q.lines) && (decide (p.done = q.done) && decide (p.undone = q.undone))) := by
  rw [← Bool.decide_and, ← Bool.decide_and]; apply decide_eq_decide.2; cases p; cases q; simp
 rw [e]
 have C1 := fun w' (k1 : (pLines el).rep o w' p.lines [a] F1) (k2 : (pLines el').rep o' w' q.lines [a'] F1') => eqTextLineS_c w' k1 k2 hp.l hq.l hp.w hq.w
 have C2 := fun w' (k1 : (pSteps es).rep o w' p.done [b] F2) (k2 : (pSteps es').rep o' w' q.done [b'] F2') => eqStepS_c w' k1 k2 hp.d hq.d
 have C3 := fun w' (k1 : (pSteps es).rep o w' p.undone [c] F3) (k2 : (pSteps es').rep o' w' q.undone [c'] F3') => eqStepS_c w' k1 k2 hp.u hq.u
 obtain ⟨A1, k1, rfl⟩ := slice_len h1
 obtain ⟨A2, k2, rfl⟩ := slice_len h2
 obtain ⟨A3, k3, rfl⟩ := slice_len h3
 obtain ⟨B1, m1, rfl⟩ := slice_len g1
 obtain ⟨B2, m2, rfl⟩ := slice_len g2
 obtain ⟨B3, m3, rfl⟩ := slice_len g3
 generalize decide (p.lines = q.lines) = d1 at *
 generalize decide (p.done = q.done) = d2 at *
 generalize decide (p.undone = q.undone) = d3 at *
 clear e
 have H1 := Lib.hid C1
 have H2 := Lib.hid C2
 have H3 := Lib.hid C3
 clear C1 C2 C3
 have al : ∀ x y, Below w.heap.size w ((w.alloc x).alloc y) := fun x y => ((Below.refl _ _).alloc (Nat.le_refl _) x).alloc (by simp) y
 cases d1
 · go_enter Tryz.func35, Tryz.ntmps35
   go_wp2_with (go_at_call 97; refine (H1.out _ ((h1.alloc _).alloc _) ((g1.alloc _).alloc _)).mono ?_; rintro e w1 ⟨rfl, hb1⟩)
   go_ret
   exact ⟨rfl, (al _ _).trans (hb1.mono (by simp; omega))⟩
 · cases d2
   · go_enter Tryz.func35, Tryz.ntmps35
     go_wp2_with (go_at_call 97; refine (H1.out _ ((h1.alloc _).alloc _) ((g1.alloc _).alloc _)).mono ?_; rintro e w1 ⟨rfl, hb1⟩; have r2 := ((h2.alloc _).alloc _).below hb1; have s2 := ((g2.alloc _).alloc _).below hb1; have bb1 := (al _ _).trans (hb1.mono (by simp; omega)); obtain ⟨hcc, hff⟩ := bcell hb1)
     go_wp2_with (go_at_call 98; refine (H2.out _ r2 s2).mono ?_; rintro e w2 ⟨rfl, hb2⟩)
     go_ret
     exact ⟨rfl, bt bb1 hb2⟩
   · cases d3
     all_goals
      go_enter Tryz.func35, Tryz.ntmps35
      go_wp2_with (go_at_call 97; refine (H1.out _ ((h1.alloc _).alloc _) ((g1.alloc _).alloc _)).mono ?_; rintro e w1 ⟨rfl, hb1⟩; have r2 := ((h2.alloc _).alloc _).below hb1; have s2 := ((g2.alloc _).alloc _).below hb1; have r3 := ((h3.alloc _).alloc _).below hb1; have s3 := ((g3.alloc _).alloc _).below hb1; have bb1 := (al _ _).trans (hb1.mono (by simp; omega)); obtain ⟨hcc, hff⟩ := bcell hb1)
      go_wp2_with fail
      refine (H2.out _ r2 s2).mono ?_
      rintro e w2 ⟨rfl, hb2⟩
      clear hcc hff
      obtain ⟨hcc, hff⟩ := bcell (bt hb1 hb2)
      go_wp2_with fail
      refine (H3.out _ (r3.below hb2) (s3.below hb2)).mono ?_
      rintro e w3 ⟨rfl, hb3⟩
      go_wp2_with fail
      go_ret
      exact ⟨rfl, bt (bt bb1 hb2) hb3⟩

/-- How many marks a page takes. -/
def marksIn (p : PPage) : Nat := wordsIn p.lines + p.done.length * 5 + p.undone.length * 5

end Go.Proofs.YtkfadfddhbpngaaGreat
