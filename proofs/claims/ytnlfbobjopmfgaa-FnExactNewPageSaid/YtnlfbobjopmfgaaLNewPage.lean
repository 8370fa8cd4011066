/- The walk of the law FnExactNewPage. Conditions: none. -/
import Derived.Test.YtnlfbobjopmfgaaTyPage
namespace Go.Proofs.Ytnlfbobjopmfgaa
open Go Go.RowKit

/-- The page with one empty line. -/
def newPage : PPage := ⟨[[]], [], []⟩
theorem newPage_small : PSmall newPage := ⟨by decide, by intro x hx; simp [newPage] at hx; subst hx; simp, by decide, by decide, by decide⟩
theorem newPage_marks : marksIn newPage = 0 := by decide
/-- A page in memory of its own. -/
def GivesPage (p : PPage) (w : World) (e : Ending) (w' : World) : Prop := ∃ v F, e = .returned v ∧ PageIs 57 46 true w' p v F ∧ Fresh w.heap.size F ∧ Below w.heap.size w w'

theorem newPage_is (w : World) {g : Nat} (hg : g = w.heap.size) : PageIs 57 46 true (w.alloc (.cells #[.slice none 0 0] 57)) newPage (.agg #[.slice (some ⟨g, 0, none⟩) 1 1, .slice none 0 0, .slice none 0 0]) [g] := by
  subst hg
  exact ⟨_, _, _, [w.heap.size], [], [], rfl, rfl, slice_of_row (xs := [[]]) (Row.new w _ _) (repL_single.2 (slice_nil _ _ _ _)) (by simp [maxLen]), slice_nil _ _ _ _, slice_nil _ _ _ _⟩
theorem PageIs.shape {el es : TypeId} {o : Bool} {w : World} {p : PPage} {v : Value} {F : List Nat} (h : PageIs el es o w p v F) :
    ∃ A1 k1 A2 k2 A3 k3, v = .agg #[.slice A1 p.lines.length k1, .slice A2 p.done.length k2, .slice A3 p.undone.length k3] := by
  obtain ⟨a, b, c, F1, F2, F3, rfl, rfl, h1, h2, h3⟩ := h
  obtain ⟨A1, k1, rfl⟩ := slice_len h1
  obtain ⟨A2, k2, rfl⟩ := slice_len h2
  obtain ⟨A3, k3, rfl⟩ := slice_len h3
  exact ⟨_, _, _, _, _, _, rfl⟩

theorem PageIs.alloc {el es : TypeId} {o : Bool} {w : World} {p : PPage} {v : Value} {F : List Nat} (h : PageIs el es o w p v F) (x : Obj) : PageIs el es o (w.alloc x) p v F := h.below ((Below.refl _ _).alloc (Nat.le_refl _) x)

set_option maxHeartbeats 400000 in
theorem impl_NewPage_c (w : World) : Calls Try.prog 16 #[] w (GivesPage newPage w) := by
  go_enter Try.func16, Try.ntmps16
  go_wp2_with fail
  refine bodyPost_ret (v := .agg #[.slice (some ⟨w.heap.size + 1, 0, none⟩) 1 1, .slice none 0 0, .slice none 0 0]) (by simp [results, Try.results16, go_sem]) rfl ⟨_, [w.heap.size + 1], rfl, newPage_is _ (by simp), ⟨by simp, by simp⟩, ((Below.refl _ _).alloc (Nat.le_refl _) _).alloc (by simp) _⟩
set_option maxHeartbeats 400000 in
theorem spec_NewPage_c (w : World) : Calls Try.prog 15 #[] w (GivesPage newPage w) := by
  go_enter Try.func15, Try.ntmps15
  go_wp2_with fail
  refine bodyPost_ret (v := .agg #[.slice (some ⟨w.heap.size + 1, 0, none⟩) 1 1, .slice none 0 0, .slice none 0 0]) (by simp [results, Try.results15, go_sem]) rfl ⟨_, [w.heap.size + 1], rfl, newPage_is _ (by simp), ⟨by simp, by simp⟩, ((Below.refl _ _).alloc (Nat.le_refl _) _).alloc (by simp) _⟩

set_option maxHeartbeats 1000000 in
theorem law_NewPage (w : World) : Calls Try.prog 3 #[] w fun e w' => e = .returned (.bool true) ∧ Below w.heap.size w w' := by
  have hs := newPage_small
  have hm := newPage_marks
  have S := spec_NewPage_c
  have I := impl_NewPage_c
  generalize newPage = p at S I hs hm
  have HS := Lib.hid S
  have HI := Lib.hid I
  clear S I
  have z : (((1 + marksIn p : Nat) : Int) < 0) = False := by simp only [eq_iff_iff, iff_false]; omega
  have z2 : ((((1 + marksIn p : Nat) : Int)) != ((1 + marksIn p : Nat) : Int)) = false := by simp
  have HM := Lib.hid hm
  clear hm
  go_enter Try.func3, Try.ntmps3
  go_wp2_with fail
  refine (HS.out _).mono ?_
  rintro e w1 ⟨u1, G1, rfl, r1, f1, b1⟩
  obtain ⟨A1, k1, A2, k2, A3, k3, rfl⟩ := r1.shape
  go_wp2_with fail
  refine (HI.out _).mono ?_
  rintro e w2 ⟨u2, G2, rfl, r2, f2, b2⟩
  obtain ⟨B1, m1, B2, m2, B3, m3, rfl⟩ := r2.shape
  have R0 := (Row.new w1 25 #[.slice A1 p.lines.length k1, .slice A2 p.done.length k2, .slice A3 p.undone.length k3]).later b2
  have q0 := R0.cell' (i := 0) rfl
  have q1 := R0.cell' (i := 1) rfl
  have q2 := R0.cell' (i := 2) rfl
  have hz2 : w1.heap.size + 1 ≤ w2.heap.size := by simpa using b2.size
  have R0a := R0.alloc (.cells #[.slice B1 p.lines.length m1, .slice B2 p.done.length m2, .slice B3 p.undone.length m3] 25)
  have q3 := R0a.cell' (i := 0) rfl
  have q4 := R0a.cell' (i := 1) rfl
  have q5 := R0a.cell' (i := 2) rfl
  go_wp2_with fail
  refine (eqPage_c _ (r2.alloc _) (((r1.alloc _).below b2).alloc _) hs hs).mono ?_
  rintro e w3 ⟨rfl, b3⟩
  have hz3 : w2.heap.size + 1 ≤ w3.heap.size := by simpa using b3.size
  have r3 := (r2.alloc _).below b3
  have s3 := (((r1.alloc _).below b2).alloc _).below b3
  have R1 := (Row.new w2 25 #[.slice B1 p.lines.length m1, .slice B2 p.done.length m2, .slice B3 p.undone.length m3]).later b3
  have R0 := (R0.alloc _).later b3
  clear q0 q1 q2 q3 q4 q5 R0a
  have q3R00 := R0.cell' (i := 0) rfl
  have q3R01 := R0.cell' (i := 1) rfl
  have q3R02 := R0.cell' (i := 2) rfl
  have q3R10 := R1.cell' (i := 0) rfl
  have q3R11 := R1.cell' (i := 1) rfl
  have q3R12 := R1.cell' (i := 2) rfl
  go_wp2_with fail
  refine (markPage_c _ r3 f2.1 hs 1 (by omega) (by have := HM.out; omega)).mono ?_
  rintro e w4 ⟨rfl, r4, o4⟩
  have hz4 := o4.size
  have s4 := s3.only o4 (fun x h1 h2 => by have := r1.blocks x h1; have := f2.2 x h2; simp at this; omega)
  have R0 := R0.only o4 (fun hx => by have := f2.2 _ hx; simp at this; omega)
  have R1 := R1.only o4 (fun hx => by have := r2.blocks _ hx; omega)
  have q4R00 := R0.cell' (i := 0) rfl
  have q4R01 := R0.cell' (i := 1) rfl
  have q4R02 := R0.cell' (i := 2) rfl
  have q4R10 := R1.cell' (i := 0) rfl
  have q4R11 := R1.cell' (i := 1) rfl
  have q4R12 := R1.cell' (i := 2) rfl
  go_wp2_with fail
  refine (heldPage_c _ 1 r4 hs (by omega) (by have := HM.out; omega)).mono ?_
  rintro e w5 ⟨rfl, b5⟩
  have hz5 := b5.size
  have R0 := R0.later b5
  have R1 := R1.later b5
  have q5R00 := R0.cell' (i := 0) rfl
  have q5R01 := R0.cell' (i := 1) rfl
  have q5R02 := R0.cell' (i := 2) rfl
  have q5R10 := R1.cell' (i := 0) rfl
  have q5R11 := R1.cell' (i := 1) rfl
  have q5R12 := R1.cell' (i := 2) rfl
  go_wp2_with fail
  refine (HI.out _).mono ?_
  rintro e w6 ⟨u6, G6, rfl, r6, f6, b6⟩
  obtain ⟨C1, n1, C2, n2, C3, n3, rfl⟩ := r6.shape
  have hz6 := b6.size
  have R0 := R0.later b6
  have R1 := R1.later b6
  have q6R00 := R0.cell' (i := 0) rfl
  have q6R01 := R0.cell' (i := 1) rfl
  have q6R02 := R0.cell' (i := 2) rfl
  have q6R10 := R1.cell' (i := 0) rfl
  have q6R11 := R1.cell' (i := 1) rfl
  have q6R12 := R1.cell' (i := 2) rfl
  have R0a := R0.alloc (.cells #[.slice C1 p.lines.length n1, .slice C2 p.done.length n2, .slice C3 p.undone.length n3] 25)
  have q3 := R0a.cell' (i := 0) rfl
  have q4 := R0a.cell' (i := 1) rfl
  have q5 := R0a.cell' (i := 2) rfl
  go_wp2_with fail
  refine (eqPage_c _ (r6.alloc _) (((s4.below b5).below b6).alloc _) hs hs).mono ?_
  rintro e w7 ⟨rfl, b7⟩
  have hz7 : w6.heap.size + 1 ≤ w7.heap.size := by simpa using b7.size
  have R1 := (R1.alloc _).later b7
  have q7R10 := R1.cell' (i := 0) rfl
  have q7R11 := R1.cell' (i := 1) rfl
  have q7R12 := R1.cell' (i := 2) rfl
  go_wp2_with fail
  refine (heldPage_c _ 1 ((((r4.below b5).below b6).alloc _).below b7) hs (by omega) (by have := HM.out; omega)).mono ?_
  rintro e w8 ⟨rfl, b8⟩
  go_wp2_with fail
  go_ret
  have c1 : Below w.heap.size w w2 := (b1.alloc b1.size _).trans (b2.mono (by simp; have := b1.size; omega))
  have c3 : Below w.heap.size w w3 := (c1.alloc c1.size _).trans (b3.mono (by simp; have := c1.size; omega))
  have c4 := c3.trans (o4.below c3.size (fun x hx => by have := f2.2 x hx; have := b1.size; simp at *; omega))
  have c6 := bt (bt c4 b5) b6
  exact ⟨rfl, bt ((c6.alloc c6.size _).trans (b7.mono (by simp; have := c6.size; omega))) b8⟩
end Go.Proofs.Ytnlfbobjopmfgaa
