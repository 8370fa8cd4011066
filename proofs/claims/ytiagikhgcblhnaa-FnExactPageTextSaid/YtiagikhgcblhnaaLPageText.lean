/- The walk of the law FnExactPageText. Conditions: none. -/
import Derived.Test.YtiagikhgcblhnaaPgText2
namespace Go.Proofs.Ytiagikhgcblhnaa
open Go Go.RowKit

set_option maxHeartbeats 1000000 in
theorem law_PageText {el es : TypeId} {p : PPage} {v : Value} {F : List Nat} (w : World) (h : PageIs el es false w p v F) :
    Calls Try.prog 4 #[v] w fun e w' => e = .returned (.bool true) ∧ Below w.heap.size w w' := by
  obtain ⟨A1, k1, A2, k2, A3, k3, rfl⟩ := h.shape
  go_enter Try.func4, Try.ntmps4
  go_wp2_with fail
  refine (szPage_c _ (h.alloc _) 1048576 (by omega)).mono ?_
  rintro e w1 ⟨⟨r, rfl, hr1, hr⟩, b1⟩
  have c1 : Below w.heap.size w w1 := ((Below.refl _ _).alloc (Nat.le_refl _) _).trans (b1.mono (by simp))
  by_cases h0 : r < 0
  · go_wp2_with fail
    go_ret
    exact ⟨rfl, c1⟩
  · have hp := PLaw.of (p := p) (by have := hr (by omega); omega)
    clear hr
    have R1 := (Row.new w 25 #[.slice A1 p.lines.length k1, .slice A2 p.done.length k2, .slice A3 p.undone.length k3]).later b1
    have h1 := (h.alloc _).below b1
    have q0 := R1.cell' (i := 0) rfl
    have q1 := R1.cell' (i := 1) rfl
    have q2 := R1.cell' (i := 2) rfl
    go_wp2_with fail
    refine (toPage_c _ h1 hp.s).mono ?_
    rintro e w2 ⟨u2, G2, rfl, r2, f2, b2⟩
    have R2 := R1.later b2
    have h2 := h1.below b2
    have c2 := bt c1 b2
    obtain ⟨B1, m1, B2, m2, B3, m3, rfl⟩ := r2.shape
    go_wp2_with fail
    refine (spec_PageText_c _ r2 hp).mono ?_
    rintro e w3 ⟨rfl, b3⟩
    have R3 := R2.later b3
    have h3 := h2.below b3
    have c3 := bt c2 b3
    clear q0 q1 q2
    have q0 := R3.cell' (i := 0) rfl
    have q1 := R3.cell' (i := 1) rfl
    have q2 := R3.cell' (i := 2) rfl
    have HI := Lib.hid (fun (w : World) (v : Value) (F : List Nat) (h : PageIs 55 43 true w p v F) => impl_PageText_c w h hp)
    generalize validB p = d at *
    have hdd : (d != d) = false := by cases d <;> rfl
    go_wp2_with fail
    refine (toPage_c _ h3 hp.s).mono ?_
    rintro e w4 ⟨u4, G4, rfl, r4, f4, b4⟩
    have c4 := bt c3 b4
    obtain ⟨X1, n1, X2, n2, X3, n3, rfl⟩ := r4.shape
    go_wp2_with fail
    refine (HI.out _ _ _ (r4.alloc _)).mono ?_
    rintro e w5 ⟨rfl, b5⟩
    have h5 := ((h3.below b4).alloc (.cells #[.slice X1 p.lines.length n1, .slice X2 p.done.length n2, .slice X3 p.undone.length n3] 31)).below b5
    have x5 := (r4.alloc (.cells #[.slice X1 p.lines.length n1, .slice X2 p.done.length n2, .slice X3 p.undone.length n3] 31)).below b5
    have R5 := ((R3.later b4).alloc (.cells #[.slice X1 p.lines.length n1, .slice X2 p.done.length n2, .slice X3 p.undone.length n3] 31)).later b5
    have X5 := (Row.new w4 31 #[.slice X1 p.lines.length n1, .slice X2 p.done.length n2, .slice X3 p.undone.length n3]).later b5
    have c5 : Below w.heap.size w w5 := (c4.alloc c4.size _).trans (b5.mono (by have := c4.size; simp; omega))
    clear q0 q1 q2
    have y0 := R5.cell' (i := 0) rfl
    have y1 := R5.cell' (i := 1) rfl
    have y2 := R5.cell' (i := 2) rfl
    have z0 := X5.cell' (i := 0) rfl
    have z1 := X5.cell' (i := 1) rfl
    have z2 := X5.cell' (i := 2) rfl
    have l1 := R5.lt
    have l2 := X5.lt
    go_wp2_with fail
    go_region_held3 (fun w' => w'.cell? ⟨w.heap.size, 0, none⟩ = some (.slice A1 p.lines.length k1) ∧ w'.cell? ⟨w.heap.size, 1, none⟩ = some (.slice A2 p.done.length k2) ∧ w'.cell? ⟨w.heap.size, 2, none⟩ = some (.slice A3 p.undone.length k3) ∧ w'.cell? ⟨w4.heap.size, 0, none⟩ = some (.slice X1 p.lines.length n1) ∧ w'.cell? ⟨w4.heap.size, 1, none⟩ = some (.slice X2 p.done.length n2) ∧ w'.cell? ⟨w4.heap.size, 2, none⟩ = some (.slice X3 p.undone.length n3)) (first | exact ⟨y0, y1, y2, z0, z1, z2⟩ | exact ⟨keep_below b6 l1 y0, keep_below b6 l1 y1, keep_below b6 l1 y2, keep_below b6 l2 z0, keep_below b6 l2 z1, keep_below b6 l2 z2⟩ | exact ⟨keep_below b7 (Nat.lt_of_lt_of_le l1 b6.size) (keep_below b6 l1 y0), keep_below b7 (Nat.lt_of_lt_of_le l1 b6.size) (keep_below b6 l1 y1), keep_below b7 (Nat.lt_of_lt_of_le l1 b6.size) (keep_below b6 l1 y2), keep_below b7 (Nat.lt_of_lt_of_le l2 b6.size) (keep_below b6 l2 z0), keep_below b7 (Nat.lt_of_lt_of_le l2 b6.size) (keep_below b6 l2 z1), keep_below b7 (Nat.lt_of_lt_of_le l2 b6.size) (keep_below b6 l2 z2)⟩) (first | (go_at_call 10; refine (toPage_c _ h5.drew hp.s).mono ?_; rintro e w6 ⟨u6, G6, rfl, r6, f6, b6⟩) | (go_at_call 12; refine (eqPage_c _ (x5.drew.below b6) r6 hp.s hp.s).mono ?_; rintro e w7 ⟨rfl, b7⟩))
    go_wp2_with fail
    go_ret
    exact ⟨rfl, bt (c5.drew.trans (b6.mono c5.size)) b7⟩
end Go.Proofs.Ytiagikhgcblhnaa
