/- The walk of the law FnExactValidSetup. Conditions: none. -/
import Derived.Test.YtkkignkoneeieaaSeTom
import Derived.Test.YtkkignkoneeieaaSeR2m
namespace Go.Proofs.Ytkkignkoneeieaa
open Go Go.RowKit

set_option maxRecDepth 100000 in
set_option maxHeartbeats 4000000 in
theorem law_ValidSetup {I : Ids} {p : PSetup} {v : Value} {F : List Nat} (w : World) (h : SetupIs I false w p v F) :
    Calls Try.prog 3 #[v] w fun e w' => e = .returned (.bool true) ∧ Below w.heap.size w w' := by
  obtain ⟨A0, Ak0, A1, Ak1, A2, Ak2, rfl⟩ := h.shape
  go_enter Try.func3, Try.ntmps3
  go_wp2_with fail
  refine (szSetup_p _ (h.alloc _) 1048576 (by omega)).mono ?_
  rintro e w1 ⟨⟨r, rfl, hr1, hr⟩, b1⟩
  have c1 : Below w.heap.size w w1 := ((Below.refl _ _).alloc (Nat.le_refl _) _).trans (b1.mono (by simp))
  by_cases h0 : r < 0
  · go_wp2_with fail
    go_ret
    exact ⟨rfl, c1⟩
  obtain ⟨hp, hpb⟩ := SeSmall.of (p := p) (by have := hr (by omega); omega)
  clear hr
  have R1 := (Row.new w 34 #[.int .i64 p.band, .slice A0 p.temps.length Ak0, .int .i64 p.points, .int .i64 p.most, .int .i64 p.pen, .slice A1 p.entries.length Ak1, .int .i64 p.dflt, .slice A2 p.bigrams.length Ak2, .int .i64 p.pause]).later b1
  have h1 := (h.alloc _).below b1
  have q0 := R1.cell' (i := 0) rfl
  have q1 := R1.cell' (i := 1) rfl
  have q2 := R1.cell' (i := 2) rfl
  have q3 := R1.cell' (i := 3) rfl
  have q4 := R1.cell' (i := 4) rfl
  have q5 := R1.cell' (i := 5) rfl
  have q6 := R1.cell' (i := 6) rfl
  have q7 := R1.cell' (i := 7) rfl
  have q8 := R1.cell' (i := 8) rfl
  go_wp2_with fail
  refine (toSetup_p _ h1 hp).mono ?_
  rintro e w2 ⟨u2, G2, rfl, r2, f2, b2⟩
  have R2 := R1.later b2
  have h2 := h1.below b2
  have c2 := bt c1 b2
  obtain ⟨B0, Bk0, B1, Bk1, B2, Bk2, rfl⟩ := r2.shape
  go_wp2_with fail
  refine (spec_ValidSetup_p _ r2 hp hpb).mono ?_
  rintro e w3 ⟨rfl, b3⟩
  have R3 := R2.later b3
  have h3 := h2.below b3
  have c3 := bt c2 b3
  clear q0 q1 q2 q3 q4 q5 q6 q7 q8
  have q0 := R3.cell' (i := 0) rfl
  have q1 := R3.cell' (i := 1) rfl
  have q2 := R3.cell' (i := 2) rfl
  have q3 := R3.cell' (i := 3) rfl
  have q4 := R3.cell' (i := 4) rfl
  have q5 := R3.cell' (i := 5) rfl
  have q6 := R3.cell' (i := 6) rfl
  have q7 := R3.cell' (i := 7) rfl
  have q8 := R3.cell' (i := 8) rfl
  have HI := Lib.hid (fun (w : World) (v : Value) (F : List Nat) (h : SetupIs idsI true w p v F) => impl_ValidSetup_p w h hp hpb)
  generalize setupB p = d at *
  have hdd : (d != d) = false := by cases d <;> rfl
  have hss := sameSetupB_refl p
  go_wp2_with fail
  refine (toSetup_p _ h3 hp).mono ?_
  rintro e w4 ⟨u4, G4, rfl, r4, f4, b4⟩
  have c4 := bt c3 b4
  obtain ⟨X0, Xk0, X1, Xk1, X2, Xk2, rfl⟩ := r4.shape
  go_wp2_with fail
  refine (HI.out _ _ _ (r4.alloc _)).mono ?_
  rintro e w5 ⟨rfl, b5⟩
  have h5 := ((h3.below b4).alloc (.cells #[.int .i64 p.band, .slice X0 p.temps.length Xk0, .int .i64 p.points, .int .i64 p.most, .int .i64 p.pen, .slice X1 p.entries.length Xk1, .int .i64 p.dflt, .slice X2 p.bigrams.length Xk2, .int .i64 p.pause] 48)).below b5
  have x5 := (r4.alloc (.cells #[.int .i64 p.band, .slice X0 p.temps.length Xk0, .int .i64 p.points, .int .i64 p.most, .int .i64 p.pen, .slice X1 p.entries.length Xk1, .int .i64 p.dflt, .slice X2 p.bigrams.length Xk2, .int .i64 p.pause] 48)).below b5
  have R5 := ((R3.later b4).alloc (.cells #[.int .i64 p.band, .slice X0 p.temps.length Xk0, .int .i64 p.points, .int .i64 p.most, .int .i64 p.pen, .slice X1 p.entries.length Xk1, .int .i64 p.dflt, .slice X2 p.bigrams.length Xk2, .int .i64 p.pause] 48)).later b5
  have X5 := (Row.new w4 48 #[.int .i64 p.band, .slice X0 p.temps.length Xk0, .int .i64 p.points, .int .i64 p.most, .int .i64 p.pen, .slice X1 p.entries.length Xk1, .int .i64 p.dflt, .slice X2 p.bigrams.length Xk2, .int .i64 p.pause]).later b5
  have c5 : Below w.heap.size w w5 := (c4.alloc c4.size _).trans (b5.mono (by have := c4.size; simp; omega))
  clear q0 q1 q2 q3 q4 q5 q6 q7 q8
  have y0 := R5.cell' (i := 0) rfl
  have z0 := X5.cell' (i := 0) rfl
  have y1 := R5.cell' (i := 1) rfl
  have z1 := X5.cell' (i := 1) rfl
  have y2 := R5.cell' (i := 2) rfl
  have z2 := X5.cell' (i := 2) rfl
  have y3 := R5.cell' (i := 3) rfl
  have z3 := X5.cell' (i := 3) rfl
  have y4 := R5.cell' (i := 4) rfl
  have z4 := X5.cell' (i := 4) rfl
  have y5 := R5.cell' (i := 5) rfl
  have z5 := X5.cell' (i := 5) rfl
  have y6 := R5.cell' (i := 6) rfl
  have z6 := X5.cell' (i := 6) rfl
  have y7 := R5.cell' (i := 7) rfl
  have z7 := X5.cell' (i := 7) rfl
  have y8 := R5.cell' (i := 8) rfl
  have z8 := X5.cell' (i := 8) rfl
  have l1 := R5.lt
  have l2 := X5.lt
  go_wp2_with fail
  go_region_held3 (fun w' => w'.cell? ⟨w.heap.size, 0, none⟩ = some (.int .i64 p.band) ∧ w'.cell? ⟨w.heap.size, 1, none⟩ = some (.slice A0 p.temps.length Ak0) ∧ w'.cell? ⟨w.heap.size, 2, none⟩ = some (.int .i64 p.points) ∧ w'.cell? ⟨w.heap.size, 3, none⟩ = some (.int .i64 p.most) ∧ w'.cell? ⟨w.heap.size, 4, none⟩ = some (.int .i64 p.pen) ∧ w'.cell? ⟨w.heap.size, 5, none⟩ = some (.slice A1 p.entries.length Ak1) ∧ w'.cell? ⟨w.heap.size, 6, none⟩ = some (.int .i64 p.dflt) ∧ w'.cell? ⟨w.heap.size, 7, none⟩ = some (.slice A2 p.bigrams.length Ak2) ∧ w'.cell? ⟨w.heap.size, 8, none⟩ = some (.int .i64 p.pause) ∧ w'.cell? ⟨w4.heap.size, 0, none⟩ = some (.int .i64 p.band) ∧ w'.cell? ⟨w4.heap.size, 1, none⟩ = some (.slice X0 p.temps.length Xk0) ∧ w'.cell? ⟨w4.heap.size, 2, none⟩ = some (.int .i64 p.points) ∧ w'.cell? ⟨w4.heap.size, 3, none⟩ = some (.int .i64 p.most) ∧ w'.cell? ⟨w4.heap.size, 4, none⟩ = some (.int .i64 p.pen) ∧ w'.cell? ⟨w4.heap.size, 5, none⟩ = some (.slice X1 p.entries.length Xk1) ∧ w'.cell? ⟨w4.heap.size, 6, none⟩ = some (.int .i64 p.dflt) ∧ w'.cell? ⟨w4.heap.size, 7, none⟩ = some (.slice X2 p.bigrams.length Xk2) ∧ w'.cell? ⟨w4.heap.size, 8, none⟩ = some (.int .i64 p.pause)) (first | exact ⟨y0, y1, y2, y3, y4, y5, y6, y7, y8, z0, z1, z2, z3, z4, z5, z6, z7, z8⟩ | exact ⟨kb b6 l1 y0, kb b6 l1 y1, kb b6 l1 y2, kb b6 l1 y3, kb b6 l1 y4, kb b6 l1 y5, kb b6 l1 y6, kb b6 l1 y7, kb b6 l1 y8, kb b6 l2 z0, kb b6 l2 z1, kb b6 l2 z2, kb b6 l2 z3, kb b6 l2 z4, kb b6 l2 z5, kb b6 l2 z6, kb b6 l2 z7, kb b6 l2 z8⟩ | exact ⟨kb b7 (Nat.lt_of_lt_of_le l1 b6.size) (kb b6 l1 y0), kb b7 (Nat.lt_of_lt_of_le l1 b6.size) (kb b6 l1 y1), kb b7 (Nat.lt_of_lt_of_le l1 b6.size) (kb b6 l1 y2), kb b7 (Nat.lt_of_lt_of_le l1 b6.size) (kb b6 l1 y3), kb b7 (Nat.lt_of_lt_of_le l1 b6.size) (kb b6 l1 y4), kb b7 (Nat.lt_of_lt_of_le l1 b6.size) (kb b6 l1 y5), kb b7 (Nat.lt_of_lt_of_le l1 b6.size) (kb b6 l1 y6), kb b7 (Nat.lt_of_lt_of_le l1 b6.size) (kb b6 l1 y7), kb b7 (Nat.lt_of_lt_of_le l1 b6.size) (kb b6 l1 y8), kb b7 (Nat.lt_of_lt_of_le l2 b6.size) (kb b6 l2 z0), kb b7 (Nat.lt_of_lt_of_le l2 b6.size) (kb b6 l2 z1), kb b7 (Nat.lt_of_lt_of_le l2 b6.size) (kb b6 l2 z2), kb b7 (Nat.lt_of_lt_of_le l2 b6.size) (kb b6 l2 z3), kb b7 (Nat.lt_of_lt_of_le l2 b6.size) (kb b6 l2 z4), kb b7 (Nat.lt_of_lt_of_le l2 b6.size) (kb b6 l2 z5), kb b7 (Nat.lt_of_lt_of_le l2 b6.size) (kb b6 l2 z6), kb b7 (Nat.lt_of_lt_of_le l2 b6.size) (kb b6 l2 z7), kb b7 (Nat.lt_of_lt_of_le l2 b6.size) (kb b6 l2 z8)⟩) (first | (go_at_call 7; refine (toSetup_p _ h5.drew hp).mono ?_; rintro e w6 ⟨u6, G6, rfl, r6, f6, b6⟩) | (go_at_call 9; refine (eqSetup_p _ (x5.drew.below b6) r6 hp hp).mono ?_; rintro e w7 ⟨rfl, b7⟩))
  go_wp2_with fail
  go_ret
  exact ⟨rfl, bt (c5.drew.trans (b6.mono c5.size)) b7⟩
end Go.Proofs.Ytkkignkoneeieaa
