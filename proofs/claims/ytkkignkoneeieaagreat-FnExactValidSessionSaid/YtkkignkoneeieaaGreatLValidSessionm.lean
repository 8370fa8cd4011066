/- The walk of the law FnExactValidSession. Conditions: none. -/
import Derived.Test.YtkkignkoneeieaaGreatSsRm
namespace Go.Proofs.YtkkignkoneeieaaGreat
open Go Go.RowKit

set_option maxRecDepth 100000 in
set_option maxHeartbeats 4000000 in
theorem law_ValidSession {I : Ids} {p : PSess} {v : Value} {F : List Nat} (w : World) (h : SessIs I false w p v F) :
    Calls Tryz.prog 3 #[v] w fun e w' => e = .returned (.bool true) ∧ Below w.heap.size w w' := by
  obtain ⟨A0, Ak0, A1, Ak1, A2, Ak2, A3, Ak3, A4, Ak4, A5, Ak5, rfl⟩ := h.shape
  go_enter Tryz.func3, Tryz.ntmps3
  go_wp2_with fail
  refine (szSession_p _ (h.alloc _) 1048576 (by omega)).mono ?_
  rintro e w1 ⟨⟨r, rfl, hr1, hr⟩, b1⟩
  have c1 : Below w.heap.size w w1 := ((Below.refl _ _).alloc (Nat.le_refl _) _).trans (b1.mono (by simp))
  by_cases h0 : r < 0
  · go_wp2_with fail
    go_ret
    exact ⟨rfl, c1⟩
  obtain ⟨hp, hpb⟩ := SsSmall.of (q := p) (by have := hr (by omega); omega)
  clear hr
  have R1 := (Row.new w 41 #[.int .i64 p.setup.band, .slice A0 p.setup.temps.length Ak0, .int .i64 p.setup.points, .int .i64 p.setup.most, .int .i64 p.setup.pen, .slice A1 p.setup.entries.length Ak1, .int .i64 p.setup.dflt, .slice A2 p.setup.bigrams.length Ak2, .int .i64 p.setup.pause, .slice A3 p.strokes.length Ak3, .slice A4 p.opn.length Ak4, .int .i64 p.time, .slice A5 p.words.length Ak5]).later b1
  have h1 := (h.alloc _).below b1
  have q0 := R1.cell' (i := 0) rfl
  have q1 := R1.cell' (i := 1) rfl
  have q2 := R1.cell' (i := 2) rfl
  have q3 := R1.cell' (i := 3) rfl
  have q4 := R1.cell' (i := 4) rfl
  have q5 := R1.cell' (i := 5) rfl
  have q6 := R1.cell' (i := 6) rfl
  have q7 := R1.cell' (i := 7) rfl
  have q8 := R1.cell' (i := 8) rfl
  have q9 := R1.cell' (i := 9) rfl
  have q10 := R1.cell' (i := 10) rfl
  have q11 := R1.cell' (i := 11) rfl
  have q12 := R1.cell' (i := 12) rfl
  go_wp2_with fail
  refine (toSession_p _ h1 hp).mono ?_
  rintro e w2 ⟨u2, G2, rfl, r2, f2, b2⟩
  have R2 := R1.later b2
  have h2 := h1.below b2
  have c2 := bt c1 b2
  obtain ⟨B0, Bk0, B1, Bk1, B2, Bk2, B3, Bk3, B4, Bk4, B5, Bk5, rfl⟩ := r2.shape
  go_wp2_with fail
  refine (spec_ValidSession_p _ r2 hp hpb).mono ?_
  rintro e w3 ⟨rfl, b3⟩
  have R3 := R2.later b3
  have h3 := h2.below b3
  have c3 := bt c2 b3
  clear q0 q1 q2 q3 q4 q5 q6 q7 q8 q9 q10 q11 q12
  have q0 := R3.cell' (i := 0) rfl
  have q1 := R3.cell' (i := 1) rfl
  have q2 := R3.cell' (i := 2) rfl
  have q3 := R3.cell' (i := 3) rfl
  have q4 := R3.cell' (i := 4) rfl
  have q5 := R3.cell' (i := 5) rfl
  have q6 := R3.cell' (i := 6) rfl
  have q7 := R3.cell' (i := 7) rfl
  have q8 := R3.cell' (i := 8) rfl
  have q9 := R3.cell' (i := 9) rfl
  have q10 := R3.cell' (i := 10) rfl
  have q11 := R3.cell' (i := 11) rfl
  have q12 := R3.cell' (i := 12) rfl
  have HI := Lib.hid (fun (w : World) (v : Value) (F : List Nat) (h : SessIs idsI true w p v F) => impl_ValidSession_p w h hp hpb)
  generalize sessB p = d at *
  have hdd : (d != d) = false := by cases d <;> rfl
  have hss := sameSessB_refl p
  go_wp2_with fail
  refine (toSession_p _ h3 hp).mono ?_
  rintro e w4 ⟨u4, G4, rfl, r4, f4, b4⟩
  have c4 := bt c3 b4
  obtain ⟨X0, Xk0, X1, Xk1, X2, Xk2, X3, Xk3, X4, Xk4, X5, Xk5, rfl⟩ := r4.shape
  go_wp2_with fail
  refine (HI.out _ _ _ (r4.alloc _)).mono ?_
  rintro e w5 ⟨rfl, b5⟩
  have h5 := ((h3.below b4).alloc (.cells #[.int .i64 p.setup.band, .slice X0 p.setup.temps.length Xk0, .int .i64 p.setup.points, .int .i64 p.setup.most, .int .i64 p.setup.pen, .slice X1 p.setup.entries.length Xk1, .int .i64 p.setup.dflt, .slice X2 p.setup.bigrams.length Xk2, .int .i64 p.setup.pause, .slice X3 p.strokes.length Xk3, .slice X4 p.opn.length Xk4, .int .i64 p.time, .slice X5 p.words.length Xk5] 61)).below b5
  have x5 := (r4.alloc (.cells #[.int .i64 p.setup.band, .slice X0 p.setup.temps.length Xk0, .int .i64 p.setup.points, .int .i64 p.setup.most, .int .i64 p.setup.pen, .slice X1 p.setup.entries.length Xk1, .int .i64 p.setup.dflt, .slice X2 p.setup.bigrams.length Xk2, .int .i64 p.setup.pause, .slice X3 p.strokes.length Xk3, .slice X4 p.opn.length Xk4, .int .i64 p.time, .slice X5 p.words.length Xk5] 61)).below b5
  have R5 := ((R3.later b4).alloc (.cells #[.int .i64 p.setup.band, .slice X0 p.setup.temps.length Xk0, .int .i64 p.setup.points, .int .i64 p.setup.most, .int .i64 p.setup.pen, .slice X1 p.setup.entries.length Xk1, .int .i64 p.setup.dflt, .slice X2 p.setup.bigrams.length Xk2, .int .i64 p.setup.pause, .slice X3 p.strokes.length Xk3, .slice X4 p.opn.length Xk4, .int .i64 p.time, .slice X5 p.words.length Xk5] 61)).later b5
  have RX5 := (Row.new w4 61 #[.int .i64 p.setup.band, .slice X0 p.setup.temps.length Xk0, .int .i64 p.setup.points, .int .i64 p.setup.most, .int .i64 p.setup.pen, .slice X1 p.setup.entries.length Xk1, .int .i64 p.setup.dflt, .slice X2 p.setup.bigrams.length Xk2, .int .i64 p.setup.pause, .slice X3 p.strokes.length Xk3, .slice X4 p.opn.length Xk4, .int .i64 p.time, .slice X5 p.words.length Xk5]).later b5
  have c5 : Below w.heap.size w w5 := (c4.alloc c4.size _).trans (b5.mono (by have := c4.size; simp; omega))
  clear q0 q1 q2 q3 q4 q5 q6 q7 q8 q9 q10 q11 q12
  have y0 := R5.cell' (i := 0) rfl
  have z0 := RX5.cell' (i := 0) rfl
  have y1 := R5.cell' (i := 1) rfl
  have z1 := RX5.cell' (i := 1) rfl
  have y2 := R5.cell' (i := 2) rfl
  have z2 := RX5.cell' (i := 2) rfl
  have y3 := R5.cell' (i := 3) rfl
  have z3 := RX5.cell' (i := 3) rfl
  have y4 := R5.cell' (i := 4) rfl
  have z4 := RX5.cell' (i := 4) rfl
  have y5 := R5.cell' (i := 5) rfl
  have z5 := RX5.cell' (i := 5) rfl
  have y6 := R5.cell' (i := 6) rfl
  have z6 := RX5.cell' (i := 6) rfl
  have y7 := R5.cell' (i := 7) rfl
  have z7 := RX5.cell' (i := 7) rfl
  have y8 := R5.cell' (i := 8) rfl
  have z8 := RX5.cell' (i := 8) rfl
  have y9 := R5.cell' (i := 9) rfl
  have z9 := RX5.cell' (i := 9) rfl
  have y10 := R5.cell' (i := 10) rfl
  have z10 := RX5.cell' (i := 10) rfl
  have y11 := R5.cell' (i := 11) rfl
  have z11 := RX5.cell' (i := 11) rfl
  have y12 := R5.cell' (i := 12) rfl
  have z12 := RX5.cell' (i := 12) rfl
  have l1 := R5.lt
  have l2 := RX5.lt
  go_wp2_with fail
  go_region_held3 (fun w' => w'.cell? ⟨w.heap.size, 0, none⟩ = some (.int .i64 p.setup.band) ∧ w'.cell? ⟨w.heap.size, 1, none⟩ = some (.slice A0 p.setup.temps.length Ak0) ∧ w'.cell? ⟨w.heap.size, 2, none⟩ = some (.int .i64 p.setup.points) ∧ w'.cell? ⟨w.heap.size, 3, none⟩ = some (.int .i64 p.setup.most) ∧ w'.cell? ⟨w.heap.size, 4, none⟩ = some (.int .i64 p.setup.pen) ∧ w'.cell? ⟨w.heap.size, 5, none⟩ = some (.slice A1 p.setup.entries.length Ak1) ∧ w'.cell? ⟨w.heap.size, 6, none⟩ = some (.int .i64 p.setup.dflt) ∧ w'.cell? ⟨w.heap.size, 7, none⟩ = some (.slice A2 p.setup.bigrams.length Ak2) ∧ w'.cell? ⟨w.heap.size, 8, none⟩ = some (.int .i64 p.setup.pause) ∧ w'.cell? ⟨w.heap.size, 9, none⟩ = some (.slice A3 p.strokes.length Ak3) ∧ w'.cell? ⟨w.heap.size, 10, none⟩ = some (.slice A4 p.opn.length Ak4) ∧ w'.cell? ⟨w.heap.size, 11, none⟩ = some (.int .i64 p.time) ∧ w'.cell? ⟨w.heap.size, 12, none⟩ = some (.slice A5 p.words.length Ak5) ∧ w'.cell? ⟨w4.heap.size, 0, none⟩ = some (.int .i64 p.setup.band) ∧ w'.cell? ⟨w4.heap.size, 1, none⟩ = some (.slice X0 p.setup.temps.length Xk0) ∧ w'.cell? ⟨w4.heap.size, 2, none⟩ = some (.int .i64 p.setup.points) ∧ w'.cell? ⟨w4.heap.size, 3, none⟩ = some (.int .i64 p.setup.most) ∧ w'.cell? ⟨w4.heap.size, 4, none⟩ = some (.int .i64 p.setup.pen) ∧ w'.cell? ⟨w4.heap.size, 5, none⟩ = some (.slice X1 p.setup.entries.length Xk1) ∧ w'.cell? ⟨w4.heap.size, 6, none⟩ = some (.int .i64 p.setup.dflt) ∧ w'.cell? ⟨w4.heap.size, 7, none⟩ = some (.slice X2 p.setup.bigrams.length Xk2) ∧ w'.cell? ⟨w4.heap.size, 8, none⟩ = some (.int .i64 p.setup.pause) ∧ w'.cell? ⟨w4.heap.size, 9, none⟩ = some (.slice X3 p.strokes.length Xk3) ∧ w'.cell? ⟨w4.heap.size, 10, none⟩ = some (.slice X4 p.opn.length Xk4) ∧ w'.cell? ⟨w4.heap.size, 11, none⟩ = some (.int .i64 p.time) ∧ w'.cell? ⟨w4.heap.size, 12, none⟩ = some (.slice X5 p.words.length Xk5)) (first | exact ⟨y0, y1, y2, y3, y4, y5, y6, y7, y8, y9, y10, y11, y12, z0, z1, z2, z3, z4, z5, z6, z7, z8, z9, z10, z11, z12⟩ | exact ⟨kb b6 l1 y0, kb b6 l1 y1, kb b6 l1 y2, kb b6 l1 y3, kb b6 l1 y4, kb b6 l1 y5, kb b6 l1 y6, kb b6 l1 y7, kb b6 l1 y8, kb b6 l1 y9, kb b6 l1 y10, kb b6 l1 y11, kb b6 l1 y12, kb b6 l2 z0, kb b6 l2 z1, kb b6 l2 z2, kb b6 l2 z3, kb b6 l2 z4, kb b6 l2 z5, kb b6 l2 z6, kb b6 l2 z7, kb b6 l2 z8, kb b6 l2 z9, kb b6 l2 z10, kb b6 l2 z11, kb b6 l2 z12⟩ | exact ⟨kb b7 (Nat.lt_of_lt_of_le l1 b6.size) (kb b6 l1 y0), kb b7 (Nat.lt_of_lt_of_le l1 b6.size) (kb b6 l1 y1), kb b7 (Nat.lt_of_lt_of_le l1 b6.size) (kb b6 l1 y2), kb b7 (Nat.lt_of_lt_of_le l1 b6.size) (kb b6 l1 y3), kb b7 (Nat.lt_of_lt_of_le l1 b6.size) (kb b6 l1 y4), kb b7 (Nat.lt_of_lt_of_le l1 b6.size) (kb b6 l1 y5), kb b7 (Nat.lt_of_lt_of_le l1 b6.size) (kb b6 l1 y6), kb b7 (Nat.lt_of_lt_of_le l1 b6.size) (kb b6 l1 y7), kb b7 (Nat.lt_of_lt_of_le l1 b6.size) (kb b6 l1 y8), kb b7 (Nat.lt_of_lt_of_le l1 b6.size) (kb b6 l1 y9), kb b7 (Nat.lt_of_lt_of_le l1 b6.size) (kb b6 l1 y10), kb b7 (Nat.lt_of_lt_of_le l1 b6.size) (kb b6 l1 y11), kb b7 (Nat.lt_of_lt_of_le l1 b6.size) (kb b6 l1 y12), kb b7 (Nat.lt_of_lt_of_le l2 b6.size) (kb b6 l2 z0), kb b7 (Nat.lt_of_lt_of_le l2 b6.size) (kb b6 l2 z1), kb b7 (Nat.lt_of_lt_of_le l2 b6.size) (kb b6 l2 z2), kb b7 (Nat.lt_of_lt_of_le l2 b6.size) (kb b6 l2 z3), kb b7 (Nat.lt_of_lt_of_le l2 b6.size) (kb b6 l2 z4), kb b7 (Nat.lt_of_lt_of_le l2 b6.size) (kb b6 l2 z5), kb b7 (Nat.lt_of_lt_of_le l2 b6.size) (kb b6 l2 z6), kb b7 (Nat.lt_of_lt_of_le l2 b6.size) (kb b6 l2 z7), kb b7 (Nat.lt_of_lt_of_le l2 b6.size) (kb b6 l2 z8), kb b7 (Nat.lt_of_lt_of_le l2 b6.size) (kb b6 l2 z9), kb b7 (Nat.lt_of_lt_of_le l2 b6.size) (kb b6 l2 z10), kb b7 (Nat.lt_of_lt_of_le l2 b6.size) (kb b6 l2 z11), kb b7 (Nat.lt_of_lt_of_le l2 b6.size) (kb b6 l2 z12)⟩) (first | (go_at_call 10; refine (toSession_p _ h5.drew hp).mono ?_; rintro e w6 ⟨u6, G6, rfl, r6, f6, b6⟩) | (go_at_call 12; refine (eqSession_p _ (x5.drew.below b6) r6 hp hp).mono ?_; rintro e w7 ⟨rfl, b7⟩))
  go_wp2_with fail
  go_ret
  exact ⟨rfl, bt (c5.drew.trans (b6.mono c5.size)) b7⟩
end Go.Proofs.YtkkignkoneeieaaGreat
