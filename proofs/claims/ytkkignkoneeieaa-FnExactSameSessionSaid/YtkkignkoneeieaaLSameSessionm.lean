/- The walk of the law FnExactSameSession. Conditions: none. -/
import Derived.Deep.Cut
import Derived.Deep.CutRange
import Derived.Test.YtkkignkoneeieaaSmTm
namespace Go.Proofs.Ytkkignkoneeieaa
open Go Go.RowKit

set_option maxRecDepth 100000 in
set_option maxHeartbeats 8000000 in
theorem law_SameSession {I J : Ids} {p q : PSess} {v u : Value} {F G : List Nat} (w : World) (h : SessIs I false w p v F) (h' : SessIs J false w q u G) :
    Calls Try.prog 4 #[v, u] w fun e w' => e = .returned (.bool true) ∧ Below w.heap.size w w' := by
  obtain ⟨A0, Ak0, A1, Ak1, A2, Ak2, A3, Ak3, A4, Ak4, A5, Ak5, rfl⟩ := h.shape
  obtain ⟨B0, Bk0, B1, Bk1, B2, Bk2, B3, Bk3, B4, Bk4, B5, Bk5, rfl⟩ := h'.shape
  go_enter Try.func4, Try.ntmps4
  go_wp2_with fail
  refine (szSession_p _ ((h.alloc _).alloc _) 1048576 (by omega)).mono ?_
  rintro e w0 ⟨⟨r, rfl, hr1, hr⟩, b0⟩
  have c : Below w.heap.size w w0 := ((((Below.refl _ _).alloc (Nat.le_refl _) _).alloc (by simp) _).trans (b0.mono (by simp; omega)))
  have RB0 := Row.new (w.alloc (.cells #[.int .i64 p.setup.band, .slice A0 p.setup.temps.length Ak0, .int .i64 p.setup.points, .int .i64 p.setup.most, .int .i64 p.setup.pen, .slice A1 p.setup.entries.length Ak1, .int .i64 p.setup.dflt, .slice A2 p.setup.bigrams.length Ak2, .int .i64 p.setup.pause, .slice A3 p.strokes.length Ak3, .slice A4 p.opn.length Ak4, .int .i64 p.time, .slice A5 p.words.length Ak5] 58)) 58 #[.int .i64 q.setup.band, .slice B0 q.setup.temps.length Bk0, .int .i64 q.setup.points, .int .i64 q.setup.most, .int .i64 q.setup.pen, .slice B1 q.setup.entries.length Bk1, .int .i64 q.setup.dflt, .slice B2 q.setup.bigrams.length Bk2, .int .i64 q.setup.pause, .slice B3 q.strokes.length Bk3, .slice B4 q.opn.length Bk4, .int .i64 q.time, .slice B5 q.words.length Bk5]
  simp only [World.size_alloc] at RB0
  have RA := ((Row.new w 58 #[.int .i64 p.setup.band, .slice A0 p.setup.temps.length Ak0, .int .i64 p.setup.points, .int .i64 p.setup.most, .int .i64 p.setup.pen, .slice A1 p.setup.entries.length Ak1, .int .i64 p.setup.dflt, .slice A2 p.setup.bigrams.length Ak2, .int .i64 p.setup.pause, .slice A3 p.strokes.length Ak3, .slice A4 p.opn.length Ak4, .int .i64 p.time, .slice A5 p.words.length Ak5]).alloc (.cells #[.int .i64 q.setup.band, .slice B0 q.setup.temps.length Bk0, .int .i64 q.setup.points, .int .i64 q.setup.most, .int .i64 q.setup.pen, .slice B1 q.setup.entries.length Bk1, .int .i64 q.setup.dflt, .slice B2 q.setup.bigrams.length Bk2, .int .i64 q.setup.pause, .slice B3 q.strokes.length Bk3, .slice B4 q.opn.length Bk4, .int .i64 q.time, .slice B5 q.words.length Bk5] 58)).later b0
  have RB := RB0.later b0
  clear RB0
  replace h := ((h.alloc _).alloc _).below b0
  replace h' := ((h'.alloc _).alloc _).below b0
  by_cases hz0 : r < 0
  · go_wp2_with fail
    go_ret
    exact ⟨rfl, c⟩
  have x0 := RB.cell' (i := 0) rfl
  have x1 := RB.cell' (i := 1) rfl
  have x2 := RB.cell' (i := 2) rfl
  have x3 := RB.cell' (i := 3) rfl
  have x4 := RB.cell' (i := 4) rfl
  have x5 := RB.cell' (i := 5) rfl
  have x6 := RB.cell' (i := 6) rfl
  have x7 := RB.cell' (i := 7) rfl
  have x8 := RB.cell' (i := 8) rfl
  have x9 := RB.cell' (i := 9) rfl
  have x10 := RB.cell' (i := 10) rfl
  have x11 := RB.cell' (i := 11) rfl
  have x12 := RB.cell' (i := 12) rfl
  go_wp2_with fail
  refine (szSession_p _ h' r (by omega)).mono ?_
  rintro e w1 ⟨⟨r2, rfl, hs1, hs⟩, b1⟩
  clear x0 x1 x2 x3 x4 x5 x6 x7 x8 x9 x10 x11 x12
  replace c := bt c b1
  replace RA := RA.later b1
  replace RB := RB.later b1
  replace h := h.below b1
  replace h' := h'.below b1
  by_cases hz1 : r2 < 0
  · go_wp2_with fail
    go_ret
    exact ⟨rfl, c⟩
  have hp := (SsSmall.of (q := p) (by have := hr (by omega); omega)).1
  have hq := (SsSmall.of (q := q) (by have := hr (by omega); have := hs (by omega); omega)).1
  have HS := Lib.hid (fun (w : World) (v u : Value) (F G : List Nat) (h : SessIs idsI true w p v F) (h' : SessIs idsI true w q u G) => spec_SameSession_p w h h' hp hq)
  have HI := Lib.hid (fun (w : World) (v u : Value) (F G : List Nat) (h : SessIs idsI true w p v F) (h' : SessIs idsI true w q u G) => impl_SameSession_p w h h' hp hq)
  have HP := Lib.hid hp
  have HQ := Lib.hid hq
  have sp := sameSessB_refl p
  have sq := sameSessB_refl q
  clear hr hs hp hq hr1 hs1
  generalize sameSessB p q = d at HS HI
  have z1 : (d != d) = false := by simp
  go_wp2_with fail
  go_region_held3 (fun w' => w'.cell? ⟨w.heap.size, 0, none⟩ = some (.int .i64 p.setup.band) ∧ w'.cell? ⟨w.heap.size, 1, none⟩ = some (.slice A0 p.setup.temps.length Ak0) ∧ w'.cell? ⟨w.heap.size, 2, none⟩ = some (.int .i64 p.setup.points) ∧ w'.cell? ⟨w.heap.size, 3, none⟩ = some (.int .i64 p.setup.most) ∧ w'.cell? ⟨w.heap.size, 4, none⟩ = some (.int .i64 p.setup.pen) ∧ w'.cell? ⟨w.heap.size, 5, none⟩ = some (.slice A1 p.setup.entries.length Ak1) ∧ w'.cell? ⟨w.heap.size, 6, none⟩ = some (.int .i64 p.setup.dflt) ∧ w'.cell? ⟨w.heap.size, 7, none⟩ = some (.slice A2 p.setup.bigrams.length Ak2) ∧ w'.cell? ⟨w.heap.size, 8, none⟩ = some (.int .i64 p.setup.pause) ∧ w'.cell? ⟨w.heap.size, 9, none⟩ = some (.slice A3 p.strokes.length Ak3) ∧ w'.cell? ⟨w.heap.size, 10, none⟩ = some (.slice A4 p.opn.length Ak4) ∧ w'.cell? ⟨w.heap.size, 11, none⟩ = some (.int .i64 p.time) ∧ w'.cell? ⟨w.heap.size, 12, none⟩ = some (.slice A5 p.words.length Ak5) ∧ w'.cell? ⟨w.heap.size + 1, 0, none⟩ = some (.int .i64 q.setup.band) ∧ w'.cell? ⟨w.heap.size + 1, 1, none⟩ = some (.slice B0 q.setup.temps.length Bk0) ∧ w'.cell? ⟨w.heap.size + 1, 2, none⟩ = some (.int .i64 q.setup.points) ∧ w'.cell? ⟨w.heap.size + 1, 3, none⟩ = some (.int .i64 q.setup.most) ∧ w'.cell? ⟨w.heap.size + 1, 4, none⟩ = some (.int .i64 q.setup.pen) ∧ w'.cell? ⟨w.heap.size + 1, 5, none⟩ = some (.slice B1 q.setup.entries.length Bk1) ∧ w'.cell? ⟨w.heap.size + 1, 6, none⟩ = some (.int .i64 q.setup.dflt) ∧ w'.cell? ⟨w.heap.size + 1, 7, none⟩ = some (.slice B2 q.setup.bigrams.length Bk2) ∧ w'.cell? ⟨w.heap.size + 1, 8, none⟩ = some (.int .i64 q.setup.pause) ∧ w'.cell? ⟨w.heap.size + 1, 9, none⟩ = some (.slice B3 q.strokes.length Bk3) ∧ w'.cell? ⟨w.heap.size + 1, 10, none⟩ = some (.slice B4 q.opn.length Bk4) ∧ w'.cell? ⟨w.heap.size + 1, 11, none⟩ = some (.int .i64 q.time) ∧ w'.cell? ⟨w.heap.size + 1, 12, none⟩ = some (.slice B5 q.words.length Bk5)) (first | exact ⟨RA4.cell' (i := 0) rfl, RA4.cell' (i := 1) rfl, RA4.cell' (i := 2) rfl, RA4.cell' (i := 3) rfl, RA4.cell' (i := 4) rfl, RA4.cell' (i := 5) rfl, RA4.cell' (i := 6) rfl, RA4.cell' (i := 7) rfl, RA4.cell' (i := 8) rfl, RA4.cell' (i := 9) rfl, RA4.cell' (i := 10) rfl, RA4.cell' (i := 11) rfl, RA4.cell' (i := 12) rfl, RB4.cell' (i := 0) rfl, RB4.cell' (i := 1) rfl, RB4.cell' (i := 2) rfl, RB4.cell' (i := 3) rfl, RB4.cell' (i := 4) rfl, RB4.cell' (i := 5) rfl, RB4.cell' (i := 6) rfl, RB4.cell' (i := 7) rfl, RB4.cell' (i := 8) rfl, RB4.cell' (i := 9) rfl, RB4.cell' (i := 10) rfl, RB4.cell' (i := 11) rfl, RB4.cell' (i := 12) rfl⟩ | exact ⟨RA3.cell' (i := 0) rfl, RA3.cell' (i := 1) rfl, RA3.cell' (i := 2) rfl, RA3.cell' (i := 3) rfl, RA3.cell' (i := 4) rfl, RA3.cell' (i := 5) rfl, RA3.cell' (i := 6) rfl, RA3.cell' (i := 7) rfl, RA3.cell' (i := 8) rfl, RA3.cell' (i := 9) rfl, RA3.cell' (i := 10) rfl, RA3.cell' (i := 11) rfl, RA3.cell' (i := 12) rfl, RB3.cell' (i := 0) rfl, RB3.cell' (i := 1) rfl, RB3.cell' (i := 2) rfl, RB3.cell' (i := 3) rfl, RB3.cell' (i := 4) rfl, RB3.cell' (i := 5) rfl, RB3.cell' (i := 6) rfl, RB3.cell' (i := 7) rfl, RB3.cell' (i := 8) rfl, RB3.cell' (i := 9) rfl, RB3.cell' (i := 10) rfl, RB3.cell' (i := 11) rfl, RB3.cell' (i := 12) rfl⟩ | exact ⟨RA2.cell' (i := 0) rfl, RA2.cell' (i := 1) rfl, RA2.cell' (i := 2) rfl, RA2.cell' (i := 3) rfl, RA2.cell' (i := 4) rfl, RA2.cell' (i := 5) rfl, RA2.cell' (i := 6) rfl, RA2.cell' (i := 7) rfl, RA2.cell' (i := 8) rfl, RA2.cell' (i := 9) rfl, RA2.cell' (i := 10) rfl, RA2.cell' (i := 11) rfl, RA2.cell' (i := 12) rfl, RB2.cell' (i := 0) rfl, RB2.cell' (i := 1) rfl, RB2.cell' (i := 2) rfl, RB2.cell' (i := 3) rfl, RB2.cell' (i := 4) rfl, RB2.cell' (i := 5) rfl, RB2.cell' (i := 6) rfl, RB2.cell' (i := 7) rfl, RB2.cell' (i := 8) rfl, RB2.cell' (i := 9) rfl, RB2.cell' (i := 10) rfl, RB2.cell' (i := 11) rfl, RB2.cell' (i := 12) rfl⟩ | exact ⟨RA.cell' (i := 0) rfl, RA.cell' (i := 1) rfl, RA.cell' (i := 2) rfl, RA.cell' (i := 3) rfl, RA.cell' (i := 4) rfl, RA.cell' (i := 5) rfl, RA.cell' (i := 6) rfl, RA.cell' (i := 7) rfl, RA.cell' (i := 8) rfl, RA.cell' (i := 9) rfl, RA.cell' (i := 10) rfl, RA.cell' (i := 11) rfl, RA.cell' (i := 12) rfl, RB.cell' (i := 0) rfl, RB.cell' (i := 1) rfl, RB.cell' (i := 2) rfl, RB.cell' (i := 3) rfl, RB.cell' (i := 4) rfl, RB.cell' (i := 5) rfl, RB.cell' (i := 6) rfl, RB.cell' (i := 7) rfl, RB.cell' (i := 8) rfl, RB.cell' (i := 9) rfl, RB.cell' (i := 10) rfl, RB.cell' (i := 11) rfl, RB.cell' (i := 12) rfl⟩) (first | (go_at_call_of 12 (Value.agg #[.int .i64 p.setup.band, .slice A0 p.setup.temps.length Ak0, .int .i64 p.setup.points, .int .i64 p.setup.most, .int .i64 p.setup.pen, .slice A1 p.setup.entries.length Ak1, .int .i64 p.setup.dflt, .slice A2 p.setup.bigrams.length Ak2, .int .i64 p.setup.pause, .slice A3 p.strokes.length Ak3, .slice A4 p.opn.length Ak4, .int .i64 p.time, .slice A5 p.words.length Ak5]); refine (toSession_p _ h.drew HP.out).mono ?_; rintro e w2 ⟨u2, G2, rfl, r2, f2, b2⟩; have RA2 := RA.drew.later b2; have RB2 := RB.drew.later b2; obtain ⟨L0, Lk0, L1, Lk1, L2, Lk2, L3, Lk3, L4, Lk4, L5, Lk5, rfl⟩ := r2.shape) | (go_at_call_of 12 (Value.agg #[.int .i64 q.setup.band, .slice B0 q.setup.temps.length Bk0, .int .i64 q.setup.points, .int .i64 q.setup.most, .int .i64 q.setup.pen, .slice B1 q.setup.entries.length Bk1, .int .i64 q.setup.dflt, .slice B2 q.setup.bigrams.length Bk2, .int .i64 q.setup.pause, .slice B3 q.strokes.length Bk3, .slice B4 q.opn.length Bk4, .int .i64 q.time, .slice B5 q.words.length Bk5]); refine (toSession_p _ (h'.drew.below b2) HQ.out).mono ?_; rintro e w3 ⟨u3, G3, rfl, r3, f3, b3⟩; have RA3 := RA2.later b3; have RB3 := RB2.later b3; obtain ⟨M0, Mk0, M1, Mk1, M2, Mk2, M3, Mk3, M4, Mk4, M5, Mk5, rfl⟩ := r3.shape) | (go_at_call 11; refine (HS.out _ _ _ _ _ (r2.below b3) r3).mono ?_; rintro e w4 ⟨rfl, b4⟩; have RA4 := RA3.later b4; have RB4 := RB3.later b4))
  replace c := bt (bt (c.drew.trans (b2.mono c.size)) b3) b4
  replace h := ((h.drew.below b2).below b3).below b4
  replace h' := ((h'.drew.below b2).below b3).below b4
  clear RA RB RA2 RB2 RA3 RB3 r2 r3
  have RA := RA4
  have RB := RB4
  clear RA4 RB4
  have x0 := RA.cell' (i := 0) rfl
  have x1 := RA.cell' (i := 1) rfl
  have x2 := RA.cell' (i := 2) rfl
  have x3 := RA.cell' (i := 3) rfl
  have x4 := RA.cell' (i := 4) rfl
  have x5 := RA.cell' (i := 5) rfl
  have x6 := RA.cell' (i := 6) rfl
  have x7 := RA.cell' (i := 7) rfl
  have x8 := RA.cell' (i := 8) rfl
  have x9 := RA.cell' (i := 9) rfl
  have x10 := RA.cell' (i := 10) rfl
  have x11 := RA.cell' (i := 11) rfl
  have x12 := RA.cell' (i := 12) rfl
  go_wp2_with fail
  refine (toSession_p _ h HP.out).mono ?_
  rintro e w5 ⟨u5, G5, rfl, x, f5, b5⟩
  clear x0 x1 x2 x3 x4 x5 x6 x7 x8 x9 x10 x11 x12
  replace c := bt c b5
  replace RA := RA.later b5
  replace RB := RB.later b5
  replace h := h.below b5
  replace h' := h'.below b5
  obtain ⟨X0, Xk0, X1, Xk1, X2, Xk2, X3, Xk3, X4, Xk4, X5, Xk5, rfl⟩ := x.shape
  have RX := Row.new w5 66 #[.int .i64 p.setup.band, .slice X0 p.setup.temps.length Xk0, .int .i64 p.setup.points, .int .i64 p.setup.most, .int .i64 p.setup.pen, .slice X1 p.setup.entries.length Xk1, .int .i64 p.setup.dflt, .slice X2 p.setup.bigrams.length Xk2, .int .i64 p.setup.pause, .slice X3 p.strokes.length Xk3, .slice X4 p.opn.length Xk4, .int .i64 p.time, .slice X5 p.words.length Xk5]
  have RB5 := RB.alloc (.cells #[.int .i64 p.setup.band, .slice X0 p.setup.temps.length Xk0, .int .i64 p.setup.points, .int .i64 p.setup.most, .int .i64 p.setup.pen, .slice X1 p.setup.entries.length Xk1, .int .i64 p.setup.dflt, .slice X2 p.setup.bigrams.length Xk2, .int .i64 p.setup.pause, .slice X3 p.strokes.length Xk3, .slice X4 p.opn.length Xk4, .int .i64 p.time, .slice X5 p.words.length Xk5] 66)
  have x0 := RB5.cell' (i := 0) rfl
  have x1 := RB5.cell' (i := 1) rfl
  have x2 := RB5.cell' (i := 2) rfl
  have x3 := RB5.cell' (i := 3) rfl
  have x4 := RB5.cell' (i := 4) rfl
  have x5 := RB5.cell' (i := 5) rfl
  have x6 := RB5.cell' (i := 6) rfl
  have x7 := RB5.cell' (i := 7) rfl
  have x8 := RB5.cell' (i := 8) rfl
  have x9 := RB5.cell' (i := 9) rfl
  have x10 := RB5.cell' (i := 10) rfl
  have x11 := RB5.cell' (i := 11) rfl
  have x12 := RB5.cell' (i := 12) rfl
  go_wp2_with fail
  refine (toSession_p _ (h'.alloc _) HQ.out).mono ?_
  rintro e w6 ⟨u6, G6, rfl, y, f6, b6⟩
  clear x0 x1 x2 x3 x4 x5 x6 x7 x8 x9 x10 x11 x12 RB5
  replace c := (c.alloc c.size _).trans (b6.mono (by have := c.size; simp; omega))
  replace RA := (RA.alloc _).later b6
  replace RB := (RB.alloc _).later b6
  replace RX := RX.later b6
  replace h := (h.alloc _).below b6
  replace h' := (h'.alloc _).below b6
  replace x := (x.alloc _).below b6
  obtain ⟨Y0, Yk0, Y1, Yk1, Y2, Yk2, Y3, Yk3, Y4, Yk4, Y5, Yk5, rfl⟩ := y.shape
  have RY := Row.new w6 66 #[.int .i64 q.setup.band, .slice Y0 q.setup.temps.length Yk0, .int .i64 q.setup.points, .int .i64 q.setup.most, .int .i64 q.setup.pen, .slice Y1 q.setup.entries.length Yk1, .int .i64 q.setup.dflt, .slice Y2 q.setup.bigrams.length Yk2, .int .i64 q.setup.pause, .slice Y3 q.strokes.length Yk3, .slice Y4 q.opn.length Yk4, .int .i64 q.time, .slice Y5 q.words.length Yk5]
  have RX6 := RX.alloc (.cells #[.int .i64 q.setup.band, .slice Y0 q.setup.temps.length Yk0, .int .i64 q.setup.points, .int .i64 q.setup.most, .int .i64 q.setup.pen, .slice Y1 q.setup.entries.length Yk1, .int .i64 q.setup.dflt, .slice Y2 q.setup.bigrams.length Yk2, .int .i64 q.setup.pause, .slice Y3 q.strokes.length Yk3, .slice Y4 q.opn.length Yk4, .int .i64 q.time, .slice Y5 q.words.length Yk5] 66)
  have x0 := RX6.cell' (i := 0) rfl
  have x1 := RX6.cell' (i := 1) rfl
  have x2 := RX6.cell' (i := 2) rfl
  have x3 := RX6.cell' (i := 3) rfl
  have x4 := RX6.cell' (i := 4) rfl
  have x5 := RX6.cell' (i := 5) rfl
  have x6 := RX6.cell' (i := 6) rfl
  have x7 := RX6.cell' (i := 7) rfl
  have x8 := RX6.cell' (i := 8) rfl
  have x9 := RX6.cell' (i := 9) rfl
  have x10 := RX6.cell' (i := 10) rfl
  have x11 := RX6.cell' (i := 11) rfl
  have x12 := RX6.cell' (i := 12) rfl
  go_wp2_with fail
  refine (HI.out _ _ _ _ _ (x.alloc _) (y.alloc _)).mono ?_
  rintro e w7 ⟨rfl, b7⟩
  clear x0 x1 x2 x3 x4 x5 x6 x7 x8 x9 x10 x11 x12 RX6
  replace c := (c.alloc c.size _).trans (b7.mono (by have := c.size; simp; omega))
  replace RA := (RA.alloc _).later b7
  replace RB := (RB.alloc _).later b7
  replace RX := (RX.alloc _).later b7
  replace RY := RY.later b7
  replace h := (h.alloc _).below b7
  replace h' := (h'.alloc _).below b7
  replace x := (x.alloc _).below b7
  replace y := (y.alloc _).below b7
  go_wp2_with fail
  go_region_held3 (fun w' => w'.cell? ⟨w.heap.size, 0, none⟩ = some (.int .i64 p.setup.band) ∧ w'.cell? ⟨w.heap.size, 1, none⟩ = some (.slice A0 p.setup.temps.length Ak0) ∧ w'.cell? ⟨w.heap.size, 2, none⟩ = some (.int .i64 p.setup.points) ∧ w'.cell? ⟨w.heap.size, 3, none⟩ = some (.int .i64 p.setup.most) ∧ w'.cell? ⟨w.heap.size, 4, none⟩ = some (.int .i64 p.setup.pen) ∧ w'.cell? ⟨w.heap.size, 5, none⟩ = some (.slice A1 p.setup.entries.length Ak1) ∧ w'.cell? ⟨w.heap.size, 6, none⟩ = some (.int .i64 p.setup.dflt) ∧ w'.cell? ⟨w.heap.size, 7, none⟩ = some (.slice A2 p.setup.bigrams.length Ak2) ∧ w'.cell? ⟨w.heap.size, 8, none⟩ = some (.int .i64 p.setup.pause) ∧ w'.cell? ⟨w.heap.size, 9, none⟩ = some (.slice A3 p.strokes.length Ak3) ∧ w'.cell? ⟨w.heap.size, 10, none⟩ = some (.slice A4 p.opn.length Ak4) ∧ w'.cell? ⟨w.heap.size, 11, none⟩ = some (.int .i64 p.time) ∧ w'.cell? ⟨w.heap.size, 12, none⟩ = some (.slice A5 p.words.length Ak5) ∧ w'.cell? ⟨w5.heap.size, 0, none⟩ = some (.int .i64 p.setup.band) ∧ w'.cell? ⟨w5.heap.size, 1, none⟩ = some (.slice X0 p.setup.temps.length Xk0) ∧ w'.cell? ⟨w5.heap.size, 2, none⟩ = some (.int .i64 p.setup.points) ∧ w'.cell? ⟨w5.heap.size, 3, none⟩ = some (.int .i64 p.setup.most) ∧ w'.cell? ⟨w5.heap.size, 4, none⟩ = some (.int .i64 p.setup.pen) ∧ w'.cell? ⟨w5.heap.size, 5, none⟩ = some (.slice X1 p.setup.entries.length Xk1) ∧ w'.cell? ⟨w5.heap.size, 6, none⟩ = some (.int .i64 p.setup.dflt) ∧ w'.cell? ⟨w5.heap.size, 7, none⟩ = some (.slice X2 p.setup.bigrams.length Xk2) ∧ w'.cell? ⟨w5.heap.size, 8, none⟩ = some (.int .i64 p.setup.pause) ∧ w'.cell? ⟨w5.heap.size, 9, none⟩ = some (.slice X3 p.strokes.length Xk3) ∧ w'.cell? ⟨w5.heap.size, 10, none⟩ = some (.slice X4 p.opn.length Xk4) ∧ w'.cell? ⟨w5.heap.size, 11, none⟩ = some (.int .i64 p.time) ∧ w'.cell? ⟨w5.heap.size, 12, none⟩ = some (.slice X5 p.words.length Xk5)) (first | exact ⟨RA9.cell' (i := 0) rfl, RA9.cell' (i := 1) rfl, RA9.cell' (i := 2) rfl, RA9.cell' (i := 3) rfl, RA9.cell' (i := 4) rfl, RA9.cell' (i := 5) rfl, RA9.cell' (i := 6) rfl, RA9.cell' (i := 7) rfl, RA9.cell' (i := 8) rfl, RA9.cell' (i := 9) rfl, RA9.cell' (i := 10) rfl, RA9.cell' (i := 11) rfl, RA9.cell' (i := 12) rfl, RX9.cell' (i := 0) rfl, RX9.cell' (i := 1) rfl, RX9.cell' (i := 2) rfl, RX9.cell' (i := 3) rfl, RX9.cell' (i := 4) rfl, RX9.cell' (i := 5) rfl, RX9.cell' (i := 6) rfl, RX9.cell' (i := 7) rfl, RX9.cell' (i := 8) rfl, RX9.cell' (i := 9) rfl, RX9.cell' (i := 10) rfl, RX9.cell' (i := 11) rfl, RX9.cell' (i := 12) rfl⟩ | exact ⟨RA8.cell' (i := 0) rfl, RA8.cell' (i := 1) rfl, RA8.cell' (i := 2) rfl, RA8.cell' (i := 3) rfl, RA8.cell' (i := 4) rfl, RA8.cell' (i := 5) rfl, RA8.cell' (i := 6) rfl, RA8.cell' (i := 7) rfl, RA8.cell' (i := 8) rfl, RA8.cell' (i := 9) rfl, RA8.cell' (i := 10) rfl, RA8.cell' (i := 11) rfl, RA8.cell' (i := 12) rfl, RX8.cell' (i := 0) rfl, RX8.cell' (i := 1) rfl, RX8.cell' (i := 2) rfl, RX8.cell' (i := 3) rfl, RX8.cell' (i := 4) rfl, RX8.cell' (i := 5) rfl, RX8.cell' (i := 6) rfl, RX8.cell' (i := 7) rfl, RX8.cell' (i := 8) rfl, RX8.cell' (i := 9) rfl, RX8.cell' (i := 10) rfl, RX8.cell' (i := 11) rfl, RX8.cell' (i := 12) rfl⟩ | exact ⟨RA.cell' (i := 0) rfl, RA.cell' (i := 1) rfl, RA.cell' (i := 2) rfl, RA.cell' (i := 3) rfl, RA.cell' (i := 4) rfl, RA.cell' (i := 5) rfl, RA.cell' (i := 6) rfl, RA.cell' (i := 7) rfl, RA.cell' (i := 8) rfl, RA.cell' (i := 9) rfl, RA.cell' (i := 10) rfl, RA.cell' (i := 11) rfl, RA.cell' (i := 12) rfl, RX.cell' (i := 0) rfl, RX.cell' (i := 1) rfl, RX.cell' (i := 2) rfl, RX.cell' (i := 3) rfl, RX.cell' (i := 4) rfl, RX.cell' (i := 5) rfl, RX.cell' (i := 6) rfl, RX.cell' (i := 7) rfl, RX.cell' (i := 8) rfl, RX.cell' (i := 9) rfl, RX.cell' (i := 10) rfl, RX.cell' (i := 11) rfl, RX.cell' (i := 12) rfl⟩) (first | (go_at_call 12; refine (toSession_p _ h.drew HP.out).mono ?_; rintro e w8 ⟨u8, G8, rfl, r8, f8, b8⟩; have RA8 := RA.drew.later b8; have RX8 := RX.drew.later b8) | (go_at_call 14; refine (eqSession_p _ (x.drew.below b8) r8 HP.out HP.out).mono ?_; rintro e w9 ⟨rfl, b9⟩; have RA9 := RA8.later b9; have RX9 := RX8.later b9))
  replace c := bt (c.drew.trans (b8.mono c.size)) b9
  replace h' := (h'.drew.below b8).below b9
  replace y := (y.drew.below b8).below b9
  replace RB := (RB.drew.later b8).later b9
  replace RY := (RY.drew.later b8).later b9
  clear r8 RA8 RX8
  go_wp2_with fail
  go_region_held3 (fun w' => w'.cell? ⟨w.heap.size + 1, 0, none⟩ = some (.int .i64 q.setup.band) ∧ w'.cell? ⟨w.heap.size + 1, 1, none⟩ = some (.slice B0 q.setup.temps.length Bk0) ∧ w'.cell? ⟨w.heap.size + 1, 2, none⟩ = some (.int .i64 q.setup.points) ∧ w'.cell? ⟨w.heap.size + 1, 3, none⟩ = some (.int .i64 q.setup.most) ∧ w'.cell? ⟨w.heap.size + 1, 4, none⟩ = some (.int .i64 q.setup.pen) ∧ w'.cell? ⟨w.heap.size + 1, 5, none⟩ = some (.slice B1 q.setup.entries.length Bk1) ∧ w'.cell? ⟨w.heap.size + 1, 6, none⟩ = some (.int .i64 q.setup.dflt) ∧ w'.cell? ⟨w.heap.size + 1, 7, none⟩ = some (.slice B2 q.setup.bigrams.length Bk2) ∧ w'.cell? ⟨w.heap.size + 1, 8, none⟩ = some (.int .i64 q.setup.pause) ∧ w'.cell? ⟨w.heap.size + 1, 9, none⟩ = some (.slice B3 q.strokes.length Bk3) ∧ w'.cell? ⟨w.heap.size + 1, 10, none⟩ = some (.slice B4 q.opn.length Bk4) ∧ w'.cell? ⟨w.heap.size + 1, 11, none⟩ = some (.int .i64 q.time) ∧ w'.cell? ⟨w.heap.size + 1, 12, none⟩ = some (.slice B5 q.words.length Bk5) ∧ w'.cell? ⟨w6.heap.size, 0, none⟩ = some (.int .i64 q.setup.band) ∧ w'.cell? ⟨w6.heap.size, 1, none⟩ = some (.slice Y0 q.setup.temps.length Yk0) ∧ w'.cell? ⟨w6.heap.size, 2, none⟩ = some (.int .i64 q.setup.points) ∧ w'.cell? ⟨w6.heap.size, 3, none⟩ = some (.int .i64 q.setup.most) ∧ w'.cell? ⟨w6.heap.size, 4, none⟩ = some (.int .i64 q.setup.pen) ∧ w'.cell? ⟨w6.heap.size, 5, none⟩ = some (.slice Y1 q.setup.entries.length Yk1) ∧ w'.cell? ⟨w6.heap.size, 6, none⟩ = some (.int .i64 q.setup.dflt) ∧ w'.cell? ⟨w6.heap.size, 7, none⟩ = some (.slice Y2 q.setup.bigrams.length Yk2) ∧ w'.cell? ⟨w6.heap.size, 8, none⟩ = some (.int .i64 q.setup.pause) ∧ w'.cell? ⟨w6.heap.size, 9, none⟩ = some (.slice Y3 q.strokes.length Yk3) ∧ w'.cell? ⟨w6.heap.size, 10, none⟩ = some (.slice Y4 q.opn.length Yk4) ∧ w'.cell? ⟨w6.heap.size, 11, none⟩ = some (.int .i64 q.time) ∧ w'.cell? ⟨w6.heap.size, 12, none⟩ = some (.slice Y5 q.words.length Yk5)) (first | exact ⟨RB11.cell' (i := 0) rfl, RB11.cell' (i := 1) rfl, RB11.cell' (i := 2) rfl, RB11.cell' (i := 3) rfl, RB11.cell' (i := 4) rfl, RB11.cell' (i := 5) rfl, RB11.cell' (i := 6) rfl, RB11.cell' (i := 7) rfl, RB11.cell' (i := 8) rfl, RB11.cell' (i := 9) rfl, RB11.cell' (i := 10) rfl, RB11.cell' (i := 11) rfl, RB11.cell' (i := 12) rfl, RY11.cell' (i := 0) rfl, RY11.cell' (i := 1) rfl, RY11.cell' (i := 2) rfl, RY11.cell' (i := 3) rfl, RY11.cell' (i := 4) rfl, RY11.cell' (i := 5) rfl, RY11.cell' (i := 6) rfl, RY11.cell' (i := 7) rfl, RY11.cell' (i := 8) rfl, RY11.cell' (i := 9) rfl, RY11.cell' (i := 10) rfl, RY11.cell' (i := 11) rfl, RY11.cell' (i := 12) rfl⟩ | exact ⟨RB10.cell' (i := 0) rfl, RB10.cell' (i := 1) rfl, RB10.cell' (i := 2) rfl, RB10.cell' (i := 3) rfl, RB10.cell' (i := 4) rfl, RB10.cell' (i := 5) rfl, RB10.cell' (i := 6) rfl, RB10.cell' (i := 7) rfl, RB10.cell' (i := 8) rfl, RB10.cell' (i := 9) rfl, RB10.cell' (i := 10) rfl, RB10.cell' (i := 11) rfl, RB10.cell' (i := 12) rfl, RY10.cell' (i := 0) rfl, RY10.cell' (i := 1) rfl, RY10.cell' (i := 2) rfl, RY10.cell' (i := 3) rfl, RY10.cell' (i := 4) rfl, RY10.cell' (i := 5) rfl, RY10.cell' (i := 6) rfl, RY10.cell' (i := 7) rfl, RY10.cell' (i := 8) rfl, RY10.cell' (i := 9) rfl, RY10.cell' (i := 10) rfl, RY10.cell' (i := 11) rfl, RY10.cell' (i := 12) rfl⟩ | exact ⟨RB.cell' (i := 0) rfl, RB.cell' (i := 1) rfl, RB.cell' (i := 2) rfl, RB.cell' (i := 3) rfl, RB.cell' (i := 4) rfl, RB.cell' (i := 5) rfl, RB.cell' (i := 6) rfl, RB.cell' (i := 7) rfl, RB.cell' (i := 8) rfl, RB.cell' (i := 9) rfl, RB.cell' (i := 10) rfl, RB.cell' (i := 11) rfl, RB.cell' (i := 12) rfl, RY.cell' (i := 0) rfl, RY.cell' (i := 1) rfl, RY.cell' (i := 2) rfl, RY.cell' (i := 3) rfl, RY.cell' (i := 4) rfl, RY.cell' (i := 5) rfl, RY.cell' (i := 6) rfl, RY.cell' (i := 7) rfl, RY.cell' (i := 8) rfl, RY.cell' (i := 9) rfl, RY.cell' (i := 10) rfl, RY.cell' (i := 11) rfl, RY.cell' (i := 12) rfl⟩) (first | (go_at_call 12; refine (toSession_p _ h'.drew HQ.out).mono ?_; rintro e w10 ⟨u10, G10, rfl, r10, f10, b10⟩; have RB10 := RB.drew.later b10; have RY10 := RY.drew.later b10) | (go_at_call 14; refine (eqSession_p _ (y.drew.below b10) r10 HQ.out HQ.out).mono ?_; rintro e w11 ⟨rfl, b11⟩; have RB11 := RB10.later b11; have RY11 := RY10.later b11))
  go_wp2_with fail
  go_ret
  exact ⟨rfl, bt (c.drew.trans (b10.mono c.size)) b11⟩
end Go.Proofs.Ytkkignkoneeieaa
