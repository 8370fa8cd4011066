/- The walk of the law FnExactSamePage. Conditions: none. -/
import Derived.Test.YtnlfbobjopmfgaaPgSame2
import Derived.Test.YtnlfbobjopmfgaaPgDo4
namespace Go.Proofs.Ytnlfbobjopmfgaa
open Go Go.RowKit

theorem keep6 {w : World} {g t : Nat} {a b c a' b' c' : Value} {e f : TypeId} (R : Row w g e [a, b, c]) (T : Row w t f [a', b', c']) : w.cell? ⟨g, 0, none⟩ = some a ∧ w.cell? ⟨g, 1, none⟩ = some b ∧ w.cell? ⟨g, 2, none⟩ = some c ∧ w.cell? ⟨t, 0, none⟩ = some a' ∧ w.cell? ⟨t, 1, none⟩ = some b' ∧ w.cell? ⟨t, 2, none⟩ = some c' :=
  ⟨R.cell' (i := 0) rfl, R.cell' (i := 1) rfl, R.cell' (i := 2) rfl, T.cell' (i := 0) rfl, T.cell' (i := 1) rfl, T.cell' (i := 2) rfl⟩
set_option maxRecDepth 100000 in
set_option maxHeartbeats 4000000 in
theorem law_SamePage {el es el' es' : TypeId} {p q : PPage} {v u : Value} {F G : List Nat} (w : World) (h : PageIs el es false w p v F) (h' : PageIs el' es' false w q u G) :
    Calls Try.prog 4 #[v, u] w fun e w' => e = .returned (.bool true) ∧ Below w.heap.size w w' := by
  obtain ⟨A1, Ak1, A2, Ak2, A3, Ak3, rfl⟩ := h.shape
  obtain ⟨B1, Bk1, B2, Bk2, B3, Bk3, rfl⟩ := h'.shape
  go_enter Try.func4, Try.ntmps4
  go_wp2_with fail
  refine (szPage_c _ ((h.alloc _).alloc _) 1048576 (by omega)).mono ?_
  rintro e w0 ⟨⟨r, rfl, hr1, hr⟩, b0⟩
  have c : Below w.heap.size w w0 := al2m b0
  have RA := ((Row.new w 33 #[.slice A1 p.lines.length Ak1, .slice A2 p.done.length Ak2, .slice A3 p.undone.length Ak3]).alloc _).later b0
  have RB := (Row.at' _ 33 [.slice B1 q.lines.length Bk1, .slice B2 q.done.length Bk2, .slice B3 q.undone.length Bk3] (n := w.heap.size + 1) (by simp)).later b0
  replace h := ((h.alloc _).alloc _).below b0
  replace h' := ((h'.alloc _).alloc _).below b0
  by_cases h0 : r < 0
  · go_wp2_with fail
    go_ret
    exact ⟨rfl, c⟩
  have x0 := RB.cell' (i := 0) rfl
  have x1 := RB.cell' (i := 1) rfl
  have x2 := RB.cell' (i := 2) rfl
  go_wp2_with fail
  refine (szPage_c _ h' r (by omega)).mono ?_
  rintro e w1 ⟨⟨r2, rfl, hs1, hs⟩, b1⟩
  clear x0 x1 x2
  replace c := bt c b1
  replace RA := RA.later b1
  replace RB := RB.later b1
  replace h := h.below b1
  replace h' := h'.below b1
  by_cases h1 : r2 < 0
  · go_wp2_with fail
    go_ret
    exact ⟨rfl, c⟩
  have hp := PLaw.of (p := p) (by have := hr (by omega); omega)
  have hq := PLaw.of (p := q) (by have := hr (by omega); have := hs (by omega); omega)
  have HS := Lib.hid (fun (w : World) (v u : Value) (F G : List Nat) (h : PageIs 57 46 true w p v F) (h' : PageIs 57 46 true w q u G) => spec_SamePage_c w h h' hp.s hq.s)
  have HI := Lib.hid (fun (w : World) (v u : Value) (F G : List Nat) (h : PageIs 57 46 true w p v F) (h' : PageIs 57 46 true w q u G) => impl_SamePage_c w h h' hp.s hq.s)
  have HP := Lib.hid hp.s
  have HQ := Lib.hid hq.s
  clear hr hs hp hq hr1 hs1
  generalize decide (p = q) = d at HS HI
  have z1 : (d != d) = false := by simp
  go_wp2_with fail
  go_region_held3 (fun w' => w'.cell? ⟨w.heap.size, 0, none⟩ = some (.slice A1 p.lines.length Ak1) ∧ w'.cell? ⟨w.heap.size, 1, none⟩ = some (.slice A2 p.done.length Ak2) ∧ w'.cell? ⟨w.heap.size, 2, none⟩ = some (.slice A3 p.undone.length Ak3) ∧ w'.cell? ⟨w.heap.size + 1, 0, none⟩ = some (.slice B1 q.lines.length Bk1) ∧ w'.cell? ⟨w.heap.size + 1, 1, none⟩ = some (.slice B2 q.done.length Bk2) ∧ w'.cell? ⟨w.heap.size + 1, 2, none⟩ = some (.slice B3 q.undone.length Bk3)) (first | exact keep6 RA4 RB4 | exact keep6 RA3 RB3 | exact keep6 RA2 RB2 | exact keep6 RA RB) (first | (go_at_call_of 22 (Value.agg #[.slice A1 p.lines.length Ak1, .slice A2 p.done.length Ak2, .slice A3 p.undone.length Ak3]); refine (toPage_c _ h.drew HP.out).mono ?_; rintro e w2 ⟨u2, G2, rfl, r2, f2, b2⟩; have RA2 := RA.drew.later b2; have RB2 := RB.drew.later b2; obtain ⟨L1, Lk1, L2, Lk2, L3, Lk3, rfl⟩ := r2.shape) | (go_at_call_of 22 (Value.agg #[.slice B1 q.lines.length Bk1, .slice B2 q.done.length Bk2, .slice B3 q.undone.length Bk3]); refine (toPage_c _ (h'.drew.below b2) HQ.out).mono ?_; rintro e w3 ⟨u3, G3, rfl, r3, f3, b3⟩; have RA3 := RA2.later b3; have RB3 := RB2.later b3; obtain ⟨M1, Mk1, M2, Mk2, M3, Mk3, rfl⟩ := r3.shape) | (go_at_call 21; refine (HS.out _ _ _ _ _ (r2.below b3) r3).mono ?_; rintro e w4 ⟨rfl, b4⟩; have RA4 := RA3.later b4; have RB4 := RB3.later b4))
  replace c := bt (bt (c.drew.trans (b2.mono c.size)) b3) b4
  replace h := ((h.drew.below b2).below b3).below b4
  replace h' := ((h'.drew.below b2).below b3).below b4
  clear RA RB RA2 RB2 RA3 RB3 r2 r3
  have RA := RA4
  have RB := RB4
  clear RA4 RB4
  have y0 := RA.cell' (i := 0) rfl
  have y1 := RA.cell' (i := 1) rfl
  have y2 := RA.cell' (i := 2) rfl
  go_wp2_with fail
  refine (toPage_c _ h HP.out).mono ?_
  rintro e w5 ⟨u5, G5, rfl, x, f5, b5⟩
  clear y0 y1 y2
  replace c := bt c b5
  replace RA := RA.later b5
  replace RB := RB.later b5
  replace h := h.below b5
  replace h' := h'.below b5
  obtain ⟨X1, Xk1, X2, Xk2, X3, Xk3, rfl⟩ := x.shape
  have RX := Row.new w5 25 #[.slice X1 p.lines.length Xk1, .slice X2 p.done.length Xk2, .slice X3 p.undone.length Xk3]
  have RB5 := RB.alloc (.cells #[.slice X1 p.lines.length Xk1, .slice X2 p.done.length Xk2, .slice X3 p.undone.length Xk3] 25)
  have y0 := RB5.cell' (i := 0) rfl
  have y1 := RB5.cell' (i := 1) rfl
  have y2 := RB5.cell' (i := 2) rfl
  go_wp2_with fail
  refine (toPage_c _ (h'.alloc _) HQ.out).mono ?_
  rintro e w6 ⟨u6, G6, rfl, y, f6, b6⟩
  clear y0 y1 y2 RB5
  replace c := (c.alloc c.size _).trans (b6.mono (by have := c.size; simp; omega))
  replace RA := (RA.alloc _).later b6
  replace RB := (RB.alloc _).later b6
  replace RX := RX.later b6
  replace h := (h.alloc _).below b6
  replace h' := (h'.alloc _).below b6
  replace x := (x.alloc _).below b6
  obtain ⟨Y1, Yk1, Y2, Yk2, Y3, Yk3, rfl⟩ := y.shape
  have RY := Row.new w6 25 #[.slice Y1 q.lines.length Yk1, .slice Y2 q.done.length Yk2, .slice Y3 q.undone.length Yk3]
  have RX6 := RX.alloc (.cells #[.slice Y1 q.lines.length Yk1, .slice Y2 q.done.length Yk2, .slice Y3 q.undone.length Yk3] 25)
  have y0 := RX6.cell' (i := 0) rfl
  have y1 := RX6.cell' (i := 1) rfl
  have y2 := RX6.cell' (i := 2) rfl
  go_wp2_with fail
  refine (HI.out _ _ _ _ _ (x.alloc _) (y.alloc _)).mono ?_
  rintro e w7 ⟨rfl, b7⟩
  clear y0 y1 y2 RX6
  replace c := (c.alloc c.size _).trans (b7.mono (by have := c.size; simp; omega))
  replace RA := (RA.alloc _).later b7
  replace RB := (RB.alloc _).later b7
  replace RX := (RX.alloc _).later b7
  replace RY := RY.later b7
  replace h := (h.alloc _).below b7
  replace h' := (h'.alloc _).below b7
  replace x := (x.alloc _).below b7
  replace y := (y.alloc _).below b7
  go_wp2_with fail
  go_region_held3 (fun w' => w'.cell? ⟨w.heap.size, 0, none⟩ = some (.slice A1 p.lines.length Ak1) ∧ w'.cell? ⟨w.heap.size, 1, none⟩ = some (.slice A2 p.done.length Ak2) ∧ w'.cell? ⟨w.heap.size, 2, none⟩ = some (.slice A3 p.undone.length Ak3) ∧ w'.cell? ⟨w5.heap.size, 0, none⟩ = some (.slice X1 p.lines.length Xk1) ∧ w'.cell? ⟨w5.heap.size, 1, none⟩ = some (.slice X2 p.done.length Xk2) ∧ w'.cell? ⟨w5.heap.size, 2, none⟩ = some (.slice X3 p.undone.length Xk3)) (first | exact keep6 RA9 RX9 | exact keep6 RA8 RX8 | exact keep6 RA RX) (first | (go_at_call 22; refine (toPage_c _ h.drew HP.out).mono ?_; rintro e w8 ⟨u8, G8, rfl, r8, f8, b8⟩; have RA8 := RA.drew.later b8; have RX8 := RX.drew.later b8) | (go_at_call 17; refine (eqPage_c _ (x.drew.below b8) r8 HP.out HP.out).mono ?_; rintro e w9 ⟨rfl, b9⟩; have RA9 := RA8.later b9; have RX9 := RX8.later b9))
  replace c := bt (c.drew.trans (b8.mono c.size)) b9
  replace h' := (h'.drew.below b8).below b9
  replace y := (y.drew.below b8).below b9
  replace RB := (RB.drew.later b8).later b9
  replace RY := (RY.drew.later b8).later b9
  clear r8 RA8 RX8
  have z2 : decide (p = p) = true := by simp
  go_wp2_with fail
  go_region_held3 (fun w' => w'.cell? ⟨w.heap.size + 1, 0, none⟩ = some (.slice B1 q.lines.length Bk1) ∧ w'.cell? ⟨w.heap.size + 1, 1, none⟩ = some (.slice B2 q.done.length Bk2) ∧ w'.cell? ⟨w.heap.size + 1, 2, none⟩ = some (.slice B3 q.undone.length Bk3) ∧ w'.cell? ⟨w6.heap.size, 0, none⟩ = some (.slice Y1 q.lines.length Yk1) ∧ w'.cell? ⟨w6.heap.size, 1, none⟩ = some (.slice Y2 q.done.length Yk2) ∧ w'.cell? ⟨w6.heap.size, 2, none⟩ = some (.slice Y3 q.undone.length Yk3)) (first | exact keep6 RB11 RY11 | exact keep6 RB10 RY10 | exact keep6 RB RY) (first | (go_at_call 22; refine (toPage_c _ h'.drew HQ.out).mono ?_; rintro e w10 ⟨u10, G10, rfl, r10, f10, b10⟩; have RB10 := RB.drew.later b10; have RY10 := RY.drew.later b10) | (go_at_call 17; refine (eqPage_c _ (y.drew.below b10) r10 HQ.out HQ.out).mono ?_; rintro e w11 ⟨rfl, b11⟩; have RB11 := RB10.later b11; have RY11 := RY10.later b11))
  go_wp2_with fail
  go_ret
  exact ⟨rfl, bt (c.drew.trans (b10.mono c.size)) b11⟩
end Go.Proofs.Ytnlfbobjopmfgaa
