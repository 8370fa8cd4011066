/- The walk of the law FnExactRedoStep. Conditions: none. -/
import Derived.Test.YtiagikhgcblhnaaPgUndo
namespace Go.Proofs.Ytiagikhgcblhnaa
open Go Go.RowKit

set_option maxHeartbeats 4000000 in
theorem law_RedoStep {el es : TypeId} {p : PPage} {v : Value} {F : List Nat}  (w : World) (h : PageIs el es false w p v F)  :
    Calls Try.prog 5 #[v] w fun e w' => e = .returned (.bool true) ∧ Below w.heap.size w w' := by
  obtain ⟨A1, Ak1, A2, Ak2, A3, Ak3, rfl⟩ := h.shape
  have hF := h.blocks
  skip
  go_enter Try.func5, Try.ntmps5
  go_wp2_with fail
  refine (szPage_c _ (h.alloc _) 1048576 (by omega)).mono ?_
  rintro e w1 ⟨⟨r, rfl, hr1, hr⟩, b1⟩
  have c : Below w.heap.size w w1 := ((Below.refl _ _).alloc (Nat.le_refl _) _).trans (b1.mono (by simp))
  by_cases h0 : r < 0
  · go_wp2_with fail
    go_ret
    exact ⟨rfl, c⟩
  · have hp := PLaw.of (p := p) (by have := hr (by omega); omega)
    have HS := Lib.hid (fun (w : World) (v : Value) (F : List Nat) (h : PageIs 55 43 true w p v F) => spec_RedoStep_c w h hp)
    have HI := Lib.hid (fun (w : World) (v : Value) (F : List Nat) (h : PageIs 55 43 true w p v F) => impl_RedoStep_c w h hp)
    have hq : PSmall (redoR p).1 ∧ marksIn (redoR p).1 ≤ 5000000 := redoR_small p
    generalize redoR p = r' at HS HI hq
    obtain ⟨q, n'⟩ := r'
    obtain ⟨hqs, hqm⟩ := hq
    dsimp only at hqs hqm
    have HQM := Lib.hid hqm
    have HPM := Lib.hid hp.m
    have HPS := Lib.hid hp.s
    have HQS := Lib.hid hqs
    have z1 : (n' != n') = false := by simp
    have z2 : (((1 + marksIn p : Nat) : Int) < 0) = False := by simp only [eq_iff_iff, iff_false]; omega
    have z3 : (((1 + marksIn q : Nat) : Int) < 0) = False := by simp only [eq_iff_iff, iff_false]; omega
    have z4 : ((((1 + marksIn q : Nat) : Int)) != ((1 + marksIn q : Nat) : Int)) = false := by simp
    clear hr hp hqs hqm
    have RP := (Row.new w 25 #[.slice A1 p.lines.length Ak1, .slice A2 p.done.length Ak2, .slice A3 p.undone.length Ak3]).later b1
    replace h := (h.alloc _).below b1
    have lP : w.heap.size < w1.heap.size := RP.lt
    have qP0 := RP.cell' (i := 0) rfl
    have qP1 := RP.cell' (i := 1) rfl
    have qP2 := RP.cell' (i := 2) rfl
    go_wp2_with fail
    refine (toPage_c _ h HPS.out).mono ?_
    rintro e w2 ⟨u2, G2, rfl, r2, f2, b2⟩
    clear qP0 qP1 qP2
    replace RP := RP.later b2
    replace h := h.below b2
    replace c := bt c b2
    obtain ⟨B1, Bk1, B2, Bk2, B3, Bk3, rfl⟩ := r2.shape
    go_wp2_with fail
    refine (HS.out _ _ _ r2).mono ?_
    rintro e w3 ⟨u3, G3, rfl, s, b3⟩
    dsimp only at s
    replace RP := RP.later b3
    replace h := h.below b3
    replace c := bt c b3
    obtain ⟨S1, Sk1, S2, Sk2, S3, Sk3, rfl⟩ := s.shape
    have RPa := RP.alloc (.cells #[.slice S1 q.lines.length Sk1, .slice S2 q.done.length Sk2, .slice S3 q.undone.length Sk3] 31)
    have qP0a := RPa.cell' (i := 0) rfl
    have qP1a := RPa.cell' (i := 1) rfl
    have qP2a := RPa.cell' (i := 2) rfl
    have RS := Row.new w3 31 #[.slice S1 q.lines.length Sk1, .slice S2 q.done.length Sk2, .slice S3 q.undone.length Sk3]
    go_wp2_with fail
    refine (toPage_c _ (h.alloc _) HPS.out).mono ?_
    rintro e w4 ⟨u4, GX, rfl, x, fx, b4⟩
    clear qP0a qP1a qP2a
    clear RPa
    replace RP := (RP.alloc _).later b4
    replace h := (h.alloc _).below b4
    have bx := s.blocks
    replace s := (s.alloc _).below b4
    replace RS := RS.later b4
    replace c := (c.alloc c.size _).trans (b4.mono (by have := c.size; simp; omega))
    obtain ⟨X1, Xk1, X2, Xk2, X3, Xk3, rfl⟩ := x.shape
    have hsz4 : w3.heap.size + 1 ≤ w4.heap.size := by simpa using b4.size
    have RX := Row.new w4 31 #[.slice X1 p.lines.length Xk1, .slice X2 p.done.length Xk2, .slice X3 p.undone.length Xk3]
    go_wp2_with fail
    refine (HI.out _ _ _ (x.alloc _)).mono ?_
    rintro e w5 ⟨u5, GG, rfl, g, fg, b5⟩
    dsimp only at g
    have hxb := x.blocks
    replace RP := (RP.alloc _).later b5
    replace RS := (RS.alloc _).later b5
    replace h := (h.alloc _).below b5
    replace s := (s.alloc _).below b5
    replace x := (x.alloc _).below b5
    replace RX := RX.later b5
    replace c := (c.alloc c.size _).trans (b5.mono (by have := c.size; simp; omega))
    obtain ⟨G1, Gk1, G2, Gk2, G3, Gk3, rfl⟩ := g.shape
    have hsz5 : w4.heap.size + 1 ≤ w5.heap.size := by simpa using b5.size
    have hgb := g.blocks
    have RSa := RS.alloc (.cells #[.slice G1 q.lines.length Gk1, .slice G2 q.done.length Gk2, .slice G3 q.undone.length Gk3] 31)
    have qS0a := RSa.cell' (i := 0) rfl
    have qS1a := RSa.cell' (i := 1) rfl
    have qS2a := RSa.cell' (i := 2) rfl
    have RG := Row.new w5 31 #[.slice G1 q.lines.length Gk1, .slice G2 q.done.length Gk2, .slice G3 q.undone.length Gk3]
    go_wp2_with fail
    refine (eqPage_c _ (g.alloc _) (s.alloc _) HQS.out HQS.out).mono ?_
    rintro e w6 ⟨rfl, b6⟩
    clear qS0a qS1a qS2a
    clear RSa
    replace RP := (RP.alloc _).later b6
    replace RS := (RS.alloc _).later b6
    replace RX := (RX.alloc _).later b6
    replace h := (h.alloc _).below b6
    replace s := (s.alloc _).below b6
    replace x := (x.alloc _).below b6
    replace g := (g.alloc _).below b6
    replace RG := RG.later b6
    replace c := (c.alloc c.size _).trans (b6.mono (by have := c.size; simp; omega))
    have hsz6 : w5.heap.size + 1 ≤ w6.heap.size := by simpa using b6.size
    have qP0 := RP.cell' (i := 0) rfl
    have qP1 := RP.cell' (i := 1) rfl
    have qP2 := RP.cell' (i := 2) rfl
    have qS0 := RS.cell' (i := 0) rfl
    have qS1 := RS.cell' (i := 1) rfl
    have qS2 := RS.cell' (i := 2) rfl
    have qX0 := RX.cell' (i := 0) rfl
    have qX1 := RX.cell' (i := 1) rfl
    have qX2 := RX.cell' (i := 2) rfl
    have qG0 := RG.cell' (i := 0) rfl
    have qG1 := RG.cell' (i := 1) rfl
    have qG2 := RG.cell' (i := 2) rfl
    have lX := RX.lt
    have lP6 := RP.lt
    go_wp2_with fail
    go_region_held3 (fun w' => w'.cell? ⟨w.heap.size, 0, none⟩ = some (.slice A1 p.lines.length Ak1) ∧ w'.cell? ⟨w.heap.size, 1, none⟩ = some (.slice A2 p.done.length Ak2) ∧ w'.cell? ⟨w.heap.size, 2, none⟩ = some (.slice A3 p.undone.length Ak3) ∧ w'.cell? ⟨w4.heap.size, 0, none⟩ = some (.slice X1 p.lines.length Xk1) ∧ w'.cell? ⟨w4.heap.size, 1, none⟩ = some (.slice X2 p.done.length Xk2) ∧ w'.cell? ⟨w4.heap.size, 2, none⟩ = some (.slice X3 p.undone.length Xk3)) (first | exact ⟨qP0, qP1, qP2, qX0, qX1, qX2⟩ | exact ⟨keep_below b7 lP6 qP0, keep_below b7 lP6 qP1, keep_below b7 lP6 qP2, keep_below b7 lX qX0, keep_below b7 lX qX1, keep_below b7 lX qX2⟩ | exact ⟨keep_below b8 (Nat.lt_of_lt_of_le lP6 b7.size) (keep_below b7 lP6 qP0), keep_below b8 (Nat.lt_of_lt_of_le lP6 b7.size) (keep_below b7 lP6 qP1), keep_below b8 (Nat.lt_of_lt_of_le lP6 b7.size) (keep_below b7 lP6 qP2), keep_below b8 (Nat.lt_of_lt_of_le lX b7.size) (keep_below b7 lX qX0), keep_below b8 (Nat.lt_of_lt_of_le lX b7.size) (keep_below b7 lX qX1), keep_below b8 (Nat.lt_of_lt_of_le lX b7.size) (keep_below b7 lX qX2)⟩) (first | (go_at_call 10; refine (toPage_c _ h.drew HPS.out).mono ?_; rintro e w7 ⟨u7, G7, rfl, r7, f7, b7⟩) | (go_at_call 12; refine (eqPage_c _ (x.drew.below b7) r7 HPS.out HPS.out).mono ?_; rintro e w8 ⟨rfl, b8⟩))
    clear qP0 qP1 qP2 qS0 qS1 qS2 qX0 qX1 qX2 qG0 qG1 qG2
    replace RP := RP.drew.later b7
    replace RS := RS.drew.later b7
    replace RX := RX.drew.later b7
    replace RG := RG.drew.later b7
    replace h := h.drew.below b7
    replace s := s.drew.below b7
    replace x := x.drew.below b7
    replace g := g.drew.below b7
    replace c := c.drew.trans (b7.mono c.size)
    replace RP := RP.later b8
    replace RS := RS.later b8
    replace RX := RX.later b8
    replace RG := RG.later b8
    replace h := h.below b8
    replace s := s.below b8
    replace x := x.below b8
    replace g := g.below b8
    replace c := bt c b8
    clear r7
    have hsz8 : w6.heap.size ≤ w8.heap.size := Nat.le_trans b7.size b8.size
    have qX0 := RX.cell' (i := 0) rfl
    have qX1 := RX.cell' (i := 1) rfl
    have qX2 := RX.cell' (i := 2) rfl
    go_wp2_with fail
    refine (markPage_c _ x fx.1 HPS.out 1 (by omega) (by have := HPM.out; omega)).mono ?_
    rintro e w9 ⟨rfl, x9, o9⟩
    have fx2 := fx.2
    simp only [World.size_alloc] at fx2
    have nG : ∀ b, w.heap.size < b → b < w4.heap.size → b ∉ GG := fun b _ h2 hin => by have := fg.2 b hin; simp at this; omega
    clear qX0 qX1 qX2
    have hw13 : w.heap.size < w3.heap.size + 1 := by have := b2.size; have := b3.size; omega
    replace RP := RP.only o9 (fun hin => by have := fx2 _ hin; omega)
    replace RS := RS.only o9 (fun hin => by have := fx2 _ hin; omega)
    replace RX := RX.only o9 (fun hin => by have := hxb _ hin; omega)
    replace RG := RG.only o9 (fun hin => by have := hxb _ hin; omega)
    replace h := h.only o9 (fun b hb hin => by have := hF _ hb; have := fx2 _ hin; omega)
    replace s := s.only o9 (fun b hb hin => by have := bx _ hb; have := fx2 _ hin; omega)
    replace g := g.only o9 (fun b hb hin => by have hq1 := fg.2 _ hb; have hq2 := hxb _ hin; simp at hq1; omega)
    replace c := c.trans (o9.below c.size (fun b hin => by have := fx2 _ hin; omega))
    clear x
    have qG0 := RG.cell' (i := 0) rfl
    have qG1 := RG.cell' (i := 1) rfl
    have qG2 := RG.cell' (i := 2) rfl
    have qS0 := RS.cell' (i := 0) rfl
    have qS1 := RS.cell' (i := 1) rfl
    have qS2 := RS.cell' (i := 2) rfl
    go_wp2_with fail
    refine (eqPage_c _ g s HQS.out HQS.out).mono ?_
    rintro e w10 ⟨rfl, b10⟩
    clear qG0 qG1 qG2 qS0 qS1 qS2
    replace RP := RP.later b10
    replace RS := RS.later b10
    replace RX := RX.later b10
    replace RG := RG.later b10
    replace h := h.below b10
    replace s := s.below b10
    replace g := g.below b10
    replace c := bt c b10
    have qG0 := RG.cell' (i := 0) rfl
    have qG1 := RG.cell' (i := 1) rfl
    have qG2 := RG.cell' (i := 2) rfl
    go_wp2_with fail
    refine (markPage_c _ g fg.1 HQS.out 1 (by omega) (by have := HQM.out; omega)).mono ?_
    rintro e w11 ⟨rfl, g11, o11⟩
    have fg2 := fg.2
    simp only [World.size_alloc] at fg2
    clear qG0 qG1 qG2
    replace RP := RP.only o11 (fun hin => by have := fg2 _ hin; omega)
    replace RS := RS.only o11 (fun hin => by have := fg2 _ hin; omega)
    replace RX := RX.only o11 (fun hin => by have := fg2 _ hin; omega)
    replace RG := RG.only o11 (fun hin => by have := hgb _ hin; omega)
    replace h := h.only o11 (fun b hb hin => by have := hF _ hb; have := fg2 _ hin; omega)
    replace s := s.only o11 (fun b hb hin => by have := bx _ hb; have := fg2 _ hin; omega)
    replace c := c.trans (o11.below c.size (fun b hin => by have := fg2 _ hin; omega))
    clear g
    have qG0 := RG.cell' (i := 0) rfl
    have qG1 := RG.cell' (i := 1) rfl
    have qG2 := RG.cell' (i := 2) rfl
    go_wp2_with fail
    refine (heldPage_c _ 1 g11 HQS.out (by omega) (by have := HQM.out; omega)).mono ?_
    rintro e w12 ⟨rfl, b12⟩
    clear qG0 qG1 qG2
    replace RP := RP.later b12
    replace RS := RS.later b12
    replace RX := RX.later b12
    replace RG := RG.later b12
    replace h := h.below b12
    replace s := s.below b12
    replace g11 := g11.below b12
    replace c := bt c b12
    have qP0 := RP.cell' (i := 0) rfl
    have qP1 := RP.cell' (i := 1) rfl
    have qP2 := RP.cell' (i := 2) rfl
    go_wp2_with fail
    refine (toPage_c _ h HPS.out).mono ?_
    rintro e w13 ⟨u13, G13, rfl, r13, f13, b13⟩
    clear qP0 qP1 qP2
    replace RP := RP.later b13
    replace RS := RS.later b13
    replace RX := RX.later b13
    replace RG := RG.later b13
    replace h := h.below b13
    replace s := s.below b13
    replace g11 := g11.below b13
    replace c := bt c b13
    obtain ⟨D1, Dk1, D2, Dk2, D3, Dk3, rfl⟩ := r13.shape
    go_wp2_with fail
    refine (HI.out _ _ _ r13).mono ?_
    rintro e w14 ⟨u14, GT, rfl, t, ft, b14⟩
    dsimp only at t
    replace RP := RP.later b14
    replace RS := RS.later b14
    replace RX := RX.later b14
    replace RG := RG.later b14
    replace h := h.below b14
    replace s := s.below b14
    replace g11 := g11.below b14
    replace c := bt c b14
    obtain ⟨T1, Tk1, T2, Tk2, T3, Tk3, rfl⟩ := t.shape
    have RSa := RS.alloc (.cells #[.slice T1 q.lines.length Tk1, .slice T2 q.done.length Tk2, .slice T3 q.undone.length Tk3] 31)
    have qS0a := RSa.cell' (i := 0) rfl
    have qS1a := RSa.cell' (i := 1) rfl
    have qS2a := RSa.cell' (i := 2) rfl
    go_wp2_with fail
    refine (eqPage_c _ (t.alloc _) (s.alloc _) HQS.out HQS.out).mono ?_
    rintro e w15 ⟨rfl, b15⟩
    clear qS0a qS1a qS2a
    clear RSa
    replace RP := (RP.alloc _).later b15
    replace RS := (RS.alloc _).later b15
    replace RX := (RX.alloc _).later b15
    replace RG := (RG.alloc _).later b15
    replace h := (h.alloc _).below b15
    replace s := (s.alloc _).below b15
    replace g11 := (g11.alloc _).below b15
    replace c := (c.alloc c.size _).trans (b15.mono (by have := c.size; simp; omega))
    have qG0 := RG.cell' (i := 0) rfl
    have qG1 := RG.cell' (i := 1) rfl
    have qG2 := RG.cell' (i := 2) rfl
    go_wp2_with fail
    refine (heldPage_c _ 1 g11 HQS.out (by omega) (by have := HQM.out; omega)).mono ?_
    rintro e w16 ⟨rfl, b16⟩
    go_wp2_with fail
    go_ret
    exact ⟨rfl, bt c b16⟩

end Go.Proofs.Ytiagikhgcblhnaa
