/- The walk of the law FnExactEventsOfInk. Conditions: none. -/
import Derived.Test.YtnochonfhpkibaaInkH
namespace Go.Proofs.Ytnochonfhpkibaa
open Go Go.RowKit

theorem evF_len (xs : List PStroke) : (evF xs).length ≤ 976 := by
  unfold evF
  split
  · exact inkEvents_few (by assumption) (Nat.le_refl _)
  · simp
theorem strokes_sizes {xs : List PStroke} {n : Nat} (h : szStrokes xs ≤ n) : xs.length ≤ n ∧ (∀ l ∈ xs, l.length ≤ n) ∧ pointsIn xs ≤ n * 3 := by
  unfold szStrokes at h
  have hm : ∀ (ys : List PStroke), (∀ l ∈ ys, l.length ≤ (ys.map List.length).sum) ∧ pointsIn ys = (ys.map List.length).sum * 3 := by
    intro ys
    induction ys with
    | nil => simp [pointsIn]
    | cons y ys ih =>
      refine ⟨fun l hl => ?_, ?_⟩
      · simp only [List.map_cons, List.sum_cons]
        rcases List.mem_cons.1 hl with rfl | hl
        · omega
        · have := ih.1 l hl; omega
      · have := ih.2
        simp only [pointsIn, List.map_cons, List.sum_cons] at this ⊢
        omega
  refine ⟨by omega, fun l hl => ?_, ?_⟩
  · have := (hm xs).1 l hl; omega
  · rw [(hm xs).2]; omega
theorem row_only {F : List Nat} {w w' : World} {g : Nat} {e : TypeId} {cs : List Value} (h : Row w g e cs) (ho : Only F w w') (hg : g ∉ F) : Row w' g e cs := (ho.block g h.lt hg).trans h

set_option maxRecDepth 100000 in
set_option maxHeartbeats 4000000 in
theorem law_EventsOfInk {pe e : TypeId} {p : List PStroke} {v : Value} {F : List Nat} (w : World) (h : (pStrokes pe e).rep false w p [v] F) :
    Calls Try.prog 3 #[.agg #[v]] w fun e w' => e = .returned (.bool true) ∧ Below w.heap.size w w' := by
  obtain ⟨A, k, rfl⟩ := slice_len h
  have hF : ∀ b ∈ F, b < w.heap.size := fun b hb => (pStrokes pe e).lt h b hb
  go_enter Try.func3, Try.ntmps3
  go_wp2_with fail
  refine (szInk_c _ (h.alloc _) 1048576 (by omega)).mono ?_
  rintro e w1 ⟨⟨r, rfl, hr1, hr⟩, b1⟩
  have c : Below w.heap.size w w1 := ((Below.refl _ _).alloc (Nat.le_refl _) _).trans (b1.mono (by simp))
  by_cases h0 : r < 0
  · go_wp2_with fail
    go_ret
    exact ⟨rfl, c⟩
  · obtain ⟨hp1, hp2, hp3⟩ := strokes_sizes (xs := p) (n := 1048576) (by have := hr (by omega); omega)
    have HS := Lib.hid (fun (w : World) (v : Value) (F : List Nat) (h : (pStrokes 60 58).rep true w p [v] F) => spec_EventsOfInk_c w h hp1 hp2)
    have HI := Lib.hid (fun (w : World) (v : Value) (F : List Nat) (h : (pStrokes 60 58).rep true w p [v] F) => impl_EventsOfInk_c w h hp1 hp2)
    have hq := evF_len p
    generalize evF p = q at HS HI hq
    generalize evC p = n' at HS HI
    have HP1 := Lib.hid hp1
    have HP2 := Lib.hid hp2
    have HP3 := Lib.hid hp3
    have HQ := Lib.hid hq
    have z1 : (n' != n') = false := by simp
    have z2 : (((1 + pointsIn p : Nat) : Int) < 0) = False := by simp only [eq_iff_iff, iff_false]; omega
    have z3 : ((1 : Int) + (q.length : Int) * 4 < 0) = False := by simp only [eq_iff_iff, iff_false]; omega
    have z4 : (((1 : Int) + (q.length : Int) * 4) != ((1 : Int) + (q.length : Int) * 4)) = false := by simp
    clear hr hp1 hp2 hp3 hq
    have RP := (Row.new w 24 #[.slice A p.length k]).later b1
    replace h := (h.alloc _).below b1
    have lP : w.heap.size < w1.heap.size := RP.lt
    have qP := RP.cell' (i := 0) rfl
    go_wp2_with fail
    refine (toInk_c _ h HP1.out HP2.out).mono ?_
    rintro e w2 ⟨u2, G2, rfl, r2, f2, b2⟩
    clear qP
    replace RP := RP.later b2
    replace h := h.below b2
    replace c := bt c b2
    obtain ⟨B1, Bk1, rfl⟩ := slice_len r2
    go_wp2_with fail
    refine (HS.out _ _ _ r2).mono ?_
    rintro e w3 ⟨u3, G3, rfl, s, fs, b3⟩
    replace RP := RP.later b3
    replace h := h.below b3
    replace c := bt c b3
    have bs : ∀ b ∈ G3, b < w3.heap.size := fun b hb => (pEvents 47).lt s b hb
    have qP := RP.cell' (i := 0) rfl
    have hsz23 := b3.size
    have hsz12 := b2.size
    go_wp2_with fail
    refine (toInk_c _ h HP1.out HP2.out).mono ?_
    rintro e w4 ⟨u4, GX, rfl, x, fx, b4⟩
    clear qP
    replace RP := RP.later b4
    replace h := h.below b4
    replace s := s.below b4
    replace c := bt c b4
    obtain ⟨X1, Xk1, rfl⟩ := slice_len x
    have bx : ∀ b ∈ GX, b < w4.heap.size := fun b hb => (pStrokes 60 58).lt x b hb
    have hsz34 := b4.size
    have RX := Row.new w4 31 #[.slice X1 p.length Xk1]
    go_wp2_with fail
    refine (HI.out _ _ _ (x.alloc _)).mono ?_
    rintro e w5 ⟨u5, GG, rfl, g, fg, b5⟩
    replace RP := (RP.alloc _).later b5
    replace h := (h.alloc _).below b5
    replace s := (s.alloc _).below b5
    replace x := (x.alloc _).below b5
    replace RX := RX.later b5
    replace c := (c.alloc c.size _).trans (b5.mono (by have := c.size; simp; omega))
    obtain ⟨G1, Gk1, rfl⟩ := slice_len g
    obtain ⟨S1, Sk1, rfl⟩ := slice_len s
    have hsz5 : w4.heap.size + 1 ≤ w5.heap.size := by simpa using b5.size
    have hgb : ∀ b ∈ GG, b < w5.heap.size := fun b hb => (pEvents 47).lt g b hb
    have fg2 := fg.2
    simp only [World.size_alloc] at fg2
    go_wp2_with fail
    refine (eqEventS_c _ g s (by have := HQ.out; omega) (by have := HQ.out; omega)).mono ?_
    rw [decide_eq_true rfl]
    rintro e w6 ⟨rfl, b6⟩
    replace RP := RP.later b6
    replace h := h.below b6
    replace s := s.below b6
    replace x := x.below b6
    replace g := g.below b6
    replace RX := RX.later b6
    replace c := bt c b6
    have hsz56 := b6.size
    have qP := RP.cell' (i := 0) rfl
    have qX := RX.cell' (i := 0) rfl
    have lP6 := RP.lt
    have lX6 := RX.lt
    go_wp2_with fail
    go_region_held3 (fun w' => w'.cell? ⟨w.heap.size, 0, none⟩ = some (.slice A p.length k) ∧ w'.cell? ⟨w4.heap.size, 0, none⟩ = some (.slice X1 p.length Xk1)) (first | exact ⟨qP, qX⟩ | exact ⟨keep_b b7 lP6 qP, keep_b b7 lX6 qX⟩ | exact ⟨keep_b (bt b7 b8) lP6 qP, keep_b (bt b7 b8) lX6 qX⟩) (first | (go_at_call 6; refine (toInk_c _ h.drew HP1.out HP2.out).mono ?_; rintro e w7 ⟨u7, G7, rfl, r7, f7, b7⟩) | (go_at_call 9; refine (eqInk_c _ (x.drew.below b7) r7 HP1.out HP1.out HP2.out HP2.out).mono ?_; rw [decide_eq_true rfl]; rintro e w8 ⟨rfl, b8⟩))
    clear qP qX r7
    have b78 := bt b7 b8
    clear b7 b8
    replace RP := RP.drew.later b78
    replace RX := RX.drew.later b78
    replace h := h.drew.below b78
    replace s := s.drew.below b78
    replace x := x.drew.below b78
    replace g := g.drew.below b78
    replace c := c.drew.trans (b78.mono c.size)
    have hsz68 : w6.heap.size ≤ w8.heap.size := b78.size
    have qX := RX.cell' (i := 0) rfl
    go_wp2_with fail
    refine (markInk_c _ x fx.1 HP1.out HP2.out 1 (by omega) (by have := HP3.out; omega)).mono ?_
    rintro e w9 ⟨rfl, x9, o9⟩
    have fx2 := fx.2
    clear qX
    replace RP := row_only RP o9 (fun hin => by have := fx2 _ hin; omega)
    replace h := h.only o9 (fun b hb hin => by have := hF _ hb; have := fx2 _ hin; omega)
    replace s := s.only o9 (fun b hb hin => by have := bs _ hb; have := fx2 _ hin; omega)
    replace g := g.only o9 (fun b hb hin => by have hq1 := fg2 _ hb; have hq2 := bx _ hin; omega)
    replace c := c.trans (o9.below c.size (fun b hin => by have := fx2 _ hin; omega))
    have hsz89 := o9.size
    clear x x9 RX
    go_wp2_with fail
    refine (eqEventS_c _ g s (by have := HQ.out; omega) (by have := HQ.out; omega)).mono ?_
    rw [decide_eq_true rfl]
    rintro e w10 ⟨rfl, b10⟩
    replace RP := RP.later b10
    replace h := h.below b10
    replace s := s.below b10
    replace g := g.below b10
    replace c := bt c b10
    have hsz910 := b10.size
    go_wp2_with fail
    refine (markEventS_c _ g (by have := HQ.out; omega) 1 (by omega) (by omega)).mono ?_
    rintro e w11 ⟨rfl, g11, o11⟩
    replace RP := row_only RP o11 (fun hin => by have := fg2 _ hin; omega)
    replace h := h.only o11 (fun b hb hin => by have := hF _ hb; have := fg2 _ hin; omega)
    replace s := s.only o11 (fun b hb hin => by have := bs _ hb; have := fg2 _ hin; omega)
    replace c := c.trans (o11.below c.size (fun b hin => by have := fg2 _ hin; omega))
    clear g
    go_wp2_with fail
    refine (heldEventS_c _ 1 g11 (by have := HQ.out; omega) (by omega) (by omega)).mono ?_
    rintro e w12 ⟨rfl, b12⟩
    replace RP := RP.later b12
    replace h := h.below b12
    replace s := s.below b12
    replace g11 := g11.below b12
    replace c := bt c b12
    have qP := RP.cell' (i := 0) rfl
    go_wp2_with fail
    refine (toInk_c _ h HP1.out HP2.out).mono ?_
    rintro e w13 ⟨u13, G13, rfl, r13, f13, b13⟩
    clear qP RP
    replace s := s.below b13
    replace g11 := g11.below b13
    replace c := bt c b13
    obtain ⟨D1, Dk1, rfl⟩ := slice_len r13
    go_wp2_with fail
    refine (HI.out _ _ _ r13).mono ?_
    rintro e w14 ⟨u14, GT, rfl, t, ft, b14⟩
    replace s := s.below b14
    replace g11 := g11.below b14
    replace c := bt c b14
    obtain ⟨T1, Tk1, rfl⟩ := slice_len t
    go_wp2_with fail
    refine (eqEventS_c _ t s (by have := HQ.out; omega) (by have := HQ.out; omega)).mono ?_
    rw [decide_eq_true rfl]
    rintro e w15 ⟨rfl, b15⟩
    replace g11 := g11.below b15
    replace c := bt c b15
    go_wp2_with fail
    refine (heldEventS_c _ 1 g11 (by have := HQ.out; omega) (by omega) (by omega)).mono ?_
    rintro e w16 ⟨rfl, b16⟩
    go_wp2_with fail
    go_ret
    exact ⟨rfl, bt c b16⟩
end Go.Proofs.Ytnochonfhpkibaa
