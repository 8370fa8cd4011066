/- The walk of the law FnExactLeavesOf. Conditions: none. -/
import Derived.Test.YtkickllohilciaaTreeI
import Derived.Test.YtkickllohilciaaTrLeaf
import Derived.Test.YtkickllohilciaaTreeOpens
import Derived.Deep.RegionHeld3
namespace Go.Proofs.Ytkickllohilciaa
open Go Go.RowKit

set_option maxRecDepth 100000 in
set_option maxHeartbeats 4000000 in
theorem law_LeavesOf0 {e et : TypeId} {p : List PSymbol} {q : List PNode} {v vt : Value} {F G : List Nat} (w : World) (h : (pSymbols e).rep false w p [v] F) (ht : (pNodes et).rep false w q [vt] G) :
    Calls Try.prog 7 #[v, .agg #[vt]] w fun e w' => e = .returned (.bool true) ∧ Below w.heap.size w w' := by
  obtain ⟨A, k, rfl⟩ := slice_len h
  obtain ⟨B, d, rfl⟩ := slice_len ht
  have RT0 := Row.new w 25 #[.slice B q.length d]
  go_enter Try.func7, Try.ntmps7
  go_wp2_with fail
  refine (szSymbolS_c _ (h.alloc _) 1048576 (by omega)).mono ?_
  rintro e w1 ⟨⟨r, rfl, hr0, hr1, hr⟩, b1⟩
  have c : Below w.heap.size w w1 := ((Below.refl _ _).alloc (Nat.le_refl _) _).trans (b1.mono (by simp))
  by_cases h0 : r < 0
  · go_wp2_with fail
    go_ret
    exact ⟨rfl, c⟩
  obtain ⟨hp1, hp2⟩ := symbols_sizes (xs := p) (n := 1048576) (by have := hr (by omega); omega)
  replace RT0 := RT0.later b1
  have t0 := RT0.cell' (i := 0) rfl
  replace h := (h.alloc _).below b1
  replace ht := (ht.alloc _).below b1
  have hp1' := Lib.hid hp1
  have hp2' := Lib.hid hp2
  have hrl : 0 ≤ r ∧ r ≤ 1048576 := ⟨by omega, hr1⟩
  clear hr hp1 hp2
  go_wp2_with fail
  refine (szTree_c _ ht r hrl).mono ?_
  rintro e w2 ⟨⟨r2, rfl, hr2, hr3⟩, b2⟩
  replace c := bt c b2
  by_cases h2 : r2 < 0
  · go_wp2_with fail
    go_ret
    exact ⟨rfl, c⟩
  have hq1' := Lib.hid (show q.length ≤ 1048576 by have := hr3 (by omega); omega)
  replace RT0 := RT0.later b2
  replace h := h.below b2
  replace ht := ht.below b2
  clear hr3 hr2 hrl t0
  have t0 := RT0.cell' (i := 0) rfl
  have lT := RT0.lt
  have HS := Lib.hid (fun (w : World) (v u : Value) (F G : List Nat) (h : (pSymbols 69).rep true w p [v] F) (h' : (pNodes 84).rep true w q [u] G) => spec_LeavesOf_c w h h' hp1'.out hp2'.out)
  have HI := Lib.hid (fun (w : World) (v u : Value) (F G : List Nat) (h : (pSymbols 69).rep true w p [v] F) (h' : (pNodes 84).rep true w q [u] G) => impl_LeavesOf_c w h h' hp1'.out hp2'.out)
  have hqr : (leavesR p q).length ≤ 15 := (by unfold leavesR; split; have h1 := symsF_few q q.length; have h2 := tree_few (ask_zero (by assumption)).2; omega; simp)
  generalize leavesR p q = qr at HS HI hqr
  generalize askF p q = n2 at HS HI
  have HQ := Lib.hid hqr
  have z1 : (n2 != n2) = false := by simp
  have z2 : ((1 : Int) + (p.length : Int) * 5 + (q.length : Int) * 4 < 0) = False := by simp only [eq_iff_iff, iff_false]; omega
  have z3 : ((1 : Int) + (qr.length : Int) < 0) = False := by simp only [eq_iff_iff, iff_false]; omega
  have z4 : (((1 : Int) + (qr.length : Int)) != ((1 : Int) + (qr.length : Int))) = false := by simp
  have hF : ∀ b ∈ F, b < w2.heap.size := fun b hb => (pSymbols e).lt h b hb
  have hG : ∀ b ∈ G, b < w2.heap.size := fun b hb => (pNodes et).lt ht b hb
  clear hqr
  go_wp2_with fail
  go_region_held3 (fun w' => w'.cell? ⟨w.heap.size, 0, none⟩ = some (.slice B q.length d)) (first | exact t0 | exact keep_t ba lT t0 | exact keep_t (bt ba bb) lT t0 | exact keep_t (bt (bt ba bb) bc) lT t0) (first | (go_at_call 12; refine (toSymbolS_c _ h.drew hp1'.out).mono ?_; rintro e wa ⟨ua, Fa, rfl, ra, fa, ba⟩) | (go_at_call 13; refine (toTree_c _ (ht.drew.below ba) hq1'.out).mono ?_; rintro e wb ⟨ub, Fb, rfl, rb, fb, bb⟩) | (go_at_call 23; refine (HS.out _ _ _ _ _ (ra.below bb) rb).mono ?_; rintro e wc ⟨us, GS, rfl, s, fs, bc⟩))
  replace RT0 := RT0.drew.later (bt (bt ba bb) bc)
  replace h := h.drew.below (bt (bt ba bb) bc)
  replace ht := ht.drew.below (bt (bt ba bb) bc)
  replace c := c.drew.trans ((bt (bt ba bb) bc).mono c.size)
  have hszc : w2.heap.size ≤ wc.heap.size := (bt (bt ba bb) bc).size
  clear t0 ra fa rb fb ba bb bc HS fs
  have t0 := RT0.cell' (i := 0) rfl
  have bs : ∀ b ∈ GS, b < wc.heap.size := fun b hb => (nums 2).lt s b hb
  obtain ⟨S1, Sk1, rfl⟩ := slice_len s
  go_wp2_with fail
  refine (toSymbolS_c _ h hp1'.out).mono ?_
  rintro e w3 ⟨u3, F3, rfl, r3, f3, b3⟩
  replace RT0 := RT0.later b3
  replace h := h.below b3
  replace ht := ht.below b3
  replace s := s.below b3
  replace c := bt c b3
  clear t0
  have t0 := RT0.cell' (i := 0) rfl
  have bx3 : ∀ b ∈ F3, b < w3.heap.size := fun b hb => (pSymbols 69).lt r3 b hb
  have hszc3 := b3.size
  obtain ⟨A3, k3, rfl⟩ := slice_len r3
  go_wp2_with fail
  refine (toTree_c _ ht hq1'.out).mono ?_
  rintro e w4 ⟨u4, F4, rfl, r4, f4, b4⟩
  replace RT0 := RT0.later b4
  replace h := h.below b4
  replace ht := ht.below b4
  replace s := s.below b4
  replace r3 := r3.below b4
  replace c := bt c b4
  clear t0
  have bx4 : ∀ b ∈ F4, b < w4.heap.size := fun b hb => (pNodes 84).lt r4 b hb
  have hsz34 := b4.size
  obtain ⟨A4, k4, rfl⟩ := slice_len r4
  have RX := Row.new w4 33 #[.slice A4 q.length k4]
  have bX : Below w4.heap.size w4 (w4.alloc (.cells #[.slice A4 q.length k4] 33)) := (Below.refl _ _).alloc (Nat.le_refl _) _
  replace RT0 := RT0.later bX
  replace h := h.below bX
  replace ht := ht.below bX
  replace s := s.below bX
  replace r3 := r3.below bX
  replace r4 := r4.below bX
  replace c := bt c bX
  go_wp2_with fail
  refine (HI.out _ _ _ _ _ r3 r4).mono ?_
  rintro e w5 ⟨ug, GG, rfl, g, fg, b5⟩
  replace RT0 := RT0.later b5
  replace RX := RX.later b5
  replace h := h.below b5
  replace ht := ht.below b5
  replace s := s.below b5
  replace r3 := r3.below b5
  replace r4 := r4.below b5
  replace c := bt c b5
  have hsz5 : w4.heap.size + 1 ≤ w5.heap.size := by simpa using b5.size
  have fg2 := fg.2
  simp only [World.size_alloc] at fg2
  have f32 := f3.2
  have f42 := f4.2
  obtain ⟨G1, Gk1, rfl⟩ := slice_len g
  clear bX
  go_wp2_with fail
  refine (eqInt64S_c _ g s (by have := HQ.out; omega) (by have := HQ.out; omega)).mono ?_
  rw [decide_eq_true rfl]
  rintro e w5b ⟨rfl, b5b⟩
  replace RT0 := RT0.later b5b
  replace RX := RX.later b5b
  replace h := h.below b5b
  replace ht := ht.below b5b
  replace s := s.below b5b
  replace g := g.below b5b
  replace r3 := r3.below b5b
  replace r4 := r4.below b5b
  replace c := bt c b5b
  have hsz5b := b5b.size
  go_wp2_with fail
  refine (toSymbolS_c _ h hp1'.out).mono ?_
  rintro e w6 ⟨u6, F6, rfl, r6, f6, b6⟩
  have r3' := r3.below b6
  go_wp2_with fail
  refine (eqSymbolS_c _ r3' r6 hp1'.out hp1'.out).mono ?_
  rw [decide_eq_true rfl]
  rintro e w7 ⟨rfl, b7⟩
  have b67 := bt b6 b7
  clear b6 b7 r6 f6 r3'
  replace RT0 := RT0.later b67
  replace RX := RX.later b67
  replace h := h.below b67
  replace ht := ht.below b67
  replace s := s.below b67
  replace g := g.below b67
  replace r3 := r3.below b67
  replace r4 := r4.below b67
  replace c := bt c b67
  have t0 := RT0.cell' (i := 0) rfl
  have x0 := RX.cell' (i := 0) rfl
  have lT7 := RT0.lt
  have lX7 := RX.lt
  have hsz7 := b67.size
  go_wp2_with fail
  go_region_held3 (fun w' => w'.cell? ⟨w.heap.size, 0, none⟩ = some (.slice B q.length d) ∧ w'.cell? ⟨w4.heap.size, 0, none⟩ = some (.slice A4 q.length k4)) (first | exact ⟨t0, x0⟩ | exact ⟨keep_t ba lT7 t0, keep_t ba lX7 x0⟩ | exact ⟨keep_t (bt ba bb) lT7 t0, keep_t (bt ba bb) lX7 x0⟩) (first | (go_at_call 13; refine (toTree_c _ ht.drew hq1'.out).mono ?_; rintro e wa ⟨ua, Fa, rfl, ra, fa, ba⟩) | (go_at_call 16; refine (eqTree_c _ (r4.drew.below ba) ra hq1'.out hq1'.out).mono ?_; rw [decide_eq_true rfl]; rintro e wb ⟨rfl, bb⟩))
  have b89 := bt ba bb
  clear t0 x0 ra fa ba bb
  replace RT0 := RT0.drew.later b89
  replace RX := RX.drew.later b89
  replace h := h.drew.below b89
  replace ht := ht.drew.below b89
  replace s := s.drew.below b89
  replace g := g.drew.below b89
  replace r3 := r3.drew.below b89
  replace r4 := r4.drew.below b89
  replace c := c.drew.trans (b89.mono c.size)
  have hsz89 : w7.heap.size ≤ wb.heap.size := b89.size
  go_wp2_with fail
  refine (markSymbolS_c _ r3 hp1'.out 1 (by omega) (by omega)).mono ?_
  rintro e w9 ⟨rfl, x9, o9⟩
  have x0 := (RX.onlyC o9 (fun hin => by have := bx3 _ hin; omega)).cell' (i := 0) rfl
  replace RT0 := RT0.onlyC o9 (fun hin => by have := f32 _ hin; omega)
  replace h := h.only o9 (fun b hb hin => by have := hF _ hb; have := f32 _ hin; omega)
  replace ht := ht.only o9 (fun b hb hin => by have := hG _ hb; have := f32 _ hin; omega)
  replace s := s.only o9 (fun b hb hin => by have := bs _ hb; have := f32 _ hin; omega)
  replace r4 := r4.only o9 (fun b hb hin => by have := f42 _ hb; have := bx3 _ hin; omega)
  replace g := g.only o9 (fun b hb hin => by have := fg2 _ hb; have := bx3 _ hin; omega)
  replace c := c.trans (o9.below c.size (fun b hin => by have := f32 _ hin; omega))
  have hsz9 := o9.size
  clear x9 r3 RX
  go_wp2_with fail
  refine (markTree_c _ r4 hq1'.out (1 + p.length * 5) _ (by simp) (by omega) (by have := hp1'.out; omega)).mono ?_
  rintro e w10 ⟨rfl, x10, o10⟩
  replace RT0 := RT0.onlyC o10 (fun hin => by have := f42 _ hin; omega)
  replace h := h.only o10 (fun b hb hin => by have := hF _ hb; have := f42 _ hin; omega)
  replace ht := ht.only o10 (fun b hb hin => by have := hG _ hb; have := f42 _ hin; omega)
  replace s := s.only o10 (fun b hb hin => by have := bs _ hb; have := f42 _ hin; omega)
  replace g := g.only o10 (fun b hb hin => by have := fg2 _ hb; have := bx4 _ hin; omega)
  replace c := c.trans (o10.below c.size (fun b hin => by have := f42 _ hin; omega))
  have hsz10 := o10.size
  clear x10 r4 x0
  go_wp2_with fail
  refine (eqInt64S_c _ g s (by have := HQ.out; omega) (by have := HQ.out; omega)).mono ?_
  rw [decide_eq_true rfl]
  rintro e w11 ⟨rfl, b11⟩
  replace RT0 := RT0.later b11
  replace h := h.below b11
  replace ht := ht.below b11
  replace s := s.below b11
  replace g := g.below b11
  replace c := bt c b11
  have hsz11 := b11.size
  go_wp2_with fail
  refine (markInt64S_c _ g (by have := HQ.out; omega) 1 (by omega) (by omega)).mono ?_
  rintro e w12 ⟨rfl, g12, o12⟩
  replace RT0 := RT0.onlyC o12 (fun hin => by have := fg2 _ hin; omega)
  replace h := h.only o12 (fun b hb hin => by have := hF _ hb; have := fg2 _ hin; omega)
  replace ht := ht.only o12 (fun b hb hin => by have := hG _ hb; have := fg2 _ hin; omega)
  replace s := s.only o12 (fun b hb hin => by have := bs _ hb; have := fg2 _ hin; omega)
  replace c := c.trans (o12.below c.size (fun b hin => by have := fg2 _ hin; omega))
  clear g
  go_wp2_with fail
  refine (heldInt64S_c _ 1 g12 (by have := HQ.out; omega) (by omega) (by omega)).mono ?_
  rintro e w13 ⟨rfl, b13⟩
  replace RT0 := RT0.later b13
  replace h := h.below b13
  replace ht := ht.below b13
  replace s := s.below b13
  replace g12 := g12.below b13
  replace c := bt c b13
  have t0 := RT0.cell' (i := 0) rfl
  have lT9 := RT0.lt
  go_wp2_with fail
  go_region_held3 (fun w' => w'.cell? ⟨w.heap.size, 0, none⟩ = some (.slice B q.length d)) (first | exact t0 | exact keep_t ba lT9 t0 | exact keep_t (bt ba bb) lT9 t0 | exact keep_t (bt (bt ba bb) bc) lT9 t0) (first | (go_at_call 12; refine (toSymbolS_c _ h.drew hp1'.out).mono ?_; rintro e wa ⟨ua, Fa, rfl, ra, fa, ba⟩) | (go_at_call 13; refine (toTree_c _ (ht.drew.below ba) hq1'.out).mono ?_; rintro e wb ⟨ub, Fb, rfl, rb, fb, bb⟩) | (go_at_call 24; refine (HI.out _ _ _ _ _ (ra.below bb) rb).mono ?_; rintro e wc ⟨uh, GT, rfl, t, ft, bc⟩))
  have b14 := bt (bt ba bb) bc
  clear ra fa rb fb ba bb bc t0 RT0
  replace s := s.drew.below b14
  replace g12 := g12.drew.below b14
  replace c := c.drew.trans (b14.mono c.size)
  obtain ⟨T1, Tk1, rfl⟩ := slice_len t
  go_wp2_with fail
  refine (eqInt64S_c _ t s (by have := HQ.out; omega) (by have := HQ.out; omega)).mono ?_
  rw [decide_eq_true rfl]
  rintro e w15 ⟨rfl, b15⟩
  replace g12 := g12.below b15
  replace c := bt c b15
  go_wp2_with fail
  refine (heldInt64S_c _ 1 g12 (by have := HQ.out; omega) (by omega) (by omega)).mono ?_
  rintro e w16 ⟨rfl, b16⟩
  go_wp2_with fail
  go_ret
  exact ⟨rfl, bt c b16⟩
theorem law_LeavesOf {e et : TypeId} {p : List PSymbol} {q : List PNode} {v : Value} {cs : List Value} {F G : List Nat} (w : World) (h : (pSymbols e).rep false w p [v] F) (ht : (pNodes et).rep false w q cs G) :
    Calls Try.prog 7 #[v, .agg cs.toArray] w fun e w' => e = .returned (.bool true) ∧ Below w.heap.size w w' := by
  obtain ⟨u, rfl⟩ := nodes_one ht
  exact law_LeavesOf0 w h ht

end Go.Proofs.Ytkickllohilciaa
