/- The walk of the law FnExactDepthOf. Conditions: none. -/
import Derived.Test.YtkickllohilciaaTrDep
import Derived.Test.YtkickllohilciaaTreeOpens
import Derived.Deep.RegionHeld3
namespace Go.Proofs.Ytkickllohilciaa
open Go Go.RowKit

set_option maxRecDepth 100000 in
set_option maxHeartbeats 4000000 in
theorem law_DepthOf0 {e et : TypeId} {p : List PSymbol} {q : List PNode} {v vt : Value} {F G : List Nat} (w : World) (h : (pSymbols e).rep false w p [v] F) (ht : (pNodes et).rep false w q [vt] G) :
    Calls Try.prog 5 #[v, .agg #[vt]] w fun e w' => e = .returned (.bool true) ∧ Below w.heap.size w w' := by
  obtain ⟨A, k, rfl⟩ := slice_len h
  obtain ⟨B, d, rfl⟩ := slice_len ht
  have RT0 := Row.new w 25 #[.slice B q.length d]
  go_enter Try.func5, Try.ntmps5
  go_wp2_with fail
  refine (szSymbolS_c _ (h.alloc _) 1048576 (by omega)).mono ?_
  rintro e w1 ⟨⟨r, rfl, hr0, hr1, hr⟩, b1⟩
  have c : Below w.heap.size w w1 := ((Below.refl _ _).alloc (Nat.le_refl _) _).trans (b1.mono (by simp))
  by_cases h0 : r < 0
  · go_wp2_with fail
    go_ret
    exact ⟨rfl, c⟩
  obtain ⟨hp1, hp2⟩ := symbols_sizes (xs := p) (n := 1048576) (by have := hr (by omega); omega)
  replace RT0 := RT0.later b1
  have t0 := RT0.cell' (i := 0) rfl
  replace h := (h.alloc _).below b1
  replace ht := (ht.alloc _).below b1
  have hp1' := Lib.hid hp1
  have hp2' := Lib.hid hp2
  have hrl : 0 ≤ r ∧ r ≤ 1048576 := ⟨by omega, hr1⟩
  clear hr hp1 hp2
  go_wp2_with fail
  refine (szTree_c _ ht r hrl).mono ?_
  rintro e w2 ⟨⟨r2, rfl, hr2, hr3⟩, b2⟩
  replace c := bt c b2
  by_cases h2 : r2 < 0
  · go_wp2_with fail
    go_ret
    exact ⟨rfl, c⟩
  have hq1' := Lib.hid (show q.length ≤ 1048576 by have := hr3 (by omega); omega)
  replace RT0 := RT0.later b2
  replace h := h.below b2
  replace ht := ht.below b2
  clear hr3 hr2 hrl t0
  have t0 := RT0.cell' (i := 0) rfl
  have lT := RT0.lt
  have HS := Lib.hid (fun (w : World) (v u : Value) (F G : List Nat) (h : (pSymbols 69).rep true w p [v] F) (h' : (pNodes 84).rep true w q [u] G) => spec_DepthOf_c w h h' hp1'.out hp2'.out)
  have HI := Lib.hid (fun (w : World) (v u : Value) (F G : List Nat) (h : (pSymbols 69).rep true w p [v] F) (h' : (pNodes 84).rep true w q [u] G) => impl_DepthOf_c w h h' hp1'.out hp2'.out)
  (generalize depthR p q = n1 at HS HI; generalize askF p q = n2 at HS HI; have z1 : (n1 != n1) = false := (by simp); have z2 : (n2 != n2) = false := (by simp))
  go_wp2_with fail
  go_region_held3 (fun w' => w'.cell? ⟨w.heap.size, 0, none⟩ = some (.slice B q.length d)) (first | exact t0 | exact keep_t ba lT t0 | exact keep_t (bt ba bb) lT t0 | exact keep_t (bt (bt ba bb) bc) lT t0) (first | (go_at_call 12; refine (toSymbolS_c _ h.drew hp1'.out).mono ?_; rintro e wa ⟨ua, Fa, rfl, ra, fa, ba⟩) | (go_at_call 13; refine (toTree_c _ (ht.drew.below ba) hq1'.out).mono ?_; rintro e wb ⟨ub, Fb, rfl, rb, fb, bb⟩) | (go_at_call 19; refine (HS.out _ _ _ _ _ (ra.below bb) rb).mono ?_; rintro e wc ⟨rfl, bc⟩))
  replace RT0 := RT0.drew.later (bt (bt ba bb) bc)
  replace h := h.drew.below (bt (bt ba bb) bc)
  replace ht := ht.drew.below (bt (bt ba bb) bc)
  replace c := c.drew.trans ((bt (bt ba bb) bc).mono c.size)
  clear t0 ra fa rb fb ba bb bc lT HS
  have t0 := RT0.cell' (i := 0) rfl
  go_wp2_with fail
  refine (toSymbolS_c _ h hp1'.out).mono ?_
  rintro e w3 ⟨u3, F3, rfl, r3, f3, b3⟩
  replace RT0 := RT0.later b3
  replace h := h.below b3
  replace ht := ht.below b3
  replace c := bt c b3
  clear t0
  have t0 := RT0.cell' (i := 0) rfl
  obtain ⟨A3, k3, rfl⟩ := slice_len r3
  go_wp2_with fail
  refine (toTree_c _ ht hq1'.out).mono ?_
  rintro e w4 ⟨u4, F4, rfl, r4, f4, b4⟩
  replace RT0 := RT0.later b4
  replace h := h.below b4
  replace ht := ht.below b4
  replace r3 := r3.below b4
  replace c := bt c b4
  clear t0
  obtain ⟨A4, k4, rfl⟩ := slice_len r4
  have RX := Row.new w4 33 #[.slice A4 q.length k4]
  have bX : Below w4.heap.size w4 (w4.alloc (.cells #[.slice A4 q.length k4] 33)) := (Below.refl _ _).alloc (Nat.le_refl _) _
  replace RT0 := RT0.later bX
  replace h := h.below bX
  replace ht := ht.below bX
  replace r3 := r3.below bX
  replace r4 := r4.below bX
  replace c := bt c bX
  go_wp2_with fail
  refine (HI.out _ _ _ _ _ r3 r4).mono ?_
  rintro e w5 ⟨rfl, b5⟩
  replace RT0 := RT0.later b5
  replace RX := RX.later b5
  replace h := h.below b5
  replace ht := ht.below b5
  replace r3 := r3.below b5
  replace r4 := r4.below b5
  replace c := bt c b5
  clear bX
  go_wp2_with fail
  refine (toSymbolS_c _ h hp1'.out).mono ?_
  rintro e w6 ⟨u6, F6, rfl, r6, f6, b6⟩
  replace r3 := r3.below b6
  go_wp2_with fail
  refine (eqSymbolS_c _ r3 r6 hp1'.out hp1'.out).mono ?_
  rw [decide_eq_true rfl]
  rintro e w7 ⟨rfl, b7⟩
  have b67 := bt b6 b7
  clear b6 b7 r6 f6 r3
  replace RT0 := RT0.later b67
  replace RX := RX.later b67
  replace ht := ht.below b67
  replace r4 := r4.below b67
  replace c := bt c b67
  have t0 := RT0.cell' (i := 0) rfl
  have x0 := RX.cell' (i := 0) rfl
  have lT := RT0.lt
  have lX := RX.lt
  go_wp2_with fail
  go_region_held3 (fun w' => w'.cell? ⟨w.heap.size, 0, none⟩ = some (.slice B q.length d) ∧ w'.cell? ⟨w4.heap.size, 0, none⟩ = some (.slice A4 q.length k4)) (first | exact ⟨t0, x0⟩ | exact ⟨keep_t ba lT t0, keep_t ba lX x0⟩ | exact ⟨keep_t (bt ba bb) lT t0, keep_t (bt ba bb) lX x0⟩) (first | (go_at_call 13; refine (toTree_c _ ht.drew hq1'.out).mono ?_; rintro e wa ⟨ua, Fa, rfl, ra, fa, ba⟩) | (go_at_call 16; refine (eqTree_c _ (r4.drew.below ba) ra hq1'.out hq1'.out).mono ?_; rw [decide_eq_true rfl]; rintro e wb ⟨rfl, bb⟩))
  replace c := c.drew.trans ((bt ba bb).mono c.size)
  go_wp2_with fail
  go_ret
  exact ⟨rfl, c⟩
theorem law_DepthOf {e et : TypeId} {p : List PSymbol} {q : List PNode} {v : Value} {cs : List Value} {F G : List Nat} (w : World) (h : (pSymbols e).rep false w p [v] F) (ht : (pNodes et).rep false w q cs G) :
    Calls Try.prog 5 #[v, .agg cs.toArray] w fun e w' => e = .returned (.bool true) ∧ Below w.heap.size w w' := by
  obtain ⟨u, rfl⟩ := nodes_one ht
  exact law_DepthOf0 w h ht

end Go.Proofs.Ytkickllohilciaa
