/- The walk of the law FnTrees. Conditions: none. -/
import Derived.Test.YtmopioaojdlnkaaTkt
import Derived.Test.YtmopioaojdlnkaaPuIt
import Derived.Test.YtmopioaojdlnkaaRd6t
import Derived.Test.YtmopioaojdlnkaaTrLeaft
import Derived.Test.YtmopioaojdlnkaaInt
namespace Go.Proofs.Ytmopioaojdlnkaa
open Go Go.RowKit
theorem box_eql (s : PBox) (w : World) : (binOp .eql 48 (.agg #[.int .i64 s.x1, .int .i64 s.y1, .int .i64 s.x2, .int .i64 s.y2]) (.agg #[.int .i64 s.x1, .int .i64 s.y1, .int .i64 s.x2, .int .i64 s.y2])).run Try.prog w = .ok (.bool true) w := by
 have hS : Try.prog.underlying 48 = some (.struct (Try.prog.fieldsOf 48)) := by kernel_rfl
 have hp : Try.prog.stoodInHeld 48 = false := by kernel_rfl
 rw [run_eql_struct, show (10000 : Nat) = 9999 + 1 from rfl, run_equalIn_agg w 9999 48 _ _ hS hp]
 simp only [Program.fieldsOf, Try.underlying48]
 go_simp
theorem box_neq_self (s : PBox) (w : World) : (binOp .neq 48 (.agg #[.int .i64 s.x1, .int .i64 s.y1, .int .i64 s.x2, .int .i64 s.y2]) (.agg #[.int .i64 s.x1, .int .i64 s.y1, .int .i64 s.x2, .int .i64 s.y2])).run Try.prog w = .ok (.bool false) w := by
 rw [box_neq]; simp
set_option maxRecDepth 100000 in
set_option maxHeartbeats 8000000 in
theorem law_FnTrees {e : TypeId} {code : List UInt8} {v : Value} {F : List Nat} (w : World) (h : (byte.slice e).rep false w code [v] F) :
 Calls Try.prog 4 #[v] w fun e' w' => e' = .returned (.bool true) ∧ Below w.heap.size w w' := by
 have hv := h
 obtain ⟨A, c, rfl⟩ := slice_len h
 have cb := f6big_c (w := w) h
 by_cases hbig : 4096 < code.length
 · rw [decide_eq_true hbig] at cb
   have CB := Lib.hid cb
   clear cb
   go_enter Try.func4, Try.ntmps4
   go_wp2_with fail
   refine CB.out.mono ?_
   rintro e w1 ⟨rfl, rfl⟩
   go_wp2_with fail
   go_ret
   exact ⟨rfl, Below.refl _ _⟩
 · rw [decide_eq_false hbig] at cb
   have CB := Lib.hid cb
   have CD := Lib.hid (spec_DrawNodeBoxes_c w h (by omega))
   have CS := Lib.hid (fun w' (b : Below w.heap.size w w') => spec_DrawSameTree_c w' (h.below b) (by omega))
   clear cb h hv hbig
   go_enter Try.func4, Try.ntmps4
   go_wp2_with fail
   refine CB.out.mono ?_
   rintro e w1 ⟨rfl, rfl⟩
   go_wp2_with fail
   refine CD.out.mono ?_
   rintro e w1 ⟨xs, ns, vl, vt, G, H, rfl, rep, rept, -, -, hl, sm, hn, b1⟩
   have hx : xs.length ≤ 1048576 := by omega
   have hzx : ∀ c ∈ xs, c.label.size ≤ 1048576 := fun c hc => by have := (sm c hc).2; omega
   have HZX := Lib.hid hzx
   have hokx : ∀ c ∈ xs, pSymbolOk c := fun c hc => (sm c hc).ok (by omega)
   have HOKX := Lib.hid hokx
   clear hzx hokx
   obtain ⟨Al, cl, rfl⟩ := slice_len rep
   obtain ⟨At, ct, rfl⟩ := slice_len rept
   have R4 := Row.new w1 28 #[.slice At ns.length ct]
   have REP := Lib.hid (rep.alloc (.cells #[.slice At ns.length ct] 28))
   have RT := Lib.hid (rept.alloc (.cells #[.slice At ns.length ct] 28))
   have BB := Lib.hid (b1.alloc b1.size (.cells #[.slice At ns.length ct] 28))
   clear rep rept sm b1 CD CB
   go_upto_region 4 with fail
   generalize w1.alloc (.cells #[.slice At ns.length ct] 28) = w2 at R4 REP RT BB ⊢
   generalize w1.heap.size = g4 at R4 ⊢
   have t4 := R4.c0
   have FB := Lib.hid (boxesR_few (xs := xs) hn)
   have FL := Lib.hid (leavesR_few (xs := xs) hn)
   have C2 := Lib.hid (impl_NodeBoxes_c w2 REP.out RT.out hx HZX.out)
   go_wp2_with fail
   refine C2.out.mono ?_
   rintro e w3 ⟨v1, G1, rfl, rep1, -, b2⟩
   replace R4 := R4.later b2
   clear t4
   have t4 := R4.c0
   replace REP := Lib.hid (REP.out.below b2)
   replace RT := Lib.hid (RT.out.below b2)
   replace BB := Lib.hid (BB.out.trans (b2.mono BB.out.size))
   clear b2 C2
   obtain ⟨A1, c1, rfl⟩ := slice_len rep1
   have RB1 := Lib.hid rep1
   clear rep1
   have C3 := Lib.hid (spec_NodeBoxes_c w3 REP.out RT.out hx HZX.out)
   go_wp2_with fail
   refine C3.out.mono ?_
   rintro e w4 ⟨v2, G2, rfl, rep2, -, b2⟩
   replace R4 := R4.later b2
   clear t4
   have t4 := R4.c0
   replace REP := Lib.hid (REP.out.below b2)
   replace RT := Lib.hid (RT.out.below b2)
   replace RB1 := Lib.hid (RB1.out.below b2)
   replace BB := Lib.hid (BB.out.trans (b2.mono BB.out.size))
   clear b2 C3
   obtain ⟨A2, c2, rfl⟩ := slice_len rep2
   have RB2 := Lib.hid rep2
   clear rep2
   have C4 := Lib.hid (impl_LeavesOf_c w4 REP.out RT.out hx HZX.out)
   go_wp2_with fail
   refine C4.out.mono ?_
   rintro e w5 ⟨v3, G3, rfl, rep3, -, b2⟩
   replace R4 := R4.later b2
   clear t4
   have t4 := R4.c0
   replace REP := Lib.hid (REP.out.below b2)
   replace RT := Lib.hid (RT.out.below b2)
   replace RB1 := Lib.hid (RB1.out.below b2)
   replace RB2 := Lib.hid (RB2.out.below b2)
   replace BB := Lib.hid (BB.out.trans (b2.mono BB.out.size))
   clear b2 C4
   obtain ⟨A3, c3, rfl⟩ := slice_len rep3
   have RB3 := Lib.hid rep3
   clear rep3
   have C5 := Lib.hid (spec_LeavesOf_c w5 REP.out RT.out hx HZX.out)
   go_wp2_with fail
   refine C5.out.mono ?_
   rintro e w6 ⟨v4, G4, rfl, rep4, -, b2⟩
   replace R4 := R4.later b2
   clear t4
   have t4 := R4.c0
   replace REP := Lib.hid (REP.out.below b2)
   replace RT := Lib.hid (RT.out.below b2)
   replace RB1 := Lib.hid (RB1.out.below b2)
   replace RB2 := Lib.hid (RB2.out.below b2)
   replace RB3 := Lib.hid (RB3.out.below b2)
   replace BB := Lib.hid (BB.out.trans (b2.mono BB.out.size))
   clear b2 C5
   obtain ⟨A4, c4, rfl⟩ := slice_len rep4
   have RB4 := Lib.hid rep4
   clear rep4
   have C6 := Lib.hid (impl_DepthOf_c w6 REP.out RT.out hx HZX.out)
   go_wp2_with fail
   refine C6.out.mono ?_
   rintro e w7 ⟨rfl, b2⟩
   replace R4 := R4.later b2
   clear t4
   have t4 := R4.c0
   replace REP := Lib.hid (REP.out.below b2)
   replace RT := Lib.hid (RT.out.below b2)
   replace RB1 := Lib.hid (RB1.out.below b2)
   replace RB2 := Lib.hid (RB2.out.below b2)
   replace RB3 := Lib.hid (RB3.out.below b2)
   replace RB4 := Lib.hid (RB4.out.below b2)
   replace BB := Lib.hid (BB.out.trans (b2.mono BB.out.size))
   clear b2 C6
   have C7 := Lib.hid (spec_DepthOf_c w7 REP.out RT.out hx HZX.out)
   go_wp2_with fail
   refine C7.out.mono ?_
   rintro e w8 ⟨rfl, b2⟩
   replace R4 := R4.later b2
   clear t4
   have t4 := R4.c0
   replace REP := Lib.hid (REP.out.below b2)
   replace RT := Lib.hid (RT.out.below b2)
   replace RB1 := Lib.hid (RB1.out.below b2)
   replace RB2 := Lib.hid (RB2.out.below b2)
   replace RB3 := Lib.hid (RB3.out.below b2)
   replace RB4 := Lib.hid (RB4.out.below b2)
   replace BB := Lib.hid (BB.out.trans (b2.mono BB.out.size))
   clear b2 C7
   have C8 := Lib.hid (CS.out w8 BB.out)
   clear CS t4
   go_wp2_with fail
   refine C8.out.mono ?_
   rintro e w9 ⟨ms, ks, va, vb, G5, H5, rfl, repa, repb, -, -, hm, hk, b2⟩
   replace REP := Lib.hid (REP.out.below b2)
   replace RB1 := Lib.hid (RB1.out.below b2)
   replace RB2 := Lib.hid (RB2.out.below b2)
   replace RB3 := Lib.hid (RB3.out.below b2)
   replace RB4 := Lib.hid (RB4.out.below b2)
   replace BB := Lib.hid (BB.out.trans (b2.mono BB.out.size))
   clear b2 C8 RT R4
   obtain ⟨Aa, ca, rfl⟩ := slice_len repa
   obtain ⟨Ab, cb, rfl⟩ := slice_len repb
   have R17 := (Row.new w9 28 #[.slice Aa ms.length ca]).alloc (.cells #[.slice Ab ks.length cb] 28)
   have R18 := Row.new (w9.alloc (.cells #[.slice Aa ms.length ca] 28)) 28 #[.slice Ab ks.length cb]
   rw [World.size_alloc] at R18
   replace REP := Lib.hid ((REP.out.alloc (.cells #[.slice Aa ms.length ca] 28)).alloc (.cells #[.slice Ab ks.length cb] 28))
   replace RB1 := Lib.hid ((RB1.out.alloc (.cells #[.slice Aa ms.length ca] 28)).alloc (.cells #[.slice Ab ks.length cb] 28))
   replace RB2 := Lib.hid ((RB2.out.alloc (.cells #[.slice Aa ms.length ca] 28)).alloc (.cells #[.slice Ab ks.length cb] 28))
   replace RB3 := Lib.hid ((RB3.out.alloc (.cells #[.slice Aa ms.length ca] 28)).alloc (.cells #[.slice Ab ks.length cb] 28))
   replace RB4 := Lib.hid ((RB4.out.alloc (.cells #[.slice Aa ms.length ca] 28)).alloc (.cells #[.slice Ab ks.length cb] 28))
   have RA := Lib.hid ((repa.alloc (.cells #[.slice Aa ms.length ca] 28)).alloc (.cells #[.slice Ab ks.length cb] 28))
   have RBB := Lib.hid ((repb.alloc (.cells #[.slice Aa ms.length ca] 28)).alloc (.cells #[.slice Ab ks.length cb] 28))
   have hsz9 := BB.out.size
   replace BB := Lib.hid ((BB.out.alloc BB.out.size (.cells #[.slice Aa ms.length ca] 28)).alloc (by simp; omega) (.cells #[.slice Ab ks.length cb] 28))
   clear repa repb hsz9
   go_upto_region 11 with fail
   generalize (w9.alloc (.cells #[.slice Aa ms.length ca] 28)).alloc (.cells #[.slice Ab ks.length cb] 28) = w10 at R17 R18 RA RBB BB REP RB1 RB2 RB3 RB4 ⊢
   generalize w9.heap.size = g17 at R17 R18 ⊢
   replace R17 := R17.drew
   replace R18 := R18.drew
   replace REP := Lib.hid (REP.out.drew)
   replace RB1 := Lib.hid (RB1.out.drew)
   replace RB2 := Lib.hid (RB2.out.drew)
   replace RB3 := Lib.hid (RB3.out.drew)
   replace RB4 := Lib.hid (RB4.out.drew)
   replace RA := Lib.hid (RA.out.drew)
   replace RBB := Lib.hid (RBB.out.drew)
   replace BB := Lib.hid (BB.out.drew)
   have z1 : (askF xs ns != askF xs ns) = false := by simp
   have z2 : (((boxesR xs ns).length : Int) != ((boxesR xs ns).length : Int)) = false := by simp
   have z3 : (depthR xs ns != depthR xs ns) = false := by simp
   have hS : (fun w' : World => w'.cell? ⟨g17, 0, none⟩ = some (.slice Aa ms.length ca) ∧ w'.cell? ⟨g17 + 1, 0, none⟩ = some (.slice Ab ks.length cb)) w10.drew := ⟨R17.c0, R18.c0⟩
   dsimp only at hS
   refine wp_region_held_drew (S := (fun w' : World => w'.cell? ⟨g17, 0, none⟩ = some (.slice Aa ms.length ca) ∧ w'.cell? ⟨g17 + 1, 0, none⟩ = some (.slice Ab ks.length cb))) (by kernel_rfl) hS (fun _ => ?_)
   refine tJ 0 hS ?_
   refine tJ 1 hS ?_
   refine tJ 2 hS ?_
   refine tJ 3 hS ?_
   refine tJ 4 hS ?_
   refine tJ 5 hS ?_
   refine tJ 6 hS ?_
   refine tJ 7 hS ?_
   refine tJ 8 hS ?_
   refine tJ 9 hS ?_
   refine tJ 10 hS ?_
   refine tJ 11 hS ?_
   refine tJ 12 hS ?_
   refine tJ 13 hS ?_
   refine tJ 14 hS ?_
   refine tJ 15 hS ?_
   refine tJ 16 hS ?_
   refine tJ 17 hS ?_
   have C11 := f6ints_c w10.drew RB3.out RB4.out (by have := FL.out; omega) (by have := FL.out; omega)
   rw [decide_eq_true rfl] at C11
   refine rJ 18 fun K hK => ?_
   refine step_call 24 #[.tmp 100, .tmp 101] _ rfl rfl #[.slice A3 (leavesR xs ns).length c3, .slice A4 (leavesR xs ns).length c4] Try.call24 (by go_simp) C11 ?_
   rintro e w11 ⟨rfl, b2⟩
   refine ⟨_, rfl, ?_⟩
   replace R17 := R17.later b2
   replace R18 := R18.later b2
   replace REP := Lib.hid (REP.out.below b2)
   replace RB1 := Lib.hid (RB1.out.below b2)
   replace RB2 := Lib.hid (RB2.out.below b2)
   replace RB3 := Lib.hid (RB3.out.below b2)
   replace RB4 := Lib.hid (RB4.out.below b2)
   replace RA := Lib.hid (RA.out.below b2)
   replace RBB := Lib.hid (RBB.out.below b2)
   replace BB := Lib.hid (BB.out.trans (b2.mono BB.out.size))
   replace hS := (⟨R17.c0, R18.c0⟩ : w11.cell? ⟨g17, 0, none⟩ = some (.slice Aa ms.length ca) ∧ w11.cell? ⟨g17 + 1, 0, none⟩ = some (.slice Ab ks.length cb))
   refine bJ hK hS ?_
   clear hK K
   simp only [Act.put, pA, pB, pC]
   clear b2
   refine tJ 19 hS ?_
   refine tJ 20 hS ?_
   refine tJ 21 hS ?_
   refine tJ 22 hS ?_
   refine tJ 23 hS ?_
   refine tJ 24 hS ?_
   refine tJ 25 hS ?_
   refine tJ 26 hS ?_
   refine tJ 27 hS ?_
   refine tJ 28 hS ?_
   refine tJ 29 hS ?_
   refine tJ 30 hS ?_
   refine tJ 31 hS ?_
   refine tJ 32 hS ?_
   refine tJ 33 hS ?_
   refine tJ 35 hS ?_
   refine tJ 36 hS ?_
   have C12 := impl_SameTree_c w11 RA.out RBB.out (by omega) (by omega)
   refine rJ 34 fun K hK => ?_
   refine step_call 25 #[.tmp 116, .tmp 117] _ rfl rfl #[.agg #[.slice Aa ms.length ca], .agg #[.slice Ab ks.length cb]] Try.call25 (by go_simp) C12 ?_
   rintro e w12 ⟨rfl, b2⟩
   refine ⟨_, rfl, ?_⟩
   replace R17 := R17.later b2
   replace R18 := R18.later b2
   replace REP := Lib.hid (REP.out.below b2)
   replace RB1 := Lib.hid (RB1.out.below b2)
   replace RB2 := Lib.hid (RB2.out.below b2)
   replace RB3 := Lib.hid (RB3.out.below b2)
   replace RB4 := Lib.hid (RB4.out.below b2)
   replace RA := Lib.hid (RA.out.below b2)
   replace RBB := Lib.hid (RBB.out.below b2)
   replace BB := Lib.hid (BB.out.trans (b2.mono BB.out.size))
   replace hS := (⟨R17.c0, R18.c0⟩ : w12.cell? ⟨g17, 0, none⟩ = some (.slice Aa ms.length ca) ∧ w12.cell? ⟨g17 + 1, 0, none⟩ = some (.slice Ab ks.length cb))
   refine bJ hK hS ?_
   clear hK K
   simp only [Act.put, pA, pB, pC]
   clear b2
   have C13 := spec_SameTree_c w12 RA.out RBB.out (by omega) (by omega)
   refine rJ 37 fun K hK => ?_
   refine step_call 11 #[.tmp 119, .tmp 120] _ rfl rfl #[.agg #[.slice Aa ms.length ca], .agg #[.slice Ab ks.length cb]] Try.call11 (by go_simp) C13 ?_
   rintro e w13 ⟨rfl, b2⟩
   refine ⟨_, rfl, ?_⟩
   replace R17 := R17.later b2
   replace R18 := R18.later b2
   replace REP := Lib.hid (REP.out.below b2)
   replace RB1 := Lib.hid (RB1.out.below b2)
   replace RB2 := Lib.hid (RB2.out.below b2)
   replace RB3 := Lib.hid (RB3.out.below b2)
   replace RB4 := Lib.hid (RB4.out.below b2)
   replace BB := Lib.hid (BB.out.trans (b2.mono BB.out.size))
   replace hS := (⟨R17.c0, R18.c0⟩ : w13.cell? ⟨g17, 0, none⟩ = some (.slice Aa ms.length ca) ∧ w13.cell? ⟨g17 + 1, 0, none⟩ = some (.slice Ab ks.length cb))
   refine bJ hK hS ?_
   clear hK K
   simp only [Act.put, pA, pB, pC]
   clear b2
   have z4 : (decide (ms = ks) != decide (ms = ks)) = false := by simp
   refine tJ 38 hS ?_
   refine tJ 39 hS ?_
   refine wpAnyH_done (by kernel_rfl) ?_ _
   clear hS z4 R17 R18 RA RBB C11 C12 C13
   generalize decide (ms = ks) = bmk
   go_wp2_with fail
   generalize hqs : boxesR xs ns = qs at RB1 RB2 FB z2 ⊢
   have HQ := Lib.hid hqs
   have hm : Try.prog.eqGuardType Try.prog.depth 48 = false := by kernel_rfl
   clear hqs
   go_loopw [19] (fun i wr => ∃ k : Nat, k ≤ qs.length ∧ i = .int .i64 k ∧ Below w13.heap.size w13 wr) (fun i _ => qs.length - (intOf i).toNat)
   case atStart => exact ⟨0, Nat.zero_le _, rfl, Below.refl _ _⟩
   case round =>
    obtain ⟨k, hk, rfl, hb⟩ := hrel
    by_cases hlt : k < qs.length
    · obtain ⟨A', c', he, _, _, hr⟩ := pBoxs_open (RB1.out.below hb)
      cases he
      obtain ⟨b, off, rfl, hbb, _, p0, p1, p2, p3, _⟩ := hr k hlt
      obtain ⟨A', c', he, _, _, hr'⟩ := pBoxs_open (RB2.out.below hb)
      cases he
      obtain ⟨b', off', rfl, hbb', _, q0, q1, q2, q3, _⟩ := hr' k hlt
      have g1 : (k : Int) < (qs.length : Int) := by omega
      have kw : IntKind.i64.wrap ((k : Int) + 1) = (k : Int) + 1 := IntWalk.i64_in _ (by have := FB.out; omega)
      have hq := fun w => box_neq_self qs[k] w
      clear hr hr'
      go_wp2_with fail
      go_quiet (fail)
      go_wp2_with fail
      go_roundw
      case rel => exact ⟨k + 1, by omega, by go_num, below_drewN hb nq⟩
      case measure => simp [intOf]; omega
    · obtain rfl : k = qs.length := by omega
      have g1 : ¬ ((qs.length : Int) < (qs.length : Int)) := by omega
      clear hk hlt z2
      replace REP := Lib.hid (REP.out.below hb)
      replace RB1 := Lib.hid (RB1.out.below hb)
      replace BB := Lib.hid (BB.out.trans (hb.mono BB.out.size))
      clear hb RB2 RB3 RB4
      obtain ⟨wo, hwo⟩ : ∃ x, x = wr := ⟨_, rfl⟩
      subst hwo
      have kw0 := IntWalk.i64_in ((xs.length : Int) - 1) (by omega)
      have N0 := Lib.hid (show (pSymbols 50).rep true (wo.alloc (.cells #[] 50)) (xs.drop xs.length).reverse [.slice (some ⟨wo.heap.size, 0, none⟩) 0 0] [wo.heap.size] ∧ Fresh wo.heap.size [wo.heap.size] ∧ Below wo.heap.size wo (wo.alloc (.cells #[] 50)) from ⟨by rw [List.drop_length]; exact syms_nil wo 50, ⟨by simp, by simp⟩, (Below.refl _ _).alloc (Nat.le_refl _) _⟩)
      go_wp2_with fail
      go_loopw [20, 21] (fun l i wr => ∃ (j : Nat) (iv : Int) (v : Value) (Ft : List Nat), l = v ∧ i = .int .i64 iv ∧ iv + 1 = (j : Int) ∧ j ≤ xs.length ∧ Hid ((pSymbols 50).rep true wr (xs.drop j).reverse [v] Ft ∧ Fresh wo.heap.size Ft ∧ Below wo.heap.size wo wr)) (fun l i _ => (intOf i + 1).toNat)
      case atStart => exact ⟨xs.length, (xs.length : Int) - 1, _, _, rfl, rfl, by omega, Nat.le_refl _, N0⟩
      case round =>
       obtain ⟨j, iv, vj, Ft, rfl, rfl, hiv, hj, all⟩ := hrel
       cases j with
       | succ m =>
         obtain ⟨rt, ft, hb⟩ := all.out
         obtain rfl : iv = (m : Int) := by omega
         obtain ⟨T9, n9, c9, rfl⟩ := slice_form rt
         have hlt : m < xs.length := by omega
         obtain ⟨A', c', he, _, _, hr⟩ := pSymbols_open (REP.out.below hb)
         cases he
         obtain ⟨b, off, rfl, hbb, _, p0, p1, p2, p3, p4, _⟩ := hr m hlt
         have g1 : (m : Int) < (xs.length : Int) := by omega
         have kw := IntWalk.i64_in ((m : Int) - 1) (by omega)
         have ok1 : ∀ s ∈ [xs[m]], pSymbolOk s := fun s hs => by simp only [List.mem_singleton] at hs; subst hs; exact HOKX.out _ (List.getElem_mem hlt)
         have e9 : (xs.drop (m + 1)).reverse ++ [xs[m]] = (xs.drop m).reverse := by rw [List.drop_eq_getElem_cons hlt, List.reverse_cons]
         have hl9 : (xs.drop (m + 1)).reverse.length ≤ 12 := by simp; omega
         have E9 := Lib.hid e9
         have RTT := Lib.hid rt
         have FT := Lib.hid ft
         have HB := Lib.hid hb
         clear hr e9 rt ft hb all hiv hj
         go_wp2_with (at_builtin; refine wpList_append_rep (T := pSymbol) (e := 50) (ys := [xs[m]]) (ec := [.string xs[m].label, .int .i64 xs[m].x1, .int .i64 xs[m].y1, .int .i64 xs[m].x2, .int .i64 xs[m].y2]) rfl (.tmp 147) (.tmp 152) rfl Try.underlying24 infoSym rfl (by decide) rfl (RTT.out.alloc _) rfl (repL_pSymbol [xs[m]] ok1) (cellsAt_new _ _ _) trivial (by rw [List.append_nil]; exact FT.out.1) (by simp only [List.length_singleton, maxLen]; omega) (by simp only [List.length_singleton]; omega) ?_; intro v2 w2 F2 r2 o2 q2; obtain ⟨T8, n8, c8, rfl⟩ := slice_form r2)
         go_roundw
         case rel =>
          refine ⟨m, (m : Int) - 1, _, F2, rfl, rfl, by omega, by omega, Lib.hid ⟨by rw [← E9.out]; exact r2, q2 _ (by simpa using FT.out) (by simp; have := HB.out.size; omega), (HB.out.alloc HB.out.size _).trans (o2.below (by simp; have := HB.out.size; omega) FT.out.2)⟩⟩
         case measure => simp [intOf]
       | zero =>
         obtain rfl : iv = -1 := by omega
         rw [List.drop_zero] at all
         obtain ⟨rt, ft, hb⟩ := all.out
         obtain ⟨T9, n9, c9, rfl⟩ := slice_form rt
         replace REP := Lib.hid (REP.out.below hb)
         replace RB1 := Lib.hid (RB1.out.below hb)
         replace BB := Lib.hid (BB.out.trans (hb.mono BB.out.size))
         have RV := Lib.hid rt
         clear hb hiv hj all rt ft N0 kw0
         obtain ⟨w15, hwo⟩ : ∃ x, x = wr := ⟨_, rfl⟩
         subst hwo
         have hxv : xs.reverse.length ≤ 1048576 := by simp; omega
         have HZV := Lib.hid (show ∀ c ∈ xs.reverse, c.label.size ≤ 1048576 from fun c hc => HZX.out c (by simpa using hc))
         obtain ⟨t1, t2, t3, t4'⟩ := turned_told xs
         have C15 := impl_ParseSymbols_c w15 REP.out hx HZX.out
         have D15 := Lib.hid C15
         clear C15
         go_wp2_with fail
         refine D15.out.mono ?_
         rintro e w16 ⟨vn, H16, rfl, repn, -, b2⟩
         obtain ⟨N16, m16, rfl⟩ := slice_len repn
         replace REP := Lib.hid (REP.out.below b2)
         replace RB1 := Lib.hid (RB1.out.below b2)
         replace RV := Lib.hid (RV.out.below b2)
         replace BB := Lib.hid (BB.out.trans (b2.mono BB.out.size))
         replace REP := Lib.hid (REP.out.alloc (.cells #[.slice N16 (parseN xs).length m16] 28))
         replace RB1 := Lib.hid (RB1.out.alloc (.cells #[.slice N16 (parseN xs).length m16] 28))
         replace RV := Lib.hid (RV.out.alloc (.cells #[.slice N16 (parseN xs).length m16] 28))
         replace BB := Lib.hid (BB.out.alloc BB.out.size (.cells #[.slice N16 (parseN xs).length m16] 28))
         clear b2 repn D15
         go_upto_region 24 with fail
         generalize w16.alloc (.cells #[.slice N16 (parseN xs).length m16] 28) = w17 at REP RB1 RV BB ⊢
         generalize w16.heap.size = g16
         have C17 := impl_ParseSymbols_c w17 RV.out hxv HZV.out
         rw [t1, t2] at C17
         have D17 := Lib.hid C17
         clear C17
         go_wp2_with fail
         refine D17.out.mono ?_
         rintro e w18 ⟨vn, H18, rfl, repn, -, b2⟩
         obtain ⟨N18, m18, rfl⟩ := slice_len repn
         replace REP := Lib.hid (REP.out.below b2)
         replace RB1 := Lib.hid (RB1.out.below b2)
         replace RV := Lib.hid (RV.out.below b2)
         replace BB := Lib.hid (BB.out.trans (b2.mono BB.out.size))
         replace REP := Lib.hid (REP.out.alloc (.cells #[.slice N18 (parseN xs.reverse).length m18] 28))
         replace RB1 := Lib.hid (RB1.out.alloc (.cells #[.slice N18 (parseN xs.reverse).length m18] 28))
         replace RV := Lib.hid (RV.out.alloc (.cells #[.slice N18 (parseN xs.reverse).length m18] 28))
         replace BB := Lib.hid (BB.out.alloc BB.out.size (.cells #[.slice N18 (parseN xs.reverse).length m18] 28))
         clear b2 repn D17
         go_upto_region 25 with fail
         generalize w18.alloc (.cells #[.slice N18 (parseN xs.reverse).length m18] 28) = w19 at REP RB1 RV BB ⊢
         generalize w18.heap.size = g18
         have C19 := impl_CountTrees_c w19 REP.out hx HZX.out
         have D19 := Lib.hid C19
         clear C19
         go_wp2_with fail
         refine D19.out.mono ?_
         rintro e w20 ⟨rfl, b2⟩
         replace REP := Lib.hid (REP.out.below b2)
         replace RB1 := Lib.hid (RB1.out.below b2)
         replace RV := Lib.hid (RV.out.below b2)
         replace BB := Lib.hid (BB.out.trans (b2.mono BB.out.size))
         clear b2 D19
         have C20 := impl_CountTrees_c w20 RV.out hxv HZV.out
         rw [t3, t4'] at C20
         have D20 := Lib.hid C20
         clear C20
         go_wp2_with fail
         refine D20.out.mono ?_
         rintro e w21 ⟨rfl, b2⟩
         replace REP := Lib.hid (REP.out.below b2)
         replace RB1 := Lib.hid (RB1.out.below b2)
         replace RV := Lib.hid (RV.out.below b2)
         replace BB := Lib.hid (BB.out.trans (b2.mono BB.out.size))
         clear b2 D20
         clear RV t1 t2 t3 t4'
         have y1 : (parseC xs != parseC xs) = false := by simp
         have y2 : (parseL xs != parseL xs) = false := by simp
         have y3 : (countC xs != countC xs) = false := by simp
         have y4 : (countN xs != countN xs) = false := by simp
         by_cases ka : askF xs ns = 0
         · obtain ⟨f1, f2, f3, f4, f5, f6, f7, f8⟩ := tree_facts ka
           rw [HQ.out] at f3 f4
           have F3 := Lib.hid f3
           have F4 := Lib.hid f4
           have F5 := Lib.hid f5
           clear f3 f4 f5
           have y5 : (askF xs ns != 0) = false := by simp [ka]
           obtain ⟨A', c', he, _, _, hr⟩ := pSymbols_open REP.out
           cases he
           obtain ⟨b, off, rfl, hbb, -, p0, p1, p2, p3, p4, -⟩ := hr 0 (by omega)
           have g0 : (0 : Int) < (xs.length : Int) := by omega
           clear hr
           have hnL : ∀ b ∈ G, b ∉ [w21.heap.size] := fun b hb hin => by have := (pSymbols _).lt REP.out b hb; simp at hin; omega
           have hnB : ∀ b ∈ G1, b ∉ [w21.heap.size] := fun b hb hin => by have := (pBoxs _).lt RB1.out b hb; simp at hin; omega
           have RALL := Row.new w21 48 #[.int .i64 xs[0].x1, .int .i64 xs[0].y1, .int .i64 xs[0].x2, .int .i64 xs[0].y2]
           have hwG := BB.out.size
           replace REP := Lib.hid (REP.out.alloc (.cells #[.int .i64 xs[0].x1, .int .i64 xs[0].y1, .int .i64 xs[0].x2, .int .i64 xs[0].y2] 48))
           replace RB1 := Lib.hid (RB1.out.alloc (.cells #[.int .i64 xs[0].x1, .int .i64 xs[0].y1, .int .i64 xs[0].x2, .int .i64 xs[0].y2] 48))
           replace BB := Lib.hid (BB.out.alloc BB.out.size (.cells #[.int .i64 xs[0].x1, .int .i64 xs[0].y1, .int .i64 xs[0].x2, .int .i64 xs[0].y2] 48))
           have RALL' : Row (w21.alloc (.cells #[.int .i64 xs[0].x1, .int .i64 xs[0].y1, .int .i64 xs[0].x2, .int .i64 xs[0].y2] 48)) w21.heap.size 48 [.int .i64 (allK xs 1).x1, .int .i64 (allK xs 1).y1, .int .i64 (allK xs 1).x2, .int .i64 (allK xs 1).y2] := by rw [allK_one, sbox_get (by omega)]; exact RALL
           go_upto_region 32 with fail
           clear RALL p0 p1 p2 p3 p4 hbb y1 y2 y3 y4
           generalize w21.alloc (.cells #[.int .i64 xs[0].x1, .int .i64 xs[0].y1, .int .i64 xs[0].x2, .int .i64 xs[0].y2] 48) = w22 at REP RB1 BB RALL' ⊢
           generalize w21.heap.size = g21 at RALL' hnL hnB hwG ⊢
           have hg22 := RALL'.lt
           go_wp2_with fail
           go_loopw [33] (fun i wr => ∃ k : Nat, 1 ≤ k ∧ k ≤ xs.length ∧ i = .int .i64 k ∧ Hid (Row wr g21 48 [.int .i64 (allK xs k).x1, .int .i64 (allK xs k).y1, .int .i64 (allK xs k).x2, .int .i64 (allK xs k).y2] ∧ Only [g21] w22 wr)) (fun i _ => xs.length - (intOf i).toNat)
           case atStart => exact ⟨1, by omega, by omega, rfl, Lib.hid ⟨RALL', Only.refl _ _⟩⟩
           case round =>
            obtain ⟨k, h1k, hk, rfl, all⟩ := hrel
            obtain ⟨RA, OA⟩ := all.out
            clear all RALL'
            by_cases hlt : k < xs.length
            · obtain ⟨A', c', he, _, _, hr⟩ := pSymbols_open (REP.out.only OA hnL)
              cases he
              obtain ⟨b, off, e, hbb, hbG, p0, p1, p2, p3, p4, _⟩ := hr k hlt
              cases e
              have hjo := allK_ok f1 k h1k hk
              have hbo := syms_box f1 hlt
              rw [sbox_get hlt] at hbo
              have eJ : joinB (allK xs k) (boxOf xs[k]) = allK xs (k + 1) := by rw [allK_succ xs h1k, sbox_get hlt]
              have CJ := fun w => spec_JoinBoxes_c (allK xs k) (boxOf xs[k]) w hjo hbo
              simp only [eJ] at CJ
              dsimp only [boxOf, boxV] at CJ
              have g1 : (k : Int) < (xs.length : Int) := by omega
              have kw := IntWalk.i64_in ((k : Int) + 1) (by omega)
              have hbg : b ≠ g21 := fun e => hnL b hbG (by simp [e])
              clear hr hjo hbo eJ p0
              generalize allK xs k = J0 at RA CJ
              generalize hJ1 : allK xs (k + 1) = J1 at CJ
              have HJ := Lib.hid hJ1
              clear hJ1
              go_upto_region 35 with fail
              replace RA := RA.drew
              replace OA := OA.drew
              replace p1 : wr.drew.cell? _ = _ := p1
              replace p2 : wr.drew.cell? _ = _ := p2
              replace p3 : wr.drew.cell? _ = _ := p3
              replace p4 : wr.drew.cell? _ = _ := p4
              replace hbb : b < wr.drew.heap.size := hbb
              have hS : (fun w' : World => w'.cell? ⟨g21, 0, none⟩ = some (.int .i64 J0.x1) ∧ w'.cell? ⟨g21, 1, none⟩ = some (.int .i64 J0.y1) ∧ w'.cell? ⟨g21, 2, none⟩ = some (.int .i64 J0.x2) ∧ w'.cell? ⟨g21, 3, none⟩ = some (.int .i64 J0.y2) ∧ w'.cell? ⟨b, off + k * 5 + 1, none⟩ = some (.int .i64 xs[k].x1) ∧ w'.cell? ⟨b, off + k * 5 + 2, none⟩ = some (.int .i64 xs[k].y1) ∧ w'.cell? ⟨b, off + k * 5 + 3, none⟩ = some (.int .i64 xs[k].x2) ∧ w'.cell? ⟨b, off + k * 5 + 4, none⟩ = some (.int .i64 xs[k].y2)) wr.drew := ⟨RA.c0, RA.c1, RA.c2, RA.c3, p1, p2, p3, p4⟩
              dsimp only at hS
              refine wp_region_held_drew (S := (fun w' : World => w'.cell? ⟨g21, 0, none⟩ = some (.int .i64 J0.x1) ∧ w'.cell? ⟨g21, 1, none⟩ = some (.int .i64 J0.y1) ∧ w'.cell? ⟨g21, 2, none⟩ = some (.int .i64 J0.x2) ∧ w'.cell? ⟨g21, 3, none⟩ = some (.int .i64 J0.y2) ∧ w'.cell? ⟨b, off + k * 5 + 1, none⟩ = some (.int .i64 xs[k].x1) ∧ w'.cell? ⟨b, off + k * 5 + 2, none⟩ = some (.int .i64 xs[k].y1) ∧ w'.cell? ⟨b, off + k * 5 + 3, none⟩ = some (.int .i64 xs[k].x2) ∧ w'.cell? ⟨b, off + k * 5 + 4, none⟩ = some (.int .i64 xs[k].y2))) (by kernel_rfl) hS (fun _ => ?_)
              generalize wr.drew = v0 at RA OA p1 p2 p3 p4 hbb hS ⊢
              refine tJ 0 hS ?_
              refine tJ 1 hS ?_
              refine tJ 2 hS ?_
              refine tJ 3 hS ?_
              refine tJ 4 hS ?_
              refine tJ 5 hS ?_
              refine rJ2 6 10 (fun K hK => ?_) (fun K hK => ?_)
              · skip
                refine step_call 26 #[.tmp 207, .tmp 212] _ rfl rfl #[.agg #[.int .i64 J0.x1, .int .i64 J0.y1, .int .i64 J0.x2, .int .i64 J0.y2], .agg #[.int .i64 xs[k].x1, .int .i64 xs[k].y1, .int .i64 xs[k].x2, .int .i64 xs[k].y2]] Try.call26 (by go_simp) (CJ v0) ?_
                rintro e wa ⟨rfl, b2⟩
                refine ⟨_, rfl, ?_⟩
                replace RA := RA.later b2
                replace OA := OA.trans (Only.of_below b2)
                replace p1 := (b2.cell (p := ⟨b, _, none⟩) hbb).trans p1
                replace p2 := (b2.cell (p := ⟨b, _, none⟩) hbb).trans p2
                replace p3 := (b2.cell (p := ⟨b, _, none⟩) hbb).trans p3
                replace p4 := (b2.cell (p := ⟨b, _, none⟩) hbb).trans p4
                replace hbb := Nat.lt_of_lt_of_le hbb b2.size
                replace hS := (⟨RA.c0, RA.c1, RA.c2, RA.c3, p1, p2, p3, p4⟩ : wa.cell? ⟨g21, 0, none⟩ = some (.int .i64 J0.x1) ∧ wa.cell? ⟨g21, 1, none⟩ = some (.int .i64 J0.y1) ∧ wa.cell? ⟨g21, 2, none⟩ = some (.int .i64 J0.x2) ∧ wa.cell? ⟨g21, 3, none⟩ = some (.int .i64 J0.y2) ∧ wa.cell? ⟨b, off + k * 5 + 1, none⟩ = some (.int .i64 xs[k].x1) ∧ wa.cell? ⟨b, off + k * 5 + 2, none⟩ = some (.int .i64 xs[k].y1) ∧ wa.cell? ⟨b, off + k * 5 + 3, none⟩ = some (.int .i64 xs[k].x2) ∧ wa.cell? ⟨b, off + k * 5 + 4, none⟩ = some (.int .i64 xs[k].y2))
                refine bJ hK hS ?_
                clear hK K
                simp only [Act.put, pA, pB, pC]
                refine tJ 7 hS ?_
                refine tJ 8 hS ?_
                refine tJ 9 hS ?_
                refine rJ 10 fun K hK => ?_
                go_simp
                have hlA := RA.lt
                refine hK.out _ _ ⟨(World.cell?_alloc_past (w := wa) _ _ _ hlA).trans (RA.c0), (World.cell?_alloc_past (w := wa) _ _ _ hlA).trans (RA.c1), (World.cell?_alloc_past (w := wa) _ _ _ hlA).trans (RA.c2), (World.cell?_alloc_past (w := wa) _ _ _ hlA).trans (RA.c3), (World.cell?_alloc_past (w := wa) _ _ _ hbb).trans p1, (World.cell?_alloc_past (w := wa) _ _ _ hbb).trans p2, (World.cell?_alloc_past (w := wa) _ _ _ hbb).trans p3, (World.cell?_alloc_past (w := wa) _ _ _ hbb).trans p4⟩ (fun _ => ?_)
                clear hK K
                have RZ := Row.new wa 48 #[.int .i64 0, .int .i64 0, .int .i64 0, .int .i64 0]
                have hwz : wa.heap.size < (wa.alloc (.cells #[.int .i64 0, .int .i64 0, .int .i64 0, .int .i64 0] 48)).heap.size := by simp
                have hzg : g21 ≠ wa.heap.size := by omega
                have hzb : b ≠ wa.heap.size := by omega
                have hz22 : w22.heap.size ≤ wa.heap.size := OA.size
                replace p1 : (wa.alloc (.cells #[.int .i64 0, .int .i64 0, .int .i64 0, .int .i64 0] 48)).cell? _ = _ := (World.cell?_alloc_past (w := wa) _ _ _ hbb).trans p1
                replace p2 : (wa.alloc (.cells #[.int .i64 0, .int .i64 0, .int .i64 0, .int .i64 0] 48)).cell? _ = _ := (World.cell?_alloc_past (w := wa) _ _ _ hbb).trans p2
                replace p3 : (wa.alloc (.cells #[.int .i64 0, .int .i64 0, .int .i64 0, .int .i64 0] 48)).cell? _ = _ := (World.cell?_alloc_past (w := wa) _ _ _ hbb).trans p3
                replace p4 : (wa.alloc (.cells #[.int .i64 0, .int .i64 0, .int .i64 0, .int .i64 0] 48)).cell? _ = _ := (World.cell?_alloc_past (w := wa) _ _ _ hbb).trans p4
                replace hbb : b < (wa.alloc (.cells #[.int .i64 0, .int .i64 0, .int .i64 0, .int .i64 0] 48)).heap.size := Nat.lt_trans hbb hwz
                replace RA := RA.alloc (.cells #[.int .i64 0, .int .i64 0, .int .i64 0, .int .i64 0] 48)
                replace OA := OA.alloc (.cells #[.int .i64 0, .int .i64 0, .int .i64 0, .int .i64 0] 48)
                generalize wa.heap.size = bZ at RZ hwz hzg hzb hz22 ⊢
                generalize wa.alloc (.cells #[.int .i64 0, .int .i64 0, .int .i64 0, .int .i64 0] 48) = wZ at RA OA RZ p1 p2 p3 p4 hbb hwz ⊢
                replace hS := (⟨RA.c0, RA.c1, RA.c2, RA.c3, p1, p2, p3, p4⟩ : wZ.cell? ⟨g21, 0, none⟩ = some (.int .i64 J0.x1) ∧ wZ.cell? ⟨g21, 1, none⟩ = some (.int .i64 J0.y1) ∧ wZ.cell? ⟨g21, 2, none⟩ = some (.int .i64 J0.x2) ∧ wZ.cell? ⟨g21, 3, none⟩ = some (.int .i64 J0.y2) ∧ wZ.cell? ⟨b, off + k * 5 + 1, none⟩ = some (.int .i64 xs[k].x1) ∧ wZ.cell? ⟨b, off + k * 5 + 2, none⟩ = some (.int .i64 xs[k].y1) ∧ wZ.cell? ⟨b, off + k * 5 + 3, none⟩ = some (.int .i64 xs[k].x2) ∧ wZ.cell? ⟨b, off + k * 5 + 4, none⟩ = some (.int .i64 xs[k].y2))
                have v0 := RZ.c0
                have v1 := RZ.c1
                have v2 := RZ.c2
                have v3 := RZ.c3
                have vF := RZ.frozen
                refine rJ 11 fun K hK => ?_
                clear hS
                go_simp
                refine hK.out _ _ ⟨(cell_farU hzg _ _ _ _).trans (RA.c0), (cell_farU hzg _ _ _ _).trans (RA.c1), (cell_farU hzg _ _ _ _).trans (RA.c2), (cell_farU hzg _ _ _ _).trans (RA.c3), (cell_farU hzb _ _ _ _).trans p1, (cell_farU hzb _ _ _ _).trans p2, (cell_farU hzb _ _ _ _).trans p3, (cell_farU hzb _ _ _ _).trans p4⟩ (fun hS => ?_)
                clear hK K
                have RZ4 := four_cells RZ rfl (.int .i64 J1.x1) (.int .i64 J1.y1) (.int .i64 J1.x2) (.int .i64 J1.y2)
                have RA4 := RA.far4 hzg (.int .i64 J1.x1) (.int .i64 J1.y1) (.int .i64 J1.x2) (.int .i64 J1.y2)
                have OA4 := (((OA.set_new (p := ⟨bZ, 0, none⟩) hz22 (.int .i64 J1.x1)).set_new (p := ⟨bZ, 1, none⟩) hz22 (.int .i64 J1.y1)).set_new (p := ⟨bZ, 2, none⟩) hz22 (.int .i64 J1.x2)).set_new (p := ⟨bZ, 3, none⟩) hz22 (.int .i64 J1.y2)
                generalize (((wZ.setCell ⟨bZ, 0, none⟩ (.int .i64 J1.x1)).setCell ⟨bZ, 1, none⟩ (.int .i64 J1.y1)).setCell ⟨bZ, 2, none⟩ (.int .i64 J1.x2)).setCell ⟨bZ, 3, none⟩ (.int .i64 J1.y2) = wF at RZ4 RA4 OA4 hS ⊢
                clear v0 v1 v2 v3 vF RZ RA OA p1 p2 p3 p4 CJ
                refine tJ 12 hS ?_
                refine wpAnyH_done (by kernel_rfl) ?_ _
                clear hS
                have v0 := RZ4.c0
                have v1 := RZ4.c1
                have v2 := RZ4.c2
                have v3 := RZ4.c3
                have u0 := RA4.c0
                have u1 := RA4.c1
                have u2 := RA4.c2
                have u3 := RA4.c3
                have uF := RA4.frozen
                have RAN := Lib.hid (four_cells RA4 rfl (.int .i64 J1.x1) (.int .i64 J1.y1) (.int .i64 J1.x2) (.int .i64 J1.y2))
                have OAN := Lib.hid ((((OA4.set (p := ⟨g21, 0, none⟩) (by simp) (.int .i64 J1.x1)).set (p := ⟨g21, 1, none⟩) (by simp) (.int .i64 J1.y1)).set (p := ⟨g21, 2, none⟩) (by simp) (.int .i64 J1.x2)).set (p := ⟨g21, 3, none⟩) (by simp) (.int .i64 J1.y2))
                clear RZ4 RA4 OA4
                go_wp2_with fail
                go_roundw
                case rel => exact ⟨k + 1, by omega, by omega, by go_num, by rw [HJ.out]; exact Lib.hid ⟨RAN.out, OAN.out⟩⟩
                case measure => simp [intOf]; omega
              · skip
                go_simp
                have hlA := RA.lt
                refine hK.out _ _ ⟨(World.cell?_alloc_past (w := v0) _ _ _ hlA).trans (RA.c0), (World.cell?_alloc_past (w := v0) _ _ _ hlA).trans (RA.c1), (World.cell?_alloc_past (w := v0) _ _ _ hlA).trans (RA.c2), (World.cell?_alloc_past (w := v0) _ _ _ hlA).trans (RA.c3), (World.cell?_alloc_past (w := v0) _ _ _ hbb).trans p1, (World.cell?_alloc_past (w := v0) _ _ _ hbb).trans p2, (World.cell?_alloc_past (w := v0) _ _ _ hbb).trans p3, (World.cell?_alloc_past (w := v0) _ _ _ hbb).trans p4⟩ (fun _ => ?_)
                clear hK K
                have RZ := Row.new v0 48 #[.int .i64 0, .int .i64 0, .int .i64 0, .int .i64 0]
                have hwz : v0.heap.size < (v0.alloc (.cells #[.int .i64 0, .int .i64 0, .int .i64 0, .int .i64 0] 48)).heap.size := by simp
                have hzg : g21 ≠ v0.heap.size := by omega
                have hzb : b ≠ v0.heap.size := by omega
                have hz22 : w22.heap.size ≤ v0.heap.size := OA.size
                replace p1 : (v0.alloc (.cells #[.int .i64 0, .int .i64 0, .int .i64 0, .int .i64 0] 48)).cell? _ = _ := (World.cell?_alloc_past (w := v0) _ _ _ hbb).trans p1
                replace p2 : (v0.alloc (.cells #[.int .i64 0, .int .i64 0, .int .i64 0, .int .i64 0] 48)).cell? _ = _ := (World.cell?_alloc_past (w := v0) _ _ _ hbb).trans p2
                replace p3 : (v0.alloc (.cells #[.int .i64 0, .int .i64 0, .int .i64 0, .int .i64 0] 48)).cell? _ = _ := (World.cell?_alloc_past (w := v0) _ _ _ hbb).trans p3
                replace p4 : (v0.alloc (.cells #[.int .i64 0, .int .i64 0, .int .i64 0, .int .i64 0] 48)).cell? _ = _ := (World.cell?_alloc_past (w := v0) _ _ _ hbb).trans p4
                replace hbb : b < (v0.alloc (.cells #[.int .i64 0, .int .i64 0, .int .i64 0, .int .i64 0] 48)).heap.size := Nat.lt_trans hbb hwz
                replace RA := RA.alloc (.cells #[.int .i64 0, .int .i64 0, .int .i64 0, .int .i64 0] 48)
                replace OA := OA.alloc (.cells #[.int .i64 0, .int .i64 0, .int .i64 0, .int .i64 0] 48)
                generalize v0.heap.size = bZ at RZ hwz hzg hzb hz22 ⊢
                generalize v0.alloc (.cells #[.int .i64 0, .int .i64 0, .int .i64 0, .int .i64 0] 48) = wZ at RA OA RZ p1 p2 p3 p4 hbb hwz ⊢
                replace hS := (⟨RA.c0, RA.c1, RA.c2, RA.c3, p1, p2, p3, p4⟩ : wZ.cell? ⟨g21, 0, none⟩ = some (.int .i64 J0.x1) ∧ wZ.cell? ⟨g21, 1, none⟩ = some (.int .i64 J0.y1) ∧ wZ.cell? ⟨g21, 2, none⟩ = some (.int .i64 J0.x2) ∧ wZ.cell? ⟨g21, 3, none⟩ = some (.int .i64 J0.y2) ∧ wZ.cell? ⟨b, off + k * 5 + 1, none⟩ = some (.int .i64 xs[k].x1) ∧ wZ.cell? ⟨b, off + k * 5 + 2, none⟩ = some (.int .i64 xs[k].y1) ∧ wZ.cell? ⟨b, off + k * 5 + 3, none⟩ = some (.int .i64 xs[k].x2) ∧ wZ.cell? ⟨b, off + k * 5 + 4, none⟩ = some (.int .i64 xs[k].y2))
                refine rJ 6 fun K hK => ?_
                refine step_call 26 #[.tmp 207, .tmp 212] _ rfl rfl #[.agg #[.int .i64 J0.x1, .int .i64 J0.y1, .int .i64 J0.x2, .int .i64 J0.y2], .agg #[.int .i64 xs[k].x1, .int .i64 xs[k].y1, .int .i64 xs[k].x2, .int .i64 xs[k].y2]] Try.call26 (by go_simp) (CJ wZ) ?_
                rintro e wa ⟨rfl, b2⟩
                refine ⟨_, rfl, ?_⟩
                replace RA := RA.later b2
                replace RZ := RZ.later b2
                replace OA := OA.trans (Only.of_below b2)
                replace p1 := (b2.cell (p := ⟨b, _, none⟩) hbb).trans p1
                replace p2 := (b2.cell (p := ⟨b, _, none⟩) hbb).trans p2
                replace p3 := (b2.cell (p := ⟨b, _, none⟩) hbb).trans p3
                replace p4 := (b2.cell (p := ⟨b, _, none⟩) hbb).trans p4
                replace hS := (⟨RA.c0, RA.c1, RA.c2, RA.c3, p1, p2, p3, p4⟩ : wa.cell? ⟨g21, 0, none⟩ = some (.int .i64 J0.x1) ∧ wa.cell? ⟨g21, 1, none⟩ = some (.int .i64 J0.y1) ∧ wa.cell? ⟨g21, 2, none⟩ = some (.int .i64 J0.x2) ∧ wa.cell? ⟨g21, 3, none⟩ = some (.int .i64 J0.y2) ∧ wa.cell? ⟨b, off + k * 5 + 1, none⟩ = some (.int .i64 xs[k].x1) ∧ wa.cell? ⟨b, off + k * 5 + 2, none⟩ = some (.int .i64 xs[k].y1) ∧ wa.cell? ⟨b, off + k * 5 + 3, none⟩ = some (.int .i64 xs[k].x2) ∧ wa.cell? ⟨b, off + k * 5 + 4, none⟩ = some (.int .i64 xs[k].y2))
                refine bJ hK hS ?_
                clear hK K
                simp only [Act.put, pA, pB, pC]
                refine tJ 7 hS ?_
                refine tJ 8 hS ?_
                refine tJ 9 hS ?_
                have v0 := RZ.c0
                have v1 := RZ.c1
                have v2 := RZ.c2
                have v3 := RZ.c3
                have vF := RZ.frozen
                refine rJ 11 fun K hK => ?_
                clear hS
                go_simp
                refine hK.out _ _ ⟨(cell_farU hzg _ _ _ _).trans (RA.c0), (cell_farU hzg _ _ _ _).trans (RA.c1), (cell_farU hzg _ _ _ _).trans (RA.c2), (cell_farU hzg _ _ _ _).trans (RA.c3), (cell_farU hzb _ _ _ _).trans p1, (cell_farU hzb _ _ _ _).trans p2, (cell_farU hzb _ _ _ _).trans p3, (cell_farU hzb _ _ _ _).trans p4⟩ (fun hS => ?_)
                clear hK K
                have RZ4 := four_cells RZ rfl (.int .i64 J1.x1) (.int .i64 J1.y1) (.int .i64 J1.x2) (.int .i64 J1.y2)
                have RA4 := RA.far4 hzg (.int .i64 J1.x1) (.int .i64 J1.y1) (.int .i64 J1.x2) (.int .i64 J1.y2)
                have OA4 := (((OA.set_new (p := ⟨bZ, 0, none⟩) hz22 (.int .i64 J1.x1)).set_new (p := ⟨bZ, 1, none⟩) hz22 (.int .i64 J1.y1)).set_new (p := ⟨bZ, 2, none⟩) hz22 (.int .i64 J1.x2)).set_new (p := ⟨bZ, 3, none⟩) hz22 (.int .i64 J1.y2)
                generalize (((wa.setCell ⟨bZ, 0, none⟩ (.int .i64 J1.x1)).setCell ⟨bZ, 1, none⟩ (.int .i64 J1.y1)).setCell ⟨bZ, 2, none⟩ (.int .i64 J1.x2)).setCell ⟨bZ, 3, none⟩ (.int .i64 J1.y2) = wF at RZ4 RA4 OA4 hS ⊢
                clear v0 v1 v2 v3 vF RZ RA OA p1 p2 p3 p4 CJ
                refine tJ 12 hS ?_
                refine wpAnyH_done (by kernel_rfl) ?_ _
                clear hS
                have v0 := RZ4.c0
                have v1 := RZ4.c1
                have v2 := RZ4.c2
                have v3 := RZ4.c3
                have u0 := RA4.c0
                have u1 := RA4.c1
                have u2 := RA4.c2
                have u3 := RA4.c3
                have uF := RA4.frozen
                have RAN := Lib.hid (four_cells RA4 rfl (.int .i64 J1.x1) (.int .i64 J1.y1) (.int .i64 J1.x2) (.int .i64 J1.y2))
                have OAN := Lib.hid ((((OA4.set (p := ⟨g21, 0, none⟩) (by simp) (.int .i64 J1.x1)).set (p := ⟨g21, 1, none⟩) (by simp) (.int .i64 J1.y1)).set (p := ⟨g21, 2, none⟩) (by simp) (.int .i64 J1.x2)).set (p := ⟨g21, 3, none⟩) (by simp) (.int .i64 J1.y2))
                clear RZ4 RA4 OA4
                go_wp2_with fail
                go_roundw
                case rel => exact ⟨k + 1, by omega, by omega, by go_num, by rw [HJ.out]; exact Lib.hid ⟨RAN.out, OAN.out⟩⟩
                case measure => simp [intOf]; omega
            · obtain rfl : k = xs.length := by omega
              have g1 : ¬ ((xs.length : Int) < (xs.length : Int)) := by omega
              obtain ⟨n9, hn9⟩ : ∃ n9, qs.length = n9 + 1 := ⟨qs.length - 1, by have := F3.out; omega⟩
              have hlq : n9 < qs.length := by omega
              have hJq : qs[n9] = allK xs xs.length := by have f4 := F4.out; have f3 := F3.out; rw [show ns.length - 1 = n9 by omega, List.getElem?_eq_getElem hlq] at f4; exact Option.some.inj f4
              obtain ⟨A', c', he, _, _, hr⟩ := pBoxs_open (RB1.out.only OA hnB)
              cases he
              obtain ⟨b9, off9, rfl, hb9, _, q0, q1, q2, q3, -⟩ := hr n9 hlq
              rw [hJq] at q0 q1 q2 q3
              have c0 := RA.c0
              have c1 := RA.c1
              have c2 := RA.c2
              have c3 := RA.c3
              replace BB := Lib.hid (BB.out.trans (OA.below (B := w.heap.size) (by omega) (by simpa using hwG)))
              clear hr hJq RA REP RB1 OA hnB hnL
              generalize allK xs xs.length = J at q0 q1 q2 q3 c0 c1 c2 c3
              have kq : IntKind.i64.wrap ((qs.length : Int) - 1) = (n9 : Int) := by rw [hn9]; have := FB.out; rw [IntWalk.i64_in _ (by omega)]; omega
              have g9 : (n9 : Int) < (qs.length : Int) := by omega
              have gz : (0 < qs.length) = True := eq_true (by omega)
              have gd : (1 ≤ depthR xs ns) = True := eq_true f6
              have ge : (depthR xs ns ≤ (xs.length : Int)) = True := eq_true f7
              have gl : (((leavesR xs ns).length : Int) == (xs.length : Int)) = true := by rw [F5.out]; simp
              have hq := fun w => box_eql J w
              clear hn9 f1 f2 f6 f7 hk h1k g0
              go_upto_region 39 with fail
              have hS : (fun w' : World => w'.cell? ⟨g21, 0, none⟩ = some (.int .i64 J.x1) ∧ w'.cell? ⟨g21, 1, none⟩ = some (.int .i64 J.y1) ∧ w'.cell? ⟨g21, 2, none⟩ = some (.int .i64 J.x2) ∧ w'.cell? ⟨g21, 3, none⟩ = some (.int .i64 J.y2) ∧ w'.cell? ⟨b9, off9 + n9 * 4, none⟩ = some (.int .i64 J.x1) ∧ w'.cell? ⟨b9, off9 + n9 * 4 + 1, none⟩ = some (.int .i64 J.y1) ∧ w'.cell? ⟨b9, off9 + n9 * 4 + 2, none⟩ = some (.int .i64 J.x2) ∧ w'.cell? ⟨b9, off9 + n9 * 4 + 3, none⟩ = some (.int .i64 J.y2)) wr.drew := ⟨c0, c1, c2, c3, q0, q1, q2, q3⟩
              dsimp only at hS
              refine wp_region_held_drew (S := (fun w' : World => w'.cell? ⟨g21, 0, none⟩ = some (.int .i64 J.x1) ∧ w'.cell? ⟨g21, 1, none⟩ = some (.int .i64 J.y1) ∧ w'.cell? ⟨g21, 2, none⟩ = some (.int .i64 J.x2) ∧ w'.cell? ⟨g21, 3, none⟩ = some (.int .i64 J.y2) ∧ w'.cell? ⟨b9, off9 + n9 * 4, none⟩ = some (.int .i64 J.x1) ∧ w'.cell? ⟨b9, off9 + n9 * 4 + 1, none⟩ = some (.int .i64 J.y1) ∧ w'.cell? ⟨b9, off9 + n9 * 4 + 2, none⟩ = some (.int .i64 J.x2) ∧ w'.cell? ⟨b9, off9 + n9 * 4 + 3, none⟩ = some (.int .i64 J.y2))) (by kernel_rfl) hS (fun _ => ?_)
              refine tJ 0 hS ?_
              refine tJ 1 hS ?_
              refine tJ 2 hS ?_
              refine tJ 3 hS ?_
              refine tJ 4 hS ?_
              refine tJ 5 hS ?_
              refine tJ 6 hS ?_
              refine tJ 7 hS ?_
              refine tJ 8 hS ?_
              refine tJ 9 hS ?_
              refine tJ 10 hS ?_
              refine tJ 11 hS ?_
              refine tJ 12 hS ?_
              refine tJ 13 hS ?_
              refine tJ 14 hS ?_
              refine tJ 15 hS ?_
              refine tJ 16 hS ?_
              refine tJ 17 hS ?_
              refine tJ 18 hS ?_
              refine tJ 19 hS ?_
              refine tJ 20 hS ?_
              refine tJ 21 hS ?_
              refine tJ 22 hS ?_
              refine tJ 23 hS ?_
              refine tJ 24 hS ?_
              refine tJ 25 hS ?_
              refine tJ 26 hS ?_
              refine tJ 27 hS ?_
              refine tJ 28 hS ?_
              refine tJ 29 hS ?_
              refine tJ 30 hS ?_
              refine wpAnyH_done (by kernel_rfl) ?_ _
              clear hS
              go_wp2_with fail
              go_ret
              exact ⟨by simp, BB.out.drew⟩
         · have y5 : (askF xs ns != 0) = true := by simp [ka]
           go_wp2_with fail
           go_ret
           exact ⟨rfl, BB.out⟩
end Go.Proofs.Ytmopioaojdlnkaa
