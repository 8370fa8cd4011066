/- The program tells the best tree and the number of trees. Conditions: none. -/
import Derived.Test.YtmopioaojdlnkaaTkt
import Derived.Test.YtmopioaojdlnkaaPtJt
import Derived.Test.YtmopioaojdlnkaaPsMt
import Derived.Test.YtmopioaojdlnkaaStrSt
import Derived.Test.YtmopioaojdlnkaaRowt
import Derived.Laws.BitsLemmas
import Derived.Test.YtmopioaojdlnkaaSymst
namespace Go.Proofs.Ytmopioaojdlnkaa
open Go Go.RowKit
section
variable {xs : List PSymbol} {N : Nat}
theorem all_waysI {K : Nat → RC} (g : Grd xs N) (hk : RcOk xs (fixK K) N) : (K (N - 1)).ways = (manyT xs : Int) := by
 have := all_ways g hk
 rwa [(fixK_eq K (N - 1)).2.1] at this
theorem all_costI {K : Nat → RC} (g : Grd xs N) (hk : RcOk xs (fixK K) N) (h : manyT xs ≠ 0) : (K (N - 1)).cost = leastT xs := by
 have := all_cost g hk h
 rwa [(fixK_eq K (N - 1)).2.2] at this
end
set_option maxRecDepth 100000 in
set_option maxHeartbeats 4000000 in
theorem impl_ParseSymbols_c {e : TypeId} {ob : Bool} {xs : List PSymbol} {vl : Value} {Fl : List Nat} (w : World) (h : (pSymbols e).rep ob w xs [vl] Fl) (hx : xs.length ≤ 1048576) (hsz : ∀ c ∈ xs, c.label.size ≤ 1048576) :
 Calls Try.prog 7 #[vl] w (GivesT (parseN xs) (parseL xs) (parseC xs) w) := by
 have RT := Row.new w 28 #[.slice none 0 0]
 have CV := Lib.hid (impl_ValidSymbols_c _ (h.alloc (.cells #[.slice none 0 0] 28)) hx hsz)
 have HA := Lib.hid (h.alloc (.cells #[.slice none 0 0] 28))
 have B0 : Below w.heap.size w (w.alloc (.cells #[.slice none 0 0] 28)) := (Below.refl _ _).alloc (Nat.le_refl _) _
 have hFl : ∀ b ∈ Fl, b < w.heap.size := fun b hb => (pSymbols e).lt h b hb
 obtain ⟨A, c, rfl⟩ := slice_len h
 clear h
 cases hok : symsOkB xs with
 | false =>
   rw [hok] at CV
   have hC : parseC xs = 1 := by unfold parseC; rw [hok]; rfl
   have HC : Hid (parseN xs = [] ∧ parseL xs = 0) := Lib.hid ⟨by unfold parseN; rw [hC]; rfl, by unfold parseL; rw [hC]; rfl⟩
   rw [hC]
   clear hok hC
   go_enter Try.func7, Try.ntmps7
   go_wp2_with fail
   refine CV.out.mono ?_
   rintro en w1 ⟨rfl, b1⟩
   replace RT := RT.later b1
   have t0 := RT.c0
   have tF := RT.frozen
   have R2 := RT.set 0 (.slice none 0 0)
   have d0 := R2.c0
   go_wp2_with fail
   refine bodyPost_ret (v := .tuple #[.agg #[.slice none 0 0], .int .i64 0, .int .i64 1]) (by simp [results, Try.results7, go_sem, d0]) rfl ⟨_, [], by rw [HC.out.2], by rw [HC.out.1]; exact slice_nil _ _ _ _, Fresh.nil _, ?_⟩
   exact (B0.trans (b1.mono B0.size)).setCell (Nat.le_refl _) _
 | true =>
   rw [hok] at CV
   have g := grd_of hok
   have hN := g.le
   have HO := Lib.hid hok
   obtain ⟨N, hNe⟩ : ∃ N, 2 ^ xs.length = N := ⟨_, rfl⟩
   rw [hNe] at g hN
   have hN1 : 1 ≤ N := by rw [← hNe]; exact Nat.one_le_two_pow
   have G := Lib.hid g
   clear hok g hNe
   go_enter Try.func7, Try.ntmps7
   go_wp2_with fail
   refine CV.out.mono ?_
   rintro en w1 ⟨rfl, b1⟩
   replace RT := RT.later b1
   have B1 := B0.trans (b1.mono B0.size)
   have hs0 : w.heap.size + 1 ≤ w1.heap.size := by have := b1.size; simpa using this
   have CF := Lib.hid (impl_solved_c w1 (HA.out.below b1) G.out)
   go_wp2_with fail
   refine CF.out.mono ?_
   rintro en w2 ⟨gp, gb, gt, gn, K, rfl, hpr, hk, hK0, b2, l1, l2, l3, l4⟩
   replace RT := RT.later b2
   have B2 := B1.trans (b2.mono B1.size)
   have hway := all_waysI G.out hk
   have HPR := Lib.hid hpr
   have HK := Lib.hid hk
   have p3 := hpr.row.c3
   have n1 := hpr.nCell (s := N - 1) (by omega)
   obtain ⟨-, -, -, -, m4⟩ := hpr.bestCell (s := N - 1) (by omega)
   rw [hway] at n1
   have kw : IntKind.i64.wrap ((N : Int) - 1) = ((N - 1 : Nat) : Int) := by rw [IntWalk.i64_in _ (by omega)]; omega
   have hs1 := B1.size
   have hs2 := b2.size
   have q1 := hpr.row.lt
   have q2 := hpr.boxes.lt
   have q3 := hpr.best.lt
   have q4 := hpr.count.lt
   clear hway hpr hk hK0
   have i1 : (0 : Int) ≤ ((N - 1 : Nat) : Int) := by omega
   have i2 : ((N - 1 : Nat) : Int) < (N : Int) := by omega
   by_cases hm : manyT xs = 0
   · have hC : parseC xs = 6 := by unfold parseC; rw [HO.out, if_pos rfl, if_pos hm]
     have HC : Hid (parseN xs = [] ∧ parseL xs = 0 ∧ parseC xs = 6) := Lib.hid ⟨by unfold parseN; rw [hC]; rfl, by unfold parseL; rw [hC]; rfl, hC⟩
     rw [hm] at n1
     clear hC hm
     obtain ⟨M, hM⟩ : ∃ M, N - 1 = M := ⟨_, rfl⟩
     rw [hM] at kw n1 m4 i1 i2
     have t0 := RT.c0
     have tF := RT.frozen
     have R2 := RT.set 0 (.slice none 0 0)
     have d0 := R2.c0
     clear hM
     go_wp2_with fail
     refine bodyPost_ret (v := .tuple #[.agg #[.slice none 0 0], .int .i64 0, .int .i64 6]) (by simp [results, Try.results7, go_sem, d0]) rfl ⟨_, [], by rw [HC.out.2.1, HC.out.2.2], by rw [HC.out.1]; exact slice_nil _ _ _ _, Fresh.nil _, ?_⟩
     exact B2.setCell (Nat.le_refl _) _
   · have hC : parseC xs = 0 := by unfold parseC; rw [HO.out, if_pos rfl, if_neg hm]
     have HC : Hid (parseN xs = bestT xs ∧ parseL xs = leastT xs ∧ parseC xs = 0) := Lib.hid ⟨by unfold parseN; rw [hC]; rfl, by unfold parseL; rw [hC]; rfl, hC⟩
     obtain ⟨n1', n2, n3⟩ := all_ne G.out hm
     have hcost := all_costI G.out HK.out hm
     rw [hcost] at m4
     have y1 : ((manyT xs : Int) == 0) = false := by simp only [beq_eq_false_iff_ne]; omega
     have hbest : bestT xs = (treeAt xs (N - 1)).nodes 0 := by unfold bestT; rw [G.out.size]
     have hts := treeAt_sz G.out.few n1' (by rw [← G.out.size]; exact n2) n3
     have HB := Lib.hid hbest
     have RB := Row.new w2 28 #[.slice none 0 0]
     have CT := impl_build_c (e := e) (ob := ob) (vl := .slice A xs.length c) (Fl := Fl) (gp := gp) (gb := gb) (gt := gt) (gn := gn) (B := w2.heap.size + 1) (tb := w2.heap.size) G.out HK.out (fun x hx => by simp only [List.mem_cons, List.not_mem_nil, or_false] at hx; omega) (by omega) (fun hb => by have := hFl _ hb; omega) (fun b hb => by have := hFl b hb; omega) (N - 1) n1' n2 n3 [] (.slice none 0 0) [] _ (HPR.out.alloc (.cells #[.slice none 0 0] 28)) RB (slice_nil _ _ _ _) (Fresh.nil _) (by simp) (by simp; omega)
     have HCT := Lib.hid CT
     obtain ⟨M, hM⟩ : ∃ M, N - 1 = M := ⟨_, rfl⟩
     rw [hM] at kw n1 m4 i1 i2 HCT HB n2
     clear hC hm hcost hbest RB CT hM n1' n3 hts
     go_wp2_with fail
     refine HCT.out.mono ?_
     rintro en w3 ⟨rfl, v3, F3, RB3, r3, o3, q5, z3⟩
     have b3 : Below w2.heap.size w2 w3 := ((Below.refl w2.heap.size w2).alloc (Nat.le_refl _) (.cells #[.slice none 0 0] 28)).trans (o3.below (by simp) (by simp))
     replace m4 : w3.cell? ⟨gt, M * 5 + 4, none⟩ = some (.int .i64 (leastT xs)) := (b3.cell (p := ⟨gt, _, none⟩) q3).trans m4
     have p2 := (HPR.out.row.later b3).c2
     have R3 := Lib.hid r3
     have F3' := Lib.hid (q5 (w2.heap.size + 1) (Fresh.nil _) (by simp))
     replace RT := RT.later b3
     have B3 := B2.trans (b3.mono B2.size)
     clear o3 q5 z3 n1 p3
     obtain ⟨A3, n3, c3, rfl⟩ : ∃ A n c, v3 = .slice A n c := by
      obtain ⟨A, c, h⟩ := slice_len r3
      exact ⟨_, _, _, h⟩
     clear r3
     have gne : gp ≠ w.heap.size := by omega
     have cne : gt ≠ w.heap.size := by omega
     have tne : w2.heap.size ≠ w.heap.size := by omega
     have t0 := RT.c0
     have tF := RT.frozen
     have tc := RB3.c0
     go_upto_region 9 with fail
     have hS : (fun w' : World => w'.cell? ⟨w2.heap.size, 0, none⟩ = some (.slice A3 n3 c3) ∧ w'.cell? ⟨gp, 2, none⟩ = some (.slice (some ⟨gt, 0, none⟩) N N) ∧ w'.cell? ⟨gt, M * 5 + 4, none⟩ = some (.int .i64 (leastT xs))) w3.drew := ⟨tc, p2, m4⟩
     dsimp only at hS
     refine wp_region_held_drew (S := (fun w' : World => w'.cell? ⟨w2.heap.size, 0, none⟩ = some (.slice A3 n3 c3) ∧ w'.cell? ⟨gp, 2, none⟩ = some (.slice (some ⟨gt, 0, none⟩) N N) ∧ w'.cell? ⟨gt, M * 5 + 4, none⟩ = some (.int .i64 (leastT xs)))) (by kernel_rfl) hS (fun _ => ?_)
     refine tJ 0 hS ?_
     refine tJ 1 hS ?_
     refine tJ 2 hS ?_
     refine tJ 3 hS ?_
     refine tJ 4 hS ?_
     refine tJ 5 hS ?_
     refine tJ 6 hS ?_
     refine tJ 7 hS ?_
     refine tJ 8 hS ?_
     refine rJ 9 fun K hK => ?_
     go_simp
     refine hK.out _ _ ?_ (fun hHeld => ?_)
     · exact ⟨(cell_far1 tne _).trans tc, (cell_far1 gne _).trans p2, (cell_far1 cne _).trans m4⟩
     clear hK K hHeld
     replace hS : (fun w' : World => w'.cell? ⟨w2.heap.size, 0, none⟩ = some (.slice A3 n3 c3) ∧ w'.cell? ⟨gp, 2, none⟩ = some (.slice (some ⟨gt, 0, none⟩) N N) ∧ w'.cell? ⟨gt, M * 5 + 4, none⟩ = some (.int .i64 (leastT xs))) ((w3.drew).setCell ⟨w.heap.size, 0, none⟩ (.slice A3 n3 c3)) := ⟨(cell_far1 tne _).trans tc, (cell_far1 gne _).trans p2, (cell_far1 cne _).trans m4⟩
     refine tJ 10 hS ?_
     refine tJ 11 hS ?_
     refine wpAnyH_done (by kernel_rfl) ?_ _
     have R4 := RT.set 0 (.slice A3 n3 c3)
     have d0 := R4.c0
     clear hS p2 m4 t0 tF tc
     go_wp2_with fail
     refine bodyPost_ret (v := .tuple #[.agg #[.slice A3 n3 c3], .int .i64 (leastT xs), .int .i64 0]) (by simp [results, Try.results7, go_sem, d0]) rfl ⟨_, F3, by rw [HC.out.2.1, HC.out.2.2], ?_, F3'.out.mono (by omega), (B3.setCell (Nat.le_refl _) _).drew⟩
     rw [HC.out.1, HB.out]
     exact (R3.out.setCell (fun hb => by have := F3'.out.2 _ hb; simp at this; omega) _).drew
set_option maxRecDepth 100000 in
set_option maxHeartbeats 4000000 in
theorem impl_CountTrees_c {e : TypeId} {ob : Bool} {xs : List PSymbol} {vl : Value} {Fl : List Nat} (w : World) (h : (pSymbols e).rep ob w xs [vl] Fl) (hx : xs.length ≤ 1048576) (hsz : ∀ c ∈ xs, c.label.size ≤ 1048576) :
 Calls Try.prog 9 #[vl] w fun en w' => en = .returned (.tuple #[.int .i64 (countN xs), .int .i64 (countC xs)]) ∧ Below w.heap.size w w' := by
 have CV := Lib.hid (impl_ValidSymbols_c _ h hx hsz)
 have HA := Lib.hid h
 obtain ⟨A, c, rfl⟩ := slice_len h
 clear h
 cases hok : symsOkB xs with
 | false =>
   rw [hok] at CV
   have hC : countC xs = 1 ∧ countN xs = 0 := by unfold countC countN; rw [hok]; exact ⟨rfl, rfl⟩
   rw [hC.1, hC.2]
   clear hok hC
   go_enter Try.func9, Try.ntmps9
   go_wp2_with fail
   refine CV.out.mono ?_
   rintro en w1 ⟨rfl, b1⟩
   go_wp2_with fail
   refine bodyPost_ret (v := .tuple #[.int .i64 0, .int .i64 1]) (by simp [results, Try.results9, go_sem]) rfl ⟨rfl, b1⟩
 | true =>
   rw [hok] at CV
   have g := grd_of hok
   have hN := g.le
   have hC : countC xs = 0 ∧ countN xs = (manyT xs : Int) := by unfold countC countN; rw [hok]; exact ⟨rfl, rfl⟩
   rw [hC.1, hC.2]
   obtain ⟨N, hNe⟩ : ∃ N, 2 ^ xs.length = N := ⟨_, rfl⟩
   rw [hNe] at g hN
   have hN1 : 1 ≤ N := by rw [← hNe]; exact Nat.one_le_two_pow
   have G := Lib.hid g
   clear hok g hNe hC
   go_enter Try.func9, Try.ntmps9
   go_wp2_with fail
   refine CV.out.mono ?_
   rintro en w1 ⟨rfl, b1⟩
   have CF := Lib.hid (impl_solved_c w1 (HA.out.below b1) G.out)
   go_wp2_with fail
   refine CF.out.mono ?_
   rintro en w2 ⟨gp, gb, gt, gn, K, rfl, hpr, hk, hK0, b2, l1, l2, l3, l4⟩
   have B2 := b1.trans (b2.mono b1.size)
   have hway := all_waysI G.out hk
   have p3 := hpr.row.c3
   have n1 := hpr.nCell (s := N - 1) (by omega)
   rw [hway] at n1
   have kw : IntKind.i64.wrap ((N : Int) - 1) = ((N - 1 : Nat) : Int) := by rw [IntWalk.i64_in _ (by omega)]; omega
   clear hway hpr hk hK0
   have i1 : (0 : Int) ≤ ((N - 1 : Nat) : Int) := by omega
   have i2 : ((N - 1 : Nat) : Int) < (N : Int) := by omega
   obtain ⟨M, hM⟩ : ∃ M, N - 1 = M := ⟨_, rfl⟩
   rw [hM] at kw n1 i1 i2
   clear hM
   go_wp2_with fail
   go_quiet (fail)
   go_wp2_with fail
   refine bodyPost_ret (v := .tuple #[.int .i64 (manyT xs : Int), .int .i64 0]) (by simp [results, Try.results9, go_sem]) rfl ⟨rfl, below_drewN B2 nq⟩
theorem u64w (x : Int) : 0 ≤ IntKind.u64.wrap x ∧ IntKind.u64.wrap x < 18446744073709551616 := by
 rw [IntKind.wrap_u64]; omega
theorem and255 (x : Int) (h0 : 0 ≤ x) (h1 : x < 9223372036854775808) : 0 ≤ bits .and .u64 x 255 ∧ bits .and .u64 x 255 ≤ 255 := by
 have h := bits_mask .u64 63 (by decide) (fun n h₀ h₁ => by rw [IntKind.wrap_u64]; omega) 8 (by decide) x (by omega) (by omega)
 have e : ((2 : Int) ^ 8 - 1) = 255 := by decide
 have e2 : ((2 : Int) ^ 8) = 256 := by decide
 rw [e, e2] at h
 rw [h]; omega
theorem w64 (x : Int) (h0 : 0 ≤ x) (h1 : x ≤ 255) : wrap64 x = x := by unfold wrap64; omega
theorem bytes_open {o : Bool} {w : World} {e : TypeId} {xs : List UInt8} {v : Value} {F : List Nat} (h : (byte.slice e).rep o w xs [v] F) :
 ∃ A c, v = .slice A xs.length c ∧ xs.length ≤ c ∧ c ≤ maxLen ∧ ∀ k (hk : k < xs.length), ∃ b off, A = some ⟨b, off, none⟩ ∧ b < w.heap.size ∧ b ∈ F ∧ w.cell? ⟨b, off + k, none⟩ = some (.int .u8 (xs[k].toNat : Int)) := by
 obtain ⟨A, c, hv, h1, h2, h3⟩ := slice_open h
 refine ⟨A, c, hv, h1, h2, fun k hk => ?_⟩
 obtain ⟨b, off, ck, Fk, hA, hb, hin, ⟨rfl, -, -⟩, _, hc⟩ := h3 k hk
 have h0 := hc 0 _ rfl
 rw [show k * byte.size + 0 = k from Nat.mul_one k] at h0
 exact ⟨b, off, hA, hb, hin, h0⟩
structure SrcIs (B g : Nat) (code : List UInt8) (m : Nat) (w : World) : Prop where
 few : code.length ≤ 4096
 low : g < B
 at_ : ∃ (e : TypeId) (v : Value) (F : List Nat) (i : Nat) (seed : Int), Row w g 100 [v, .int .i64 (i : Int), .int .u64 seed] ∧ (byte.slice e).rep false w code [v] F ∧ (∀ b ∈ F, b < B ∧ b ≠ g) ∧ i ≤ m ∧ 0 ≤ seed ∧ seed < 18446744073709551616
section
variable {B g m : Nat} {code : List UInt8} {w w' : World}
theorem SrcIs.below (h : SrcIs B g code m w) (hb : Below w.heap.size w w') : SrcIs B g code m w' := by
 obtain ⟨h0, h1, e, v, F, i, s, R, hr, hF, hi⟩ := h
 exact ⟨h0, h1, e, v, F, i, s, R.later hb, hr.below hb, hF, hi⟩
theorem SrcIs.only {G : List Nat} (h : SrcIs B g code m w) (ho : Only G w w') (hG : ∀ b ∈ G, B ≤ b) : SrcIs B g code m w' := by
 obtain ⟨h0, h1, e, v, F, i, s, R, hr, hF, hi⟩ := h
 refine ⟨h0, h1, e, v, F, i, s, (ho.block g R.lt (fun hin => by have := hG _ hin; omega)).trans R, hr.only ho (fun b hb hin => by have := hG _ hin; have := (hF b hb).1; omega), hF, hi⟩
theorem SrcIs.more (h : SrcIs B g code m w) {k : Nat} (hk : m ≤ k) : SrcIs B g code k w := by
 obtain ⟨h0, h1, e, v, F, i, s, R, hr, hF, hi, h2⟩ := h
 exact ⟨h0, h1, e, v, F, i, s, R, hr, hF, by omega, h2⟩
theorem SrcIs.lt (h : SrcIs B g code m w) : g < w.heap.size := by
 obtain ⟨h0, h1, e, v, F, i, s, R, _⟩ := h
 exact R.lt
end
theorem only_drewN {F : List Nat} {a b : World} (h : Only F a b) (n : Nat) : Only F a (b.drewN n) := ⟨h.os, h.tape, h.output, h.size, h.block⟩
theorem byte_kept {o : Bool} {w w' : World} {e : TypeId} {xs : List UInt8} {cs : List Value} {F : List Nat} (h : (byte.slice e).rep o w xs cs F) (hk : ∀ b ∈ F, w'.heap[b]? = w.heap[b]?) : (byte.slice e).rep o w' xs cs F := Ty.kept _ h hk
set_option maxRecDepth 100000 in
set_option maxHeartbeats 1000000 in
theorem src_next_c {B g m : Nat} {code : List UInt8} (w : World) (h : SrcIs B g code m w) (hm : m ≤ 1000000) :
 Calls Try.prog 77 #[.pointer (some ⟨g, 0, none⟩)] w fun e w' => (∃ r : Int, 0 ≤ r ∧ r ≤ 255 ∧ e = .returned (.int .i64 r)) ∧ SrcIs B g code (m + 1) w' ∧ Only [g] w w' := by
 obtain ⟨h0, h1, e, v, F, i, seed, R, hr, hF, hi, s0, s1⟩ := h
 have hr' := hr
 obtain ⟨A, c, rfl, hc1, hc2, ho⟩ := bytes_open hr
 have r0 := R.c0
 have r1 := R.c1
 have r2 := R.c2
 have rf := R.frozen
 have kw := IntWalk.i64_in ((i : Int) + 1) (by omega)
 clear hr
 by_cases hlt : i < code.length
 · obtain ⟨b, off, rfl, hbb, hbF, hcell⟩ := ho i hlt
   have g1 : (i : Int) < (code.length : Int) := by omega
   have g2 : (0 : Int) ≤ (i : Int) := by omega
   have g3 : (i : Int) + 1 ≤ (code.length : Int) := by omega
   clear ho
   go_enter Try.func77, Try.ntmps77
   go_wp2_with fail
   go_quiet (fail)
   obtain ⟨n1, rfl⟩ : ∃ n : Nat, n = nq := ⟨_, rfl⟩
   go_wp2_with fail
   go_quiet (fail)
   obtain ⟨n2, rfl⟩ : ∃ n : Nat, n = nq := ⟨_, rfl⟩
   go_wp2_with fail
   go_quiet (fail)
   obtain ⟨n3, rfl⟩ : ∃ n : Nat, n = nq := ⟨_, rfl⟩
   go_wp2_with fail
   have u8 : (code[i].toNat : Int) ≤ 255 := by have := code[i].toNat_lt; omega
   have hs := u64w (IntKind.u64.wrap (IntKind.u64.wrap (seed * 6364136223846793005) + IntKind.u64.wrap (wrap64 (code[i].toNat : Int))) + 1442695040888963407)
   go_ret
   refine ⟨⟨_, ?_, ?_, rfl⟩, ⟨h0, h1, e, _, F, i + 1, _, ((((R.drewN n1).drewN n2).set 1 (.int .i64 ((i : Int) + 1))).set 2 _).drewN n3, ?_, hF, by omega, hs.1, hs.2⟩, ?_⟩
   · show 0 ≤ wrap64 (code[i].toNat : Int); rw [w64 _ (by omega) u8]; omega
   · show wrap64 (code[i].toNat : Int) ≤ 255; rw [w64 _ (by omega) u8]; exact u8
   · exact byte_kept hr' (fun b hb => ((Below.heap_setCell _ ⟨g, 2, none⟩ _ b (hF b hb).2).trans (Below.heap_setCell _ ⟨g, 1, none⟩ _ b (hF b hb).2)))
   · exact only_drewN (((only_drewN (Only.refl [g] w) _).set (p := ⟨g, 1, none⟩) (by simp) _).set (p := ⟨g, 2, none⟩) (by simp) _) _
 · have g1 : ¬ ((i : Int) < (code.length : Int)) := by omega
   clear ho
   go_enter Try.func77, Try.ntmps77
   go_wp2_with fail
   go_quiet (fail)
   obtain ⟨n1, rfl⟩ : ∃ n : Nat, n = nq := ⟨_, rfl⟩
   go_wp2_with fail
   go_quiet (fail)
   obtain ⟨n3, rfl⟩ : ∃ n : Nat, n = nq := ⟨_, rfl⟩
   go_wp2_with fail
   have hs := u64w (IntKind.u64.wrap (IntKind.u64.wrap (seed * 6364136223846793005)) + 1442695040888963407)
   have hx : 0 ≤ IntKind.u64.wrap (IntKind.u64.wrap (IntKind.u64.wrap (seed * 6364136223846793005)) + 1442695040888963407) / 1099511627776 ∧ IntKind.u64.wrap (IntKind.u64.wrap (IntKind.u64.wrap (seed * 6364136223846793005)) + 1442695040888963407) / 1099511627776 < 9223372036854775808 := by omega
   have ha := and255 _ hx.1 hx.2
   go_ret
   refine ⟨⟨_, ?_, ?_, rfl⟩, ⟨h0, h1, e, _, F, i + 1, _, (((R.drewN n1).set 1 (.int .i64 ((i : Int) + 1))).set 2 _).drewN n3, ?_, hF, by omega, hs.1, hs.2⟩, ?_⟩
   · show 0 ≤ wrap64 _; rw [w64 _ ha.1 ha.2]; exact ha.1
   · show wrap64 _ ≤ 255; rw [w64 _ ha.1 ha.2]; exact ha.2
   · exact byte_kept hr' (fun b hb => ((Below.heap_setCell _ ⟨g, 2, none⟩ _ b (hF b hb).2).trans (Below.heap_setCell _ ⟨g, 1, none⟩ _ b (hF b hb).2)))
   · exact only_drewN (((only_drewN (Only.refl [g] w) _).set (p := ⟨g, 1, none⟩) (by simp) _).set (p := ⟨g, 2, none⟩) (by simp) _) _
set_option maxRecDepth 100000 in
set_option maxHeartbeats 1000000 in
theorem src_pick_c {B g m : Nat} {code : List UInt8} (w : World) (h : SrcIs B g code m w) (hm : m ≤ 1000000) (n : Int) (hn : n ≤ 200) :
 Calls Try.prog 56 #[.pointer (some ⟨g, 0, none⟩), .int .i64 n] w fun e w' => (∃ r : Int, 0 ≤ r ∧ (r = 0 ∨ r < n) ∧ e = .returned (.int .i64 r)) ∧ SrcIs B g code (m + 1) w' ∧ Only [g] w w' := by
 by_cases h1 : n ≤ 1
 · go_enter Try.func56, Try.ntmps56
   go_wp2_with fail
   go_ret
   exact ⟨⟨0, by omega, .inl rfl, rfl⟩, h.more (by omega), Only.refl _ _⟩
 · have h2 : ¬ 200 < n := by omega
   have H := Lib.hid (src_next_c w h hm)
   clear h
   go_enter Try.func56, Try.ntmps56
   go_wp2_with fail
   refine H.out.mono ?_
   rintro e w1 ⟨⟨r, r0, r1, rfl⟩, S, O⟩
   have hm1 := Int.emod_nonneg r (show n ≠ 0 by omega)
   have hm2 := Int.emod_lt_of_pos r (show 0 < n by omega)
   have ht : r.tmod n = r % n := Int.tmod_eq_emod_of_nonneg r0
   have nz : ¬ n = 0 := by omega
   have nz' : (n == 0) = false := by simpa using nz
   go_wp2_with fail
   go_ret
   refine ⟨⟨r % n, hm1, .inr hm2, ?_⟩, S, O⟩
   first | rfl | exact congrArg (fun x => Ending.returned (.int .i64 x)) (by rw [ht]) | exact congrArg (fun x => Ending.returned (.int .i64 x)) (by rw [ht]; exact IntWalk.i64_in _ (by omega))
set_option maxHeartbeats 1000000 in
theorem src_one_c {B g m : Nat} {code : List UInt8} (w : World) (h : SrcIs B g code m w) (hm : m ≤ 1000000) (n : Int) (hn : n ≤ 200) :
 Calls Try.prog 44 #[.pointer (some ⟨g, 0, none⟩), .int .i64 n] w fun e w' => (∃ b : Bool, e = .returned (.bool b)) ∧ SrcIs B g code (m + 1) w' ∧ Only [g] w w' := by
 have H := Lib.hid (src_pick_c w h hm n hn)
 clear h
 go_enter Try.func44, Try.ntmps44
 go_wp2_with fail
 refine H.out.mono ?_
 rintro e w1 ⟨⟨r, r0, r1, rfl⟩, S, O⟩
 go_wp2_with fail
 go_ret
 exact ⟨⟨_, rfl⟩, S, O⟩
set_option maxRecDepth 100000 in
set_option maxHeartbeats 1000000 in
theorem src_text_c {B g m : Nat} {code : List UInt8} {o : Bool} {e : TypeId} {xs : List ByteArray} {v : Value} {F : List Nat} (w : World) (h : SrcIs B g code m w) (hm : m ≤ 1000000) (hl : (strs e).rep o w xs [v] F) (hF : g ∉ F) (h1 : 1 ≤ xs.length) (h2 : xs.length ≤ 200) :
 Calls Try.prog 62 #[.pointer (some ⟨g, 0, none⟩), v] w fun e w' => (∃ t, t ∈ xs ∧ e = .returned (.string t)) ∧ SrcIs B g code (m + 1) w' ∧ Only [g] w w' := by
 have H := Lib.hid (src_pick_c w h hm (xs.length : Int) (by omega))
 have HL := Lib.hid hl
 obtain ⟨A, c, rfl⟩ := slice_len hl
 clear h hl
 go_enter Try.func62, Try.ntmps62
 go_wp2_with fail
 refine H.out.mono ?_
 rintro e w1 ⟨⟨r, r0, r1, rfl⟩, S, O⟩
 obtain ⟨k, rfl⟩ := Int.eq_ofNat_of_zero_le r0
 have hk : k < xs.length := by omega
 have hl2 := HL.out.only O (fun b hb hin => by simp at hin; subst hin; exact hF hb)
 obtain ⟨A', c', he, _, _, hr⟩ := strs_open hl2
 cases he
 obtain ⟨b, off, rfl, hbb, _, h0, _⟩ := hr k hk
 have g1 : (k : Int) < (xs.length : Int) := by omega
 clear hr hl2 r1
 go_wp2_with fail
 go_ret
 exact ⟨⟨_, List.getElem_mem hk, rfl⟩, S, O⟩
theorem SrcIs.alloc {B g m : Nat} {code : List UInt8} {w : World} (h : SrcIs B g code m w) (x : Obj) : SrcIs B g code m (w.alloc x) := h.below ((Below.refl _ _).alloc (Nat.le_refl _) x)
theorem l00From_c {e : TypeId} {code : List UInt8} {v : Value} {F : List Nat} (w : World) (h : (byte.slice e).rep false w code [v] F) (hc : code.length ≤ 4096) :
 Calls Try.prog 28 #[v] w fun e' w' => e' = .returned (.pointer (some ⟨w.heap.size, 0, none⟩)) ∧ SrcIs (w.heap.size + 1) w.heap.size code 0 w' ∧ Below w.heap.size w w' := by
 have HF := Lib.hid (Ty.lt _ h)
 obtain ⟨A, c, rfl⟩ := slice_len h
 have R := Row.new w 100 #[.slice A code.length c, .int .i64 0, .int .u64 0]
 have HR := Lib.hid (Ty.kept _ (w' := w.alloc (.cells #[.slice A code.length c, .int .i64 0, .int .u64 0] 100)) h (fun b hb => Below.heap_alloc w _ b (HF.out b hb)))
 clear h
 go_enter Try.func28, Try.ntmps28
 go_wp2_with fail
 go_ret
 exact ⟨rfl, ⟨hc, by omega, e, _, F, 0, 0, R, HR.out, fun b hb => by have := HF.out b hb; omega, by omega, by omega, by omega⟩, (Below.refl _ _).alloc (Nat.le_refl _) _⟩
theorem f6big_c {e : TypeId} {code : List UInt8} {v : Value} {F : List Nat} {w : World} (h : (byte.slice e).rep false w code [v] F) :
 Calls Try.prog 5 #[v] w fun e' w' => e' = .returned (.bool (decide (4096 < code.length))) ∧ w = w' := by
 obtain ⟨A, c, rfl⟩ := slice_len h
 clear h
 by_cases hb : 4096 < code.length
 · have g : (4096 : Int) < (code.length : Int) := by omega
   rw [decide_eq_true hb]
   go_enter Try.func5, Try.ntmps5
   go_wp2_with fail
   go_ret
   exact ⟨congrArg (fun b => Ending.returned (.bool b)) (by simp), rfl⟩
 · have g : ¬ ((4096 : Int) < (code.length : Int)) := by omega
   rw [decide_eq_false hb]
   go_enter Try.func5, Try.ntmps5
   go_wp2_with fail
   go_ret
   exact ⟨congrArg (fun b => Ending.returned (.bool b)) (by simp), rfl⟩
end Go.Proofs.Ytmopioaojdlnkaa
