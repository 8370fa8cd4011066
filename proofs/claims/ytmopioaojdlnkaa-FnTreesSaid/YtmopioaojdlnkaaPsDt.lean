/- The reference's chart: try, of nodes over one another. Conditions: none. -/
import Derived.Test.YtmopioaojdlnkaaTkt
import Derived.Test.YtmopioaojdlnkaaPrH0t
import Derived.Test.YtmopioaojdlnkaaChk2t
import Derived.Test.YtmopioaojdlnkaaInt
import Derived.Deep.Cut
namespace Go.Proofs.Ytmopioaojdlnkaa
open Go Go.RowKit
set_option maxRecDepth 100000 in
set_option maxHeartbeats 4000000 in
theorem spec_tryO_c {e : TypeId} {o : Bool} {xs : List PSymbol} {vl : Value} {Fl : List Nat} {gp gc N : Nat} {K : Nat → RC} (s fi re : Nat) (sg : Int) (hre : re ≠ 0) (w : World) (h : Cht e o xs vl Fl gp gc N K w) (_hN : N ≤ 256) (hs : s < N) (hf : fi < N) (hr : re < N) (hfs : fi ≠ s) (hrs : re ≠ s) (hin : TryIn (K fi) (K re) (K s) (re : Int)) (SB : PBox) (hSB : boxIn SB) (js : Nat) (hjs : js < xs.length) (hsg : sg = (js : Int)) (hz : SB = boxOf xs[js]) :
 Calls Try.prog 86 #[.pointer (some ⟨gp, 0, none⟩), .int .i64 (s : Int), .int .i64 2, .int .i64 sg, .int .i64 (fi : Int), .int .i64 (re : Int)] w fun en w' => en = .returned (.tuple #[]) ∧ Only [gc] w w' ∧ Cht e o xs vl Fl gp gc N (updF K s (tryR (K fi) (K re) (K s) 2 sg (fi : Int) (re : Int) SB)) w' := by
 obtain ⟨A, hA⟩ : ∃ A, K fi = A := ⟨_, rfl⟩
 obtain ⟨B, hB⟩ : ∃ B, K re = B := ⟨_, rfl⟩
 obtain ⟨M, hM⟩ : ∃ M, K s = M := ⟨_, rfl⟩
 rw [hA, hB, hM] at hin ⊢
 obtain ⟨a0, a1, a2, a3, a4, a5, a6, a7, a8, a9⟩ := h.cell hf
 obtain ⟨b0, b1, b2, b3, b4, b5, b6, b7, b8, b9⟩ := h.cell hr
 rw [hA] at a0 a1 a2 a3 a4 a5 a6 a7 a8 a9
 rw [hB] at b0 b1 b2 b3 b4 b5 b6 b7 b8 b9
 have HM := Lib.hid hM
 have HIN := Lib.hid hin
 have HSB := Lib.hid hSB
 have p1 := h.row.c1
 have hgp := h.row.lt
 have hgc := h.cells.lt
 have hFl : ∀ b ∈ Fl, b < w.heap.size := fun b hb => (pSymbols e).lt h.syms b hb
 have i1 : (0 : Int) ≤ (fi : Int) := by omega
 have i2 : (fi : Int) < (N : Int) := by omega
 have i3 : (0 : Int) ≤ (re : Int) := by omega
 have i4 : (re : Int) < (N : Int) := by omega
 have i5 : (0 : Int) ≤ (s : Int) := by omega
 have i6 : (s : Int) < (N : Int) := by omega
 have hb : ((re : Int) != 0) = true := by simp [hre]
 have hw0 := hin.aw
 have hw1 := hin.pw
 have hww : waysR A B (re : Int) = A.ways * B.ways := by unfold waysR; rw [if_neg (by omega)]
 rw [hww] at hw1
 have ew := IntWalk.i64_in (A.ways * B.ways) (by omega)
 have HC := Lib.hid h
 have CL : Hid (∀ w : World, Calls Try.prog 40 #[.int .i64 2] w fun e w' => e = .returned (.string ⟨#[45]⟩) ∧ w' = w) := Lib.hid (by intro w; exact spec_l21Label_c 2 w)
 have CF := Lib.hid (fun w => spec_l21Fits_c 2 A.box B.box SB w (by omega) HIN.out.a HIN.out.b HSB.out)
 have CO := Lib.hid (fun w => spec_l21Own_c 2 A.box B.box SB w HIN.out.a HIN.out.b HSB.out)
 have own := ownF_small (k := 2) HIN.out.a HIN.out.b HSB.out
 have hco := hin.co
 rw [hww] at hco
 have hmw := hin.mw
 have HT0 := Lib.hid (fun (h : A.ways * B.ways = 0) => tryR_none (A := A) (B := B) (M := M) (kind := 2) (sign := sg) (first := (fi : Int)) (rest := (re : Int)) (SB := SB) (hww.trans h))
 have HT1 := Lib.hid (fun h => tryR_unfit (A := A) (B := B) (M := M) (kind := 2) (sign := sg) (first := (fi : Int)) (rest := (re : Int)) (SB := SB) h)
 have HT2 := Lib.hid (fun (h : A.ways * B.ways ≠ 0) h2 h3 => tryR_new (A := A) (B := B) (M := M) (kind := 2) (sign := sg) (first := (fi : Int)) (rest := (re : Int)) (SB := SB) (fun h' => h (hww.symm.trans h')) h2 h3)
 have HT3 := Lib.hid (fun (h : A.ways * B.ways ≠ 0) h2 h3 => tryR_old (A := A) (B := B) (M := M) (kind := 2) (sign := sg) (first := (fi : Int)) (rest := (re : Int)) (SB := SB) (fun h' => h (hww.symm.trans h')) h2 h3)
 rw [hww] at HT2 HT3
 generalize tryR A B M 2 sg (fi : Int) (re : Int) SB = T at HT0 HT1 HT2 HT3 ⊢
 generalize hfit : fitsF 2 A.box B.box SB = fit at CF HT1 HT2 HT3
 generalize ownF 2 A.box B.box SB = ow at CO HT2 HT3 own
 obtain ⟨s1, s2, s3, s4⟩ := SB
 (unfold boxOf at hz; rw [PBox.mk.injEq] at hz; obtain ⟨e1, e2, e3, e4⟩ := hz; subst hsg)
 have HRE := Lib.hid hre
 clear hre
 clear h hM hin hA hB hSB hfit hww HIN HSB
 go_enter Try.func86, Try.ntmps86
 go_wp2_with fail
 refine (CL.out _).mono ?_
 rintro en w1 ⟨rfl, rfl⟩
 have RA := ((Row.new w 72 #[.int .i64 A.box.x1, .int .i64 A.box.y1, .int .i64 A.box.x2, .int .i64 A.box.y2, .int .i64 A.ways, .int .i64 A.cost, .int .i64 A.kind, .int .i64 A.sign, .int .i64 A.first, .int .i64 A.rest]).alloc (.cells #[.int .i64 B.box.x1, .int .i64 B.box.y1, .int .i64 B.box.x2, .int .i64 B.box.y2, .int .i64 B.ways, .int .i64 B.cost, .int .i64 B.kind, .int .i64 B.sign, .int .i64 B.first, .int .i64 B.rest] 72)).alloc (.cells #[.int .i64 0, .int .i64 0, .int .i64 0, .int .i64 0] 48)
 have RB := (Row.new (w.alloc (.cells #[.int .i64 A.box.x1, .int .i64 A.box.y1, .int .i64 A.box.x2, .int .i64 A.box.y2, .int .i64 A.ways, .int .i64 A.cost, .int .i64 A.kind, .int .i64 A.sign, .int .i64 A.first, .int .i64 A.rest] 72)) 72 #[.int .i64 B.box.x1, .int .i64 B.box.y1, .int .i64 B.box.x2, .int .i64 B.box.y2, .int .i64 B.ways, .int .i64 B.cost, .int .i64 B.kind, .int .i64 B.sign, .int .i64 B.first, .int .i64 B.rest]).alloc (.cells #[.int .i64 0, .int .i64 0, .int .i64 0, .int .i64 0] 48)
 have RS := Row.new ((w.alloc (.cells #[.int .i64 A.box.x1, .int .i64 A.box.y1, .int .i64 A.box.x2, .int .i64 A.box.y2, .int .i64 A.ways, .int .i64 A.cost, .int .i64 A.kind, .int .i64 A.sign, .int .i64 A.first, .int .i64 A.rest] 72)).alloc (.cells #[.int .i64 B.box.x1, .int .i64 B.box.y1, .int .i64 B.box.x2, .int .i64 B.box.y2, .int .i64 B.ways, .int .i64 B.cost, .int .i64 B.kind, .int .i64 B.sign, .int .i64 B.first, .int .i64 B.rest] 72)) 48 #[.int .i64 0, .int .i64 0, .int .i64 0, .int .i64 0]
 have on : Only [gc] w (((w.alloc (.cells #[.int .i64 A.box.x1, .int .i64 A.box.y1, .int .i64 A.box.x2, .int .i64 A.box.y2, .int .i64 A.ways, .int .i64 A.cost, .int .i64 A.kind, .int .i64 A.sign, .int .i64 A.first, .int .i64 A.rest] 72)).alloc (.cells #[.int .i64 B.box.x1, .int .i64 B.box.y1, .int .i64 B.box.x2, .int .i64 B.box.y2, .int .i64 B.ways, .int .i64 B.cost, .int .i64 B.kind, .int .i64 B.sign, .int .i64 B.first, .int .i64 B.rest] 72)).alloc (.cells #[.int .i64 0, .int .i64 0, .int .i64 0, .int .i64 0] 48)) := Only.of_below ((((Below.refl _ _).alloc (Nat.le_refl _) _).alloc (by simp) _).alloc (by simp; omega) _)
 have h1 := ((HC.out.alloc (.cells #[.int .i64 A.box.x1, .int .i64 A.box.y1, .int .i64 A.box.x2, .int .i64 A.box.y2, .int .i64 A.ways, .int .i64 A.cost, .int .i64 A.kind, .int .i64 A.sign, .int .i64 A.first, .int .i64 A.rest] 72)).alloc (.cells #[.int .i64 B.box.x1, .int .i64 B.box.y1, .int .i64 B.box.x2, .int .i64 B.box.y2, .int .i64 B.ways, .int .i64 B.cost, .int .i64 B.kind, .int .i64 B.sign, .int .i64 B.first, .int .i64 B.rest] 72)).alloc (.cells #[.int .i64 0, .int .i64 0, .int .i64 0, .int .i64 0] 48)
 simp only [World.size_alloc] at RB RS
 generalize ((w.alloc (.cells #[.int .i64 A.box.x1, .int .i64 A.box.y1, .int .i64 A.box.x2, .int .i64 A.box.y2, .int .i64 A.ways, .int .i64 A.cost, .int .i64 A.kind, .int .i64 A.sign, .int .i64 A.first, .int .i64 A.rest] 72)).alloc (.cells #[.int .i64 B.box.x1, .int .i64 B.box.y1, .int .i64 B.box.x2, .int .i64 B.box.y2, .int .i64 B.ways, .int .i64 B.cost, .int .i64 B.kind, .int .i64 B.sign, .int .i64 B.first, .int .i64 B.rest] 72)).alloc (.cells #[.int .i64 0, .int .i64 0, .int .i64 0, .int .i64 0] 48) = w2 at RA RB RS on h1 ⊢
 clear HC a0 a1 a2 a3 a4 a5 a6 a7 a8 a9 b0 b1 b2 b3 b4 b5 b6 b7 b8 b9 p1
 obtain ⟨AL, cl, hvl, _, _, hsy⟩ := pSymbols_open h1.syms
 subst hvl
 obtain ⟨bl, ol, hAL, hbl, hblF, z0, z1, z2, z3, z4, _⟩ := hsy js hjs
 subst hAL
 rw [← e1] at z1
 rw [← e2] at z2
 rw [← e3] at z3
 rw [← e4] at z4
 clear e1 e2 e3 e4
 have p0 := h1.row.c0
 have j1 : (0 : Int) ≤ (js : Int) := by omega
 have j2 : (js : Int) < (xs.length : Int) := by omega
 have k0 := RS.c0
 have k1 := RS.c1
 have k2 := RS.c2
 have k3 := RS.c3
 have kF := RS.frozen
 clear hsy
 go_upto_region 8 with fail
 replace RA := RA.far4 (t := w.heap.size + 1 + 1) (by omega) (.int .i64 s1) (.int .i64 s2) (.int .i64 s3) (.int .i64 s4)
 replace RB := RB.far4 (t := w.heap.size + 1 + 1) (by omega) (.int .i64 s1) (.int .i64 s2) (.int .i64 s3) (.int .i64 s4)
 replace RS := four_cells RS rfl (.int .i64 s1) (.int .i64 s2) (.int .i64 s3) (.int .i64 s4)
 have hbF : w.heap.size + 1 + 1 ∉ Fl := fun hb => by have := hFl _ hb; omega
 replace h1 := (((h1.far (p := ⟨w.heap.size + 1 + 1, 0, none⟩) (by show gp ≠ w.heap.size + 1 + 1; omega) (by show gc ≠ w.heap.size + 1 + 1; omega) hbF (.int .i64 s1)).far (p := ⟨w.heap.size + 1 + 1, 1, none⟩) (by show gp ≠ w.heap.size + 1 + 1; omega) (by show gc ≠ w.heap.size + 1 + 1; omega) hbF (.int .i64 s2)).far (p := ⟨w.heap.size + 1 + 1, 2, none⟩) (by show gp ≠ w.heap.size + 1 + 1; omega) (by show gc ≠ w.heap.size + 1 + 1; omega) hbF (.int .i64 s3)).far (p := ⟨w.heap.size + 1 + 1, 3, none⟩) (by show gp ≠ w.heap.size + 1 + 1; omega) (by show gc ≠ w.heap.size + 1 + 1; omega) hbF (.int .i64 s4)
 replace on := (((on.set_new (p := ⟨w.heap.size + 1 + 1, 0, none⟩) (by show _ ≤ w.heap.size + 1 + 1; omega) (.int .i64 s1)).set_new (p := ⟨w.heap.size + 1 + 1, 1, none⟩) (by show _ ≤ w.heap.size + 1 + 1; omega) (.int .i64 s2)).set_new (p := ⟨w.heap.size + 1 + 1, 2, none⟩) (by show _ ≤ w.heap.size + 1 + 1; omega) (.int .i64 s3)).set_new (p := ⟨w.heap.size + 1 + 1, 3, none⟩) (by show _ ≤ w.heap.size + 1 + 1; omega) (.int .i64 s4)
 generalize (((w2.setCell ⟨w.heap.size + 1 + 1, 0, none⟩ (.int .i64 s1)).setCell ⟨w.heap.size + 1 + 1, 1, none⟩ (.int .i64 s2)).setCell ⟨w.heap.size + 1 + 1, 2, none⟩ (.int .i64 s3)).setCell ⟨w.heap.size + 1 + 1, 3, none⟩ (.int .i64 s4) = w2 at RA RB RS on h1 ⊢
 clear p0 k0 k1 k2 k3 kF z0 z1 z2 z3 z4
 by_cases hz : A.ways * B.ways = 0
 · have HZ := Lib.hid (HT0.out hz)
   have y0 : (A.ways * B.ways == 0) = true := by simpa using hz
   go_wp2_with fail
   refine bodyPost_ret (v := .tuple #[]) (by simp [results, Try.results86, go_sem]) rfl ⟨rfl, on, ?_⟩
   rw [HZ.out, ← HM.out, updF_id]
   exact h1
 have y0 : (A.ways * B.ways == 0) = false := by simpa using hz
 have hco' := hco hz
 have f0 := RA.c0
 have f1 := RA.c1
 have f2 := RA.c2
 have f3 := RA.c3
 have f5 := RA.c5
 have g0 := RB.c0
 have g1 := RB.c1
 have g2 := RB.c2
 have g3 := RB.c3
 have g5 := RB.c5
 have k0 := RS.c0
 have k1 := RS.c1
 have k2 := RS.c2
 have k3 := RS.c3
 go_wp2_with fail
 refine (CF.out _).mono ?_
 rintro en w3 ⟨rfl, b3⟩
 replace RA := RA.later b3
 replace RB := RB.later b3
 replace RS := RS.later b3
 replace h1 := h1.below b3
 replace on := on.trans (Only.of_below b3)
 clear f0 f1 f2 f3 f5 g0 g1 g2 g3 g5 k0 k1 k2 k3 b3
 cases fit with
 | false =>
   have HZ := Lib.hid (HT1.out rfl)
   go_wp2_with fail
   refine bodyPost_ret (v := .tuple #[]) (by simp [results, Try.results86, go_sem]) rfl ⟨rfl, on, ?_⟩
   rw [HZ.out, ← HM.out, updF_id]
   exact h1
 | true =>
   have p1 := h1.row.c1
   go_upto_region 10 with fail
   clear p1
   replace RA := RA.drew
   replace RB := RB.drew
   replace RS := RS.drew
   replace h1 := h1.drew
   replace on := on.trans (Only.of_below (Below.refl w3.heap.size w3).drew)
   have ec := IntWalk.i64_in (A.cost + B.cost) (by omega)
   have ec2 := IntWalk.i64_in (A.cost + B.cost + ow) (by omega)
   have hS : (fun w' : World => w'.cell? ⟨w.heap.size, 0, none⟩ = some (.int .i64 A.box.x1) ∧ w'.cell? ⟨w.heap.size, 1, none⟩ = some (.int .i64 A.box.y1) ∧ w'.cell? ⟨w.heap.size, 2, none⟩ = some (.int .i64 A.box.x2) ∧ w'.cell? ⟨w.heap.size, 3, none⟩ = some (.int .i64 A.box.y2) ∧ w'.cell? ⟨w.heap.size, 5, none⟩ = some (.int .i64 A.cost) ∧ w'.cell? ⟨w.heap.size + 1, 0, none⟩ = some (.int .i64 B.box.x1) ∧ w'.cell? ⟨w.heap.size + 1, 1, none⟩ = some (.int .i64 B.box.y1) ∧ w'.cell? ⟨w.heap.size + 1, 2, none⟩ = some (.int .i64 B.box.x2) ∧ w'.cell? ⟨w.heap.size + 1, 3, none⟩ = some (.int .i64 B.box.y2) ∧ w'.cell? ⟨w.heap.size + 1, 5, none⟩ = some (.int .i64 B.cost) ∧ w'.cell? ⟨w.heap.size + 1 + 1, 0, none⟩ = some (.int .i64 s1) ∧ w'.cell? ⟨w.heap.size + 1 + 1, 1, none⟩ = some (.int .i64 s2) ∧ w'.cell? ⟨w.heap.size + 1 + 1, 2, none⟩ = some (.int .i64 s3) ∧ w'.cell? ⟨w.heap.size + 1 + 1, 3, none⟩ = some (.int .i64 s4)) w3.drew := ⟨RA.c0, RA.c1, RA.c2, RA.c3, RA.c5, RB.c0, RB.c1, RB.c2, RB.c3, RB.c5, RS.c0, RS.c1, RS.c2, RS.c3⟩
   dsimp only at hS
   refine wp_region_held_drew (S := (fun w' : World => w'.cell? ⟨w.heap.size, 0, none⟩ = some (.int .i64 A.box.x1) ∧ w'.cell? ⟨w.heap.size, 1, none⟩ = some (.int .i64 A.box.y1) ∧ w'.cell? ⟨w.heap.size, 2, none⟩ = some (.int .i64 A.box.x2) ∧ w'.cell? ⟨w.heap.size, 3, none⟩ = some (.int .i64 A.box.y2) ∧ w'.cell? ⟨w.heap.size, 5, none⟩ = some (.int .i64 A.cost) ∧ w'.cell? ⟨w.heap.size + 1, 0, none⟩ = some (.int .i64 B.box.x1) ∧ w'.cell? ⟨w.heap.size + 1, 1, none⟩ = some (.int .i64 B.box.y1) ∧ w'.cell? ⟨w.heap.size + 1, 2, none⟩ = some (.int .i64 B.box.x2) ∧ w'.cell? ⟨w.heap.size + 1, 3, none⟩ = some (.int .i64 B.box.y2) ∧ w'.cell? ⟨w.heap.size + 1, 5, none⟩ = some (.int .i64 B.cost) ∧ w'.cell? ⟨w.heap.size + 1 + 1, 0, none⟩ = some (.int .i64 s1) ∧ w'.cell? ⟨w.heap.size + 1 + 1, 1, none⟩ = some (.int .i64 s2) ∧ w'.cell? ⟨w.heap.size + 1 + 1, 2, none⟩ = some (.int .i64 s3) ∧ w'.cell? ⟨w.heap.size + 1 + 1, 3, none⟩ = some (.int .i64 s4))) (by kernel_rfl) hS (fun _ => ?_)
   refine tJ 0 hS ?_
   refine tJ 1 hS ?_
   refine tJ 2 hS ?_
   refine tJ 3 hS ?_
   refine tJ 4 hS ?_
   refine tJ 5 hS ?_
   refine tJ 6 hS ?_
   refine tJ 7 hS ?_
   refine tJ 8 hS ?_
   refine tJ 9 hS ?_
   refine tJ 10 hS ?_
   refine rJ 11 fun K hK => ?_
   refine step_call 98 #[.tmp 75, .tmp 76, .tmp 78, .tmp 80] _ rfl rfl #[.int .i64 2, .agg #[.int .i64 s1, .int .i64 s2, .int .i64 s3, .int .i64 s4], .agg #[.int .i64 A.box.x1, .int .i64 A.box.y1, .int .i64 A.box.x2, .int .i64 A.box.y2], .agg #[.int .i64 B.box.x1, .int .i64 B.box.y1, .int .i64 B.box.x2, .int .i64 B.box.y2]] Try.call98 (by go_simp) (CO.out _) ?_
   rintro en w4 ⟨rfl, b4⟩
   refine ⟨_, rfl, ?_⟩
   replace RA := RA.later b4
   replace RB := RB.later b4
   replace RS := RS.later b4
   replace h1 := h1.below b4
   replace on := on.trans (Only.of_below b4)
   replace hS : (fun w' : World => w'.cell? ⟨w.heap.size, 0, none⟩ = some (.int .i64 A.box.x1) ∧ w'.cell? ⟨w.heap.size, 1, none⟩ = some (.int .i64 A.box.y1) ∧ w'.cell? ⟨w.heap.size, 2, none⟩ = some (.int .i64 A.box.x2) ∧ w'.cell? ⟨w.heap.size, 3, none⟩ = some (.int .i64 A.box.y2) ∧ w'.cell? ⟨w.heap.size, 5, none⟩ = some (.int .i64 A.cost) ∧ w'.cell? ⟨w.heap.size + 1, 0, none⟩ = some (.int .i64 B.box.x1) ∧ w'.cell? ⟨w.heap.size + 1, 1, none⟩ = some (.int .i64 B.box.y1) ∧ w'.cell? ⟨w.heap.size + 1, 2, none⟩ = some (.int .i64 B.box.x2) ∧ w'.cell? ⟨w.heap.size + 1, 3, none⟩ = some (.int .i64 B.box.y2) ∧ w'.cell? ⟨w.heap.size + 1, 5, none⟩ = some (.int .i64 B.cost) ∧ w'.cell? ⟨w.heap.size + 1 + 1, 0, none⟩ = some (.int .i64 s1) ∧ w'.cell? ⟨w.heap.size + 1 + 1, 1, none⟩ = some (.int .i64 s2) ∧ w'.cell? ⟨w.heap.size + 1 + 1, 2, none⟩ = some (.int .i64 s3) ∧ w'.cell? ⟨w.heap.size + 1 + 1, 3, none⟩ = some (.int .i64 s4)) w4 := ⟨RA.c0, RA.c1, RA.c2, RA.c3, RA.c5, RB.c0, RB.c1, RB.c2, RB.c3, RB.c5, RS.c0, RS.c1, RS.c2, RS.c3⟩
   dsimp only at hS
   refine bJ hK hS ?_
   clear hK K
   simp only [Act.put, pA, pB, pC]
   refine tJ 12 hS ?_
   refine tJ 13 hS ?_
   refine wpAnyH_done (by kernel_rfl) ?_ _
   clear hS b4
   have p1 := h1.row.c1
   obtain ⟨m0, m1, m2, m3, m4, m5, m6, m7, m8, m9⟩ := h1.cell hs
   rw [HM.out] at m0 m1 m2 m3 m4 m5 m6 m7 m8 m9
   have mF := h1.cells.frozen
   have eW := IntWalk.i64_in (M.ways + A.ways * B.ways) (by omega)
   clear RA RB RS CF CO CL HT0 HT1 own hco hFl
   by_cases hn : M.ways = 0 ∨ A.cost + B.cost + ow < M.cost
   · have HZ := Lib.hid (HT2.out hz (by simp) hn)
     clear HT2 HT3
     have q1 := h1.put hs (j := 5) (by decide) (.int .i64 (A.cost + B.cost + ow)) (a := { M with cost := A.cost + B.cost + ow }) (by rw [HM.out]; rfl)
     have q2 := q1.put hs (j := 6) (by decide) (.int .i64 2) (a := { M with cost := A.cost + B.cost + ow, kind := 2 }) (by rw [updF_same]; rfl)
     rw [updF_upd] at q2
     have q3 := q2.put hs (j := 7) (by decide) (.int .i64 (js : Int)) (a := { M with cost := A.cost + B.cost + ow, kind := 2, sign := (js : Int) }) (by rw [updF_same]; rfl)
     rw [updF_upd] at q3
     have q4 := q3.put hs (j := 8) (by decide) (.int .i64 (fi : Int)) (a := { M with cost := A.cost + B.cost + ow, kind := 2, sign := (js : Int), first := (fi : Int) }) (by rw [updF_same]; rfl)
     rw [updF_upd] at q4
     have q5 := q4.put hs (j := 9) (by decide) (.int .i64 (re : Int)) (a := { M with cost := A.cost + B.cost + ow, kind := 2, sign := (js : Int), first := (fi : Int), rest := (re : Int) }) (by rw [updF_same]; rfl)
     rw [updF_upd] at q5
     have q6 := q5.put hs (j := 4) (by decide) (.int .i64 (M.ways + A.ways * B.ways)) (a := { M with cost := A.cost + B.cost + ow, kind := 2, sign := (js : Int), first := (fi : Int), rest := (re : Int), ways := M.ways + A.ways * B.ways }) (by rw [updF_same]; rfl)
     rw [updF_upd] at q6
     have HQ := Lib.hid q6
     have HON := Lib.hid ((((((on.set (p := ⟨gc, s * 10 + 5, none⟩) (by simp) (.int .i64 (A.cost + B.cost + ow))).set (p := ⟨gc, s * 10 + 6, none⟩) (by simp) (.int .i64 2)).set (p := ⟨gc, s * 10 + 7, none⟩) (by simp) (.int .i64 (js : Int))).set (p := ⟨gc, s * 10 + 8, none⟩) (by simp) (.int .i64 (fi : Int))).set (p := ⟨gc, s * 10 + 9, none⟩) (by simp) (.int .i64 (re : Int))).set (p := ⟨gc, s * 10 + 4, none⟩) (by simp) (.int .i64 (M.ways + A.ways * B.ways)))
     clear q1 q2 q3 q4 q5 q6 h1 on
     rcases Classical.em (M.ways = 0) with hm | hm
     · have y1 : (M.ways == 0) = true := by simpa using hm
       clear hn hm
       go_wp2_with fail
       refine bodyPost_end (v := .tuple #[]) (by simp [results, Try.results86, go_sem]) rfl ⟨rfl, ?_, ?_⟩
       · exact HON.out
       · rw [HZ.out]; exact HQ.out
     · have y1 : (M.ways == 0) = false := by simpa using hm
       have y2 : A.cost + B.cost + ow < M.cost := by rcases hn with h | h; exact absurd h hm; exact h
       clear hn hm
       go_wp2_with fail
       refine bodyPost_end (v := .tuple #[]) (by simp [results, Try.results86, go_sem]) rfl ⟨rfl, ?_, ?_⟩
       · exact HON.out
       · rw [HZ.out]; exact HQ.out
   · have HZ := Lib.hid (HT3.out hz (by simp) hn)
     clear HT2 HT3
     have q1 := h1.put hs (j := 4) (by decide) (.int .i64 (M.ways + A.ways * B.ways)) (a := { M with ways := M.ways + A.ways * B.ways }) (by rw [HM.out]; rfl)
     have HQ := Lib.hid q1
     have HON := Lib.hid (on.set (p := ⟨gc, s * 10 + 4, none⟩) (by simp) (.int .i64 (M.ways + A.ways * B.ways)))
     have y1 : (M.ways == 0) = false := by simp only [beq_eq_false_iff_ne]; exact fun h => hn (.inl h)
     have y2 : ¬ A.cost + B.cost + ow < M.cost := fun h => hn (.inr h)
     clear hn q1 h1 on
     go_wp2_with fail
     refine bodyPost_end (v := .tuple #[]) (by simp [results, Try.results86, go_sem]) rfl ⟨rfl, ?_, ?_⟩
     · exact HON.out
     · rw [HZ.out]; exact HQ.out
end Go.Proofs.Ytmopioaojdlnkaa
