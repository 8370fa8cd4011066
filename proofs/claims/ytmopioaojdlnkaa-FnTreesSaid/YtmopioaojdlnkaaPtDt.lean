/- The program's parser: try. Conditions: none. -/
import Derived.Test.YtmopioaojdlnkaaTkt
import Derived.Test.YtmopioaojdlnkaaPsIt
import Derived.Test.YtmopioaojdlnkaaChk2t
import Derived.Deep.Cut
namespace Go.Proofs.Ytmopioaojdlnkaa
open Go Go.RowKit
set_option maxRecDepth 100000 in
set_option maxHeartbeats 8000000 in
theorem impl_tryOne_c {e : TypeId} {o : Bool} {xs : List PSymbol} {vl : Value} {Fl : List Nat} {gp gb gt gn N : Nat} {K : Nat → RC} (s fi re : Nat) (kind sg c0 : Int) (hre : re = 0) (w : World) (h : Prs e o xs vl Fl gp gb gt gn N K w) (hN : N ≤ 256) (hs : s < N) (hf : fi < N) (hr : re < N) (hin : TryIn (K fi) (K re) (K s) (re : Int)) (SB : PBox) (hSB : boxIn SB) :
 Calls Try.prog 70 #[.pointer (some ⟨gp, 0, none⟩), .int .i64 (s : Int), .agg #[.int .i64 kind, .int .i64 sg, .int .i64 (fi : Int), .int .i64 (re : Int), .int .i64 c0], .agg #[.int .i64 SB.x1, .int .i64 SB.y1, .int .i64 SB.x2, .int .i64 SB.y2]] w fun en w' => en = .returned (.tuple #[]) ∧ Only [gt, gn] w w' ∧ Prs e o xs vl Fl gp gb gt gn N (updF K s (tryI (K fi) (K re) (K s) kind sg (fi : Int) (re : Int) SB)) w' := by
 obtain ⟨A, hA⟩ : ∃ A, K fi = A := ⟨_, rfl⟩
 obtain ⟨B, hB⟩ : ∃ B, K re = B := ⟨_, rfl⟩
 obtain ⟨M, hM⟩ : ∃ M, K s = M := ⟨_, rfl⟩
 rw [hA, hB, hM] at hin ⊢
 have HA := Lib.hid hA
 have HB := Lib.hid hB
 have HM := Lib.hid hM
 have HIN := Lib.hid hin
 have hgs : [gp, gb, gt, gn].Nodup := h.nd
 have hgp := h.row.lt
 have hgb := h.boxes.lt
 have hgt := h.best.lt
 have hgn := h.count.lt
 have hFl : ∀ b ∈ Fl, b < w.heap.size := fun b hb => (pSymbols e).lt h.syms b hb
 have i1 : (0 : Int) ≤ (fi : Int) := by omega
 have i2 : (fi : Int) < (N : Int) := by omega
 have i3 : (0 : Int) ≤ (re : Int) := by omega
 have i4 : (re : Int) < (N : Int) := by omega
 have i5 : (0 : Int) ≤ (s : Int) := by omega
 have i6 : (s : Int) < (N : Int) := by omega
 have hb : ((re : Int) != 0) = false := by simp [hre]
 have hri : (re : Int) = 0 := by omega
 have hw0 := hin.aw
 have hw1 := hin.pw
 have hww : waysR A B (re : Int) = A.ways := by unfold waysR; rw [if_pos (by omega)]
 rw [hww] at hw1
 skip
 have hAB : boxIn A.box := hin.a
 have hBB : boxIn A.box := hin.a
 have CJ := Lib.hid (fun w => impl_joinCost_c kind A.box A.box SB w hAB hBB hSB)
 have own := ownF_small (k := kind) hAB hBB hSB
 have hco := hin.co
 rw [hww] at hco
 have hmw := hin.mw
 have HT : Hid (tryI A B M kind sg (fi : Int) (re : Int) SB = if A.ways = 0 ∨ fitsF kind A.box A.box SB = false then M else if M.ways = 0 ∨ ordC kind sg (fi : Int) (A.cost + 0 + ownF kind A.box A.box SB) M.kind M.sign M.first M.cost < 0 then ⟨M.box, M.ways + A.ways, A.cost + 0 + ownF kind A.box A.box SB, kind, sg, (fi : Int), (re : Int)⟩ else { M with ways := M.ways + A.ways }) := by
  show _ = _
  unfold tryI
  rw [hww]
  simp only [hri, if_true]
 simp only [Int.add_zero] at HT
 obtain ⟨T, hTT⟩ : ∃ T, tryI A B M kind sg (fi : Int) (re : Int) SB = T := ⟨_, rfl⟩
 rw [hTT] at HT ⊢
 generalize hfit : fitsF kind A.box A.box SB = fit at CJ HT
 generalize ownF kind A.box A.box SB = ow at CJ HT own
 have HC := Lib.hid h
 have RC0 := (Row.new w 65 #[.int .i64 kind, .int .i64 sg, .int .i64 (fi : Int), .int .i64 (re : Int), .int .i64 c0]).alloc (.cells #[.int .i64 SB.x1, .int .i64 SB.y1, .int .i64 SB.x2, .int .i64 SB.y2] 48)
 have RS0 := Row.new (w.alloc (.cells #[.int .i64 kind, .int .i64 sg, .int .i64 (fi : Int), .int .i64 (re : Int), .int .i64 c0] 65)) 48 #[.int .i64 SB.x1, .int .i64 SB.y1, .int .i64 SB.x2, .int .i64 SB.y2]
 have h1 := (h.alloc (.cells #[.int .i64 kind, .int .i64 sg, .int .i64 (fi : Int), .int .i64 (re : Int), .int .i64 c0] 65)).alloc (.cells #[.int .i64 SB.x1, .int .i64 SB.y1, .int .i64 SB.x2, .int .i64 SB.y2] 48)
 have on : Only [gt, gn] w ((w.alloc (.cells #[.int .i64 kind, .int .i64 sg, .int .i64 (fi : Int), .int .i64 (re : Int), .int .i64 c0] 65)).alloc (.cells #[.int .i64 SB.x1, .int .i64 SB.y1, .int .i64 SB.x2, .int .i64 SB.y2] 48)) := Only.of_below (((Below.refl _ _).alloc (Nat.le_refl _) _).alloc (by simp) _)
 rw [World.size_alloc] at RS0
 clear h hM hA hB hin hSB hww hfit hre hTT hri hAB hBB
 go_enter Try.func70, Try.ntmps70
 go_upto_region 1 with fail
 generalize (w.alloc (.cells #[.int .i64 kind, .int .i64 sg, .int .i64 (fi : Int), .int .i64 (re : Int), .int .i64 c0] 65)).alloc (.cells #[.int .i64 SB.x1, .int .i64 SB.y1, .int .i64 SB.x2, .int .i64 SB.y2] 48) = w1 at RC0 RS0 h1 on ⊢
 have p1 := h1.row.c1
 have p2 := h1.row.c2
 have p3 := h1.row.c3
 have c2 := RC0.c2
 have c3 := RC0.c3
 have n1 := h1.nCell hf
 have n2 := h1.nCell hr
 obtain ⟨-, -, -, -, t1⟩ := h1.bestCell hf
 obtain ⟨-, -, -, -, t2⟩ := h1.bestCell hr
 rw [HA.out] at n1 t1
 rw [HB.out] at n2 t2
 by_cases hz : A.ways = 0
 · have HZ : Hid (T = M) := by have := HT.out; rw [if_pos (.inl hz)] at this; exact Lib.hid this
   have y0 : (A.ways == 0) = true := by simpa using hz
   clear hz
   go_quiet (fail)
   go_wp2_with fail
   refine bodyPost_ret (v := .tuple #[]) (by simp [results, Try.results70, go_sem]) rfl ⟨rfl, on.trans (Only.of_below (below_drewN (Below.refl _ _) nq)), ?_⟩
   rw [HZ.out, ← HM.out, updF_id]
   exact h1.drewN nq
 have y0 : (A.ways == 0) = false := by simpa using hz
 have hco' := hco hz
 go_quiet (fail)
 obtain ⟨q1, hq1⟩ : ∃ q, q = nq := ⟨_, rfl⟩
 subst hq1
 replace h1 := h1.drewN q1
 replace RC0 := RC0.drewN q1
 replace RS0 := RS0.drewN q1
 replace on := on.trans (Only.of_below (below_drewN (Below.refl w1.heap.size w1) q1))
 go_upto_region 2 with fail
 go_quiet (fail)
 obtain ⟨q2, hq2⟩ : ∃ q, q = nq := ⟨_, rfl⟩
 subst hq2
 replace h1 := h1.drewN q2
 replace RC0 := RC0.drewN q2
 replace RS0 := RS0.drewN q2
 replace on := on.trans (Only.of_below (below_drewN (Below.refl (w1.drewN q1).heap.size (w1.drewN q1)) q2))
 go_upto_region 3 with fail
 generalize ((w1.drewN q1).drewN q2) = w2 at h1 RC0 RS0 on ⊢
 clear p1 p2 p3 c2 c3 n1 n2 t1 t2
 have p1 := h1.row.c1
 have c2 := RC0.c2
 obtain ⟨x0, x1, x2, x3⟩ := h1.boxCell hf
 rw [HA.out] at x0 x1 x2 x3
 have hS : (fun w' : World => w'.cell? ⟨gp, 1, none⟩ = some (.slice (some ⟨gb, 0, none⟩) N N) ∧ w'.cell? ⟨w.heap.size, 2, none⟩ = some (.int .i64 (fi : Int)) ∧ w'.cell? ⟨gb, fi * 4, none⟩ = some (.int .i64 A.box.x1) ∧ w'.cell? ⟨gb, fi * 4 + 1, none⟩ = some (.int .i64 A.box.y1) ∧ w'.cell? ⟨gb, fi * 4 + 2, none⟩ = some (.int .i64 A.box.x2) ∧ w'.cell? ⟨gb, fi * 4 + 3, none⟩ = some (.int .i64 A.box.y2)) w2.drew := ⟨p1, c2, x0, x1, x2, x3⟩
 dsimp only at hS
 refine wp_region_held_drew (S := (fun w' : World => w'.cell? ⟨gp, 1, none⟩ = some (.slice (some ⟨gb, 0, none⟩) N N) ∧ w'.cell? ⟨w.heap.size, 2, none⟩ = some (.int .i64 (fi : Int)) ∧ w'.cell? ⟨gb, fi * 4, none⟩ = some (.int .i64 A.box.x1) ∧ w'.cell? ⟨gb, fi * 4 + 1, none⟩ = some (.int .i64 A.box.y1) ∧ w'.cell? ⟨gb, fi * 4 + 2, none⟩ = some (.int .i64 A.box.x2) ∧ w'.cell? ⟨gb, fi * 4 + 3, none⟩ = some (.int .i64 A.box.y2))) (by kernel_rfl) hS (fun _ => ?_)
 refine tJ 0 hS ?_
 refine tJ 1 hS ?_
 refine tJ 2 hS ?_
 refine tJ 3 hS ?_
 refine tJ 4 hS ?_
 refine tJ 5 hS ?_
 refine tJ 6 hS ?_
 refine tJ 7 hS ?_
 refine rJ 8 fun K hK => ?_
 go_simp
 have past : ∀ (x : Obj) (g i : Nat) (u : Value), g < w2.heap.size → w2.cell? ⟨g, i, none⟩ = some u → (w2.alloc x).drew.cell? ⟨g, i, none⟩ = some u := fun x g i u hg hc => (World.cell?_alloc_past (w := w2) _ _ _ hg).trans hc
 refine hK.out _ _ ?_ (fun hHeld => ?_)
 · exact ⟨past _ _ _ _ h1.row.lt p1, past _ _ _ _ RC0.lt c2, past _ _ _ _ h1.boxes.lt x0, past _ _ _ _ h1.boxes.lt x1, past _ _ _ _ h1.boxes.lt x2, past _ _ _ _ h1.boxes.lt x3⟩
 clear hK K hHeld
 refine rJ 9 fun K hK => ?_
 go_simp
 refine hK.out _ _ ?_ (fun hHeld => ?_)
 · exact ⟨past _ _ _ _ h1.row.lt p1, past _ _ _ _ RC0.lt c2, past _ _ _ _ h1.boxes.lt x0, past _ _ _ _ h1.boxes.lt x1, past _ _ _ _ h1.boxes.lt x2, past _ _ _ _ h1.boxes.lt x3⟩
 clear hK K hHeld hS past
 refine wpAnyH_done (by kernel_rfl) ?_ _
 have RV := (Row.new w2 48 #[.int .i64 A.box.x1, .int .i64 A.box.y1, .int .i64 A.box.x2, .int .i64 A.box.y2]).drew
 have hbv : w.heap.size + 1 < w2.heap.size := RS0.lt
 have hbvl : w2.heap.size ∉ [gp, gb, gt, gn] := by
  have l1 := h1.row.lt
  have l2 := h1.boxes.lt
  have l3 := h1.best.lt
  have l4 := h1.count.lt
  simp only [List.mem_cons, List.not_mem_nil, or_false]
  omega
 have hbvF : w2.heap.size ∉ Fl := fun hb => by have := hFl _ hb; omega
 replace h1 := (h1.alloc (.cells #[.int .i64 A.box.x1, .int .i64 A.box.y1, .int .i64 A.box.x2, .int .i64 A.box.y2] 48)).drew
 replace RC0 := (RC0.alloc (.cells #[.int .i64 A.box.x1, .int .i64 A.box.y1, .int .i64 A.box.x2, .int .i64 A.box.y2] 48)).drew
 replace RS0 := (RS0.alloc (.cells #[.int .i64 A.box.x1, .int .i64 A.box.y1, .int .i64 A.box.x2, .int .i64 A.box.y2] 48)).drew
 replace on := (on.alloc (.cells #[.int .i64 A.box.x1, .int .i64 A.box.y1, .int .i64 A.box.x2, .int .i64 A.box.y2] 48)).drew
 clear p1 c2 x0 x1 x2 x3
 generalize (w2.alloc (.cells #[.int .i64 A.box.x1, .int .i64 A.box.y1, .int .i64 A.box.x2, .int .i64 A.box.y2] 48)).drew = w3 at h1 RC0 RS0 on RV ⊢
 generalize w2.heap.size = bv at RV hbv hbvl hbvF ⊢
 have c3 := RC0.c3
 go_upto_region 8 with fail
 obtain ⟨w6, hw6⟩ : ∃ x, x = w3 := ⟨_, rfl⟩
 subst hw6
 clear c3
 have c0' := RC0.c0
 have c2 := RC0.c2
 have p1 := h1.row.c1
 obtain ⟨x0, x1, x2, x3⟩ := h1.boxCell hf
 rw [HA.out] at x0 x1 x2 x3
 have v0 := RV.c0
 have v1 := RV.c1
 have v2 := RV.c2
 have v3 := RV.c3
 have s0 := RS0.c0
 have s1 := RS0.c1
 have s2 := RS0.c2
 have s3 := RS0.c3
 have hS : (fun w' : World => w'.cell? ⟨w.heap.size, 0, none⟩ = some (.int .i64 kind) ∧ w'.cell? ⟨w.heap.size, 2, none⟩ = some (.int .i64 (fi : Int)) ∧ w'.cell? ⟨gp, 1, none⟩ = some (.slice (some ⟨gb, 0, none⟩) N N) ∧ w'.cell? ⟨gb, fi * 4, none⟩ = some (.int .i64 A.box.x1) ∧ w'.cell? ⟨gb, fi * 4 + 1, none⟩ = some (.int .i64 A.box.y1) ∧ w'.cell? ⟨gb, fi * 4 + 2, none⟩ = some (.int .i64 A.box.x2) ∧ w'.cell? ⟨gb, fi * 4 + 3, none⟩ = some (.int .i64 A.box.y2) ∧ w'.cell? ⟨bv, 0, none⟩ = some (.int .i64 A.box.x1) ∧ w'.cell? ⟨bv, 1, none⟩ = some (.int .i64 A.box.y1) ∧ w'.cell? ⟨bv, 2, none⟩ = some (.int .i64 A.box.x2) ∧ w'.cell? ⟨bv, 3, none⟩ = some (.int .i64 A.box.y2) ∧ w'.cell? ⟨w.heap.size + 1, 0, none⟩ = some (.int .i64 SB.x1) ∧ w'.cell? ⟨w.heap.size + 1, 1, none⟩ = some (.int .i64 SB.y1) ∧ w'.cell? ⟨w.heap.size + 1, 2, none⟩ = some (.int .i64 SB.x2) ∧ w'.cell? ⟨w.heap.size + 1, 3, none⟩ = some (.int .i64 SB.y2)) w6.drew := ⟨c0', c2, p1, x0, x1, x2, x3, v0, v1, v2, v3, s0, s1, s2, s3⟩
 dsimp only at hS
 refine wp_region_held_drew (S := (fun w' : World => w'.cell? ⟨w.heap.size, 0, none⟩ = some (.int .i64 kind) ∧ w'.cell? ⟨w.heap.size, 2, none⟩ = some (.int .i64 (fi : Int)) ∧ w'.cell? ⟨gp, 1, none⟩ = some (.slice (some ⟨gb, 0, none⟩) N N) ∧ w'.cell? ⟨gb, fi * 4, none⟩ = some (.int .i64 A.box.x1) ∧ w'.cell? ⟨gb, fi * 4 + 1, none⟩ = some (.int .i64 A.box.y1) ∧ w'.cell? ⟨gb, fi * 4 + 2, none⟩ = some (.int .i64 A.box.x2) ∧ w'.cell? ⟨gb, fi * 4 + 3, none⟩ = some (.int .i64 A.box.y2) ∧ w'.cell? ⟨bv, 0, none⟩ = some (.int .i64 A.box.x1) ∧ w'.cell? ⟨bv, 1, none⟩ = some (.int .i64 A.box.y1) ∧ w'.cell? ⟨bv, 2, none⟩ = some (.int .i64 A.box.x2) ∧ w'.cell? ⟨bv, 3, none⟩ = some (.int .i64 A.box.y2) ∧ w'.cell? ⟨w.heap.size + 1, 0, none⟩ = some (.int .i64 SB.x1) ∧ w'.cell? ⟨w.heap.size + 1, 1, none⟩ = some (.int .i64 SB.y1) ∧ w'.cell? ⟨w.heap.size + 1, 2, none⟩ = some (.int .i64 SB.x2) ∧ w'.cell? ⟨w.heap.size + 1, 3, none⟩ = some (.int .i64 SB.y2))) (by kernel_rfl) hS (fun _ => ?_)
 refine tJ 0 hS ?_
 refine tJ 1 hS ?_
 refine tJ 2 hS ?_
 refine tJ 3 hS ?_
 refine tJ 4 hS ?_
 refine tJ 5 hS ?_
 refine tJ 6 hS ?_
 refine tJ 7 hS ?_
 refine tJ 8 hS ?_
 refine tJ 9 hS ?_
 refine tJ 10 hS ?_
 refine tJ 11 hS ?_
 refine rJ 12 fun K hK => ?_
 refine step_call 83 #[.tmp 97, .tmp 105, .tmp 106, .tmp 107] _ rfl rfl #[.int .i64 kind, .agg #[.int .i64 A.box.x1, .int .i64 A.box.y1, .int .i64 A.box.x2, .int .i64 A.box.y2], .agg #[.int .i64 A.box.x1, .int .i64 A.box.y1, .int .i64 A.box.x2, .int .i64 A.box.y2], .agg #[.int .i64 SB.x1, .int .i64 SB.y1, .int .i64 SB.x2, .int .i64 SB.y2]] Try.call83 (by go_simp) (CJ.out _) ?_
 rintro en w7 ⟨rfl, b7⟩
 refine ⟨_, rfl, ?_⟩
 replace h1 := h1.drew.below b7
 replace RC0 := RC0.drew.later b7
 replace RS0 := RS0.drew.later b7
 replace RV := RV.drew.later b7
 replace on := on.drew.trans (Only.of_below b7)
 clear c0' c2 p1 x0 x1 x2 x3 v0 v1 v2 v3 s0 s1 s2 s3
 have c0' := RC0.c0
 have c2 := RC0.c2
 have p1 := h1.row.c1
 obtain ⟨x0, x1, x2, x3⟩ := h1.boxCell hf
 rw [HA.out] at x0 x1 x2 x3
 have v0 := RV.c0
 have v1 := RV.c1
 have v2 := RV.c2
 have v3 := RV.c3
 have s0 := RS0.c0
 have s1 := RS0.c1
 have s2 := RS0.c2
 have s3 := RS0.c3
 replace hS := (⟨c0', c2, p1, x0, x1, x2, x3, v0, v1, v2, v3, s0, s1, s2, s3⟩ : w7.cell? ⟨w.heap.size, 0, none⟩ = some (.int .i64 kind) ∧ w7.cell? ⟨w.heap.size, 2, none⟩ = some (.int .i64 (fi : Int)) ∧ w7.cell? ⟨gp, 1, none⟩ = some (.slice (some ⟨gb, 0, none⟩) N N) ∧ w7.cell? ⟨gb, fi * 4, none⟩ = some (.int .i64 A.box.x1) ∧ w7.cell? ⟨gb, fi * 4 + 1, none⟩ = some (.int .i64 A.box.y1) ∧ w7.cell? ⟨gb, fi * 4 + 2, none⟩ = some (.int .i64 A.box.x2) ∧ w7.cell? ⟨gb, fi * 4 + 3, none⟩ = some (.int .i64 A.box.y2) ∧ w7.cell? ⟨bv, 0, none⟩ = some (.int .i64 A.box.x1) ∧ w7.cell? ⟨bv, 1, none⟩ = some (.int .i64 A.box.y1) ∧ w7.cell? ⟨bv, 2, none⟩ = some (.int .i64 A.box.x2) ∧ w7.cell? ⟨bv, 3, none⟩ = some (.int .i64 A.box.y2) ∧ w7.cell? ⟨w.heap.size + 1, 0, none⟩ = some (.int .i64 SB.x1) ∧ w7.cell? ⟨w.heap.size + 1, 1, none⟩ = some (.int .i64 SB.y1) ∧ w7.cell? ⟨w.heap.size + 1, 2, none⟩ = some (.int .i64 SB.x2) ∧ w7.cell? ⟨w.heap.size + 1, 3, none⟩ = some (.int .i64 SB.y2))
 refine bJ hK hS ?_
 clear hK K
 simp only [Act.put, pA, pB, pC]
 refine tJ 13 hS ?_
 refine tJ 14 hS ?_
 refine tJ 15 hS ?_
 refine tJ 16 hS ?_
 refine tJ 17 hS ?_
 refine wpAnyH_done (by kernel_rfl) ?_ _
 clear hS b7 c0' c2 p1 x0 x1 x2 x3 v0 v1 v2 v3 s0 s1 s2 s3
 cases fit with
 | false =>
   have HZ : Hid (T = M) := by have := HT.out; rw [if_pos (.inr rfl)] at this; exact Lib.hid this
   go_wp2_with fail
   refine bodyPost_ret (v := .tuple #[]) (by simp [results, Try.results70, go_sem]) rfl ⟨rfl, on, ?_⟩
   rw [HZ.out, ← HM.out, updF_id]
   exact h1
 | true =>
 have HT2 : Hid (T = if M.ways = 0 ∨ ordC kind sg (fi : Int) (A.cost + ow) M.kind M.sign M.first M.cost < 0 then ⟨M.box, M.ways + A.ways, (A.cost + ow), kind, sg, (fi : Int), (re : Int)⟩ else { M with ways := M.ways + A.ways }) := by have := HT.out; rw [if_neg (by simp [hz])] at this; exact Lib.hid this
 have ecc : IntKind.i64.wrap (A.cost + ow) = (A.cost + ow) := IntWalk.i64_in _ (by omega)
 have c4 := RC0.c4
 have cF := RC0.frozen
 go_upto_region 11 with fail
 have hwF : w.heap.size ∉ Fl := fun hb => by have := hFl _ hb; omega
 have hwl : w.heap.size ∉ [gp, gb, gt, gn] := by simp only [List.mem_cons, List.not_mem_nil, or_false]; omega
 replace h1 := h1.far (p := ⟨w.heap.size, 4, none⟩) hwl hwF (.int .i64 (A.cost + ow))
 replace RC0 := RC0.set 4 (.int .i64 (A.cost + ow))
 replace on := on.set_new (p := ⟨w.heap.size, 4, none⟩) (by show _ ≤ w.heap.size; omega) (.int .i64 (A.cost + ow))
 generalize w7.setCell ⟨w.heap.size, 4, none⟩ (.int .i64 (A.cost + ow)) = w8 at h1 RC0 on ⊢
 clear c4 cF RS0 RV
 have eW := IntWalk.i64_in (M.ways + A.ways) (by omega)
 have p3 := h1.row.c3
 have p2 := h1.row.c2
 have nM := h1.nCell hs
 rw [HM.out] at nM
 obtain ⟨m0, m1, m2, m3, m4⟩ := h1.bestCell hs
 rw [HM.out] at m0 m1 m2 m3 m4
 have c0' := RC0.c0
 have c1 := RC0.c1
 have c2 := RC0.c2
 have c3 := RC0.c3
 have c4 := RC0.c4
 have hS : (fun w' : World => w'.cell? ⟨gp, 3, none⟩ = some (.slice (some ⟨gn, 0, none⟩) N N) ∧ w'.cell? ⟨gp, 2, none⟩ = some (.slice (some ⟨gt, 0, none⟩) N N) ∧ w'.cell? ⟨gn, s, none⟩ = some (.int .i64 M.ways) ∧ w'.cell? ⟨gt, s * 5, none⟩ = some (.int .i64 M.kind) ∧ w'.cell? ⟨gt, s * 5 + 1, none⟩ = some (.int .i64 M.sign) ∧ w'.cell? ⟨gt, s * 5 + 2, none⟩ = some (.int .i64 M.first) ∧ w'.cell? ⟨gt, s * 5 + 3, none⟩ = some (.int .i64 M.rest) ∧ w'.cell? ⟨gt, s * 5 + 4, none⟩ = some (.int .i64 M.cost) ∧ w'.cell? ⟨w.heap.size, 0, none⟩ = some (.int .i64 kind) ∧ w'.cell? ⟨w.heap.size, 1, none⟩ = some (.int .i64 sg) ∧ w'.cell? ⟨w.heap.size, 2, none⟩ = some (.int .i64 (fi : Int)) ∧ w'.cell? ⟨w.heap.size, 3, none⟩ = some (.int .i64 (re : Int)) ∧ w'.cell? ⟨w.heap.size, 4, none⟩ = some (.int .i64 (A.cost + ow))) w8.drew := ⟨p3, p2, nM, m0, m1, m2, m3, m4, c0', c1, c2, c3, c4⟩
 dsimp only at hS
 refine wp_region_held_drew (S := (fun w' : World => w'.cell? ⟨gp, 3, none⟩ = some (.slice (some ⟨gn, 0, none⟩) N N) ∧ w'.cell? ⟨gp, 2, none⟩ = some (.slice (some ⟨gt, 0, none⟩) N N) ∧ w'.cell? ⟨gn, s, none⟩ = some (.int .i64 M.ways) ∧ w'.cell? ⟨gt, s * 5, none⟩ = some (.int .i64 M.kind) ∧ w'.cell? ⟨gt, s * 5 + 1, none⟩ = some (.int .i64 M.sign) ∧ w'.cell? ⟨gt, s * 5 + 2, none⟩ = some (.int .i64 M.first) ∧ w'.cell? ⟨gt, s * 5 + 3, none⟩ = some (.int .i64 M.rest) ∧ w'.cell? ⟨gt, s * 5 + 4, none⟩ = some (.int .i64 M.cost) ∧ w'.cell? ⟨w.heap.size, 0, none⟩ = some (.int .i64 kind) ∧ w'.cell? ⟨w.heap.size, 1, none⟩ = some (.int .i64 sg) ∧ w'.cell? ⟨w.heap.size, 2, none⟩ = some (.int .i64 (fi : Int)) ∧ w'.cell? ⟨w.heap.size, 3, none⟩ = some (.int .i64 (re : Int)) ∧ w'.cell? ⟨w.heap.size, 4, none⟩ = some (.int .i64 (A.cost + ow)))) (by kernel_rfl) hS (fun _ => ?_)
 by_cases hm : M.ways = 0
 · have HZ : Hid (T = ⟨M.box, M.ways + A.ways, (A.cost + ow), kind, sg, (fi : Int), (re : Int)⟩) := by have := HT2.out; rw [if_pos (.inl hm)] at this; exact Lib.hid this
   have y2 : (M.ways == 0) = true := by simpa using hm
   clear hm
   refine tJ 0 hS ?_
   refine tJ 1 hS ?_
   refine tJ 2 hS ?_
   refine tJ 3 hS ?_
   refine tJ 4 hS ?_
   refine tJ 5 hS ?_
   refine tJ 6 hS ?_
   refine tJ 7 hS ?_
   refine tJ 8 hS ?_
   refine tJ0 9 hS ?_
   refine tJ0 10 hS ?_
   refine tJ0 11 hS ?_
   refine tJ0 12 hS ?_
   refine tJ0 13 hS ?_
   refine tJ0 14 hS ?_
   refine tJ0 15 hS ?_
   refine tJ0 16 hS ?_
   refine tJ0 17 hS ?_
   refine tJ0 18 hS ?_
   refine tJ 19 hS ?_
   refine wpAnyH_done (by kernel_rfl) ?_ _
   replace h1 := h1.drew
   replace RC0 := RC0.drew
   replace on := on.drew
   clear hS p3 p2 nM m0 m1 m2 m3 m4 c0' c1 c2 c3 c4
   generalize w8.drew = w8d at h1 RC0 on ⊢
   have p2 := h1.row.c2
   obtain ⟨m0, m1, m2, m3, m4⟩ := h1.bestCell hs
   have mF := h1.best.frozen
   have c0' := RC0.c0
   have c1 := RC0.c1
   have c2 := RC0.c2
   have c3 := RC0.c3
   have c4 := RC0.c4
   go_upto_region 12 with fail
   go_still_tail 7, (by kernel_rfl)
   go_upto_region 13 with fail
   have h2 := (h1.putBest hs kind sg (fi : Int) (re : Int) (A.cost + ow)).drew
   have on2 := (((((on.set (p := ⟨gt, s * 5, none⟩) (by simp) (.int .i64 kind)).set (p := ⟨gt, s * 5 + 1, none⟩) (by simp) (.int .i64 sg)).set (p := ⟨gt, s * 5 + 2, none⟩) (by simp) (.int .i64 (fi : Int))).set (p := ⟨gt, s * 5 + 3, none⟩) (by simp) (.int .i64 (re : Int))).set (p := ⟨gt, s * 5 + 4, none⟩) (by simp) (.int .i64 (A.cost + ow))).drew
   generalize (((((w8d.setCell ⟨gt, s * 5, none⟩ (.int .i64 kind)).setCell ⟨gt, s * 5 + 1, none⟩ (.int .i64 sg)).setCell ⟨gt, s * 5 + 2, none⟩ (.int .i64 (fi : Int))).setCell ⟨gt, s * 5 + 3, none⟩ (.int .i64 (re : Int))).setCell ⟨gt, s * 5 + 4, none⟩ (.int .i64 (A.cost + ow))).drew = w9 at h2 on2 ⊢
   clear p2 m0 m1 m2 m3 m4 mF c0' c1 c2 c3 c4
   have p3 := h2.row.c3
   have nM := h2.nCell hs
   rw [updF_same] at nM
   dsimp only at nM
   rw [HM.out] at nM
   have nF := h2.count.frozen
   have h3 := h2.putN hs (M.ways + A.ways)
   rw [updF_same, updF_upd] at h3
   have H3 := Lib.hid h3
   have ON3 := Lib.hid (on2.set (p := ⟨gn, s, none⟩) (by simp) (.int .i64 (M.ways + A.ways)))
   clear h3 h2 on2 h1 on
   go_wp2_with fail
   refine bodyPost_end (v := .tuple #[]) (by simp [results, Try.results70, go_sem]) rfl ⟨rfl, ?_, ?_⟩
   · exact ON3.out
   · rw [HZ.out, ← HM.out]; have x := H3.out; rw [← HM.out] at x; exact x
 · have y2 : (M.ways == 0) = false := by simpa using hm
   refine tJ 0 hS ?_
   refine tJ 1 hS ?_
   refine tJ 2 hS ?_
   refine tJ 3 hS ?_
   refine tJ 4 hS ?_
   refine tJ 5 hS ?_
   refine tJ 6 hS ?_
   refine tJ 7 hS ?_
   refine tJ 8 hS ?_
   refine tJ 9 hS ?_
   refine tJ 10 hS ?_
   refine tJ 11 hS ?_
   refine tJ 12 hS ?_
   refine tJ 13 hS ?_
   refine tJ 14 hS ?_
   refine tJ 15 hS ?_
   refine tJ 16 hS ?_
   refine rJ 17 fun K hK => ?_
   refine step_call 84 #[.tmp 126, .tmp 133] _ rfl rfl #[.agg #[.int .i64 kind, .int .i64 sg, .int .i64 (fi : Int), .int .i64 (re : Int), .int .i64 (A.cost + ow)], .agg #[.int .i64 M.kind, .int .i64 M.sign, .int .i64 M.first, .int .i64 M.rest, .int .i64 M.cost]] Try.call84 (by go_simp) (compareChoices_c kind sg (fi : Int) (re : Int) (A.cost + ow) M.kind M.sign M.first M.rest M.cost _) ?_
   rintro en w10 ⟨rfl, b10⟩
   refine ⟨_, rfl, ?_⟩
   replace h1 := h1.drew.below b10
   replace RC0 := RC0.drew.later b10
   replace on := on.drew.trans (Only.of_below b10)
   clear p3 p2 nM m0 m1 m2 m3 m4 c0' c1 c2 c3 c4
   have p3 := h1.row.c3
   have p2 := h1.row.c2
   have nM := h1.nCell hs
   rw [HM.out] at nM
   obtain ⟨m0, m1, m2, m3, m4⟩ := h1.bestCell hs
   rw [HM.out] at m0 m1 m2 m3 m4
   have c0' := RC0.c0
   have c1 := RC0.c1
   have c2 := RC0.c2
   have c3 := RC0.c3
   have c4 := RC0.c4
   replace hS := (⟨p3, p2, nM, m0, m1, m2, m3, m4, c0', c1, c2, c3, c4⟩ : w10.cell? ⟨gp, 3, none⟩ = some (.slice (some ⟨gn, 0, none⟩) N N) ∧ w10.cell? ⟨gp, 2, none⟩ = some (.slice (some ⟨gt, 0, none⟩) N N) ∧ w10.cell? ⟨gn, s, none⟩ = some (.int .i64 M.ways) ∧ w10.cell? ⟨gt, s * 5, none⟩ = some (.int .i64 M.kind) ∧ w10.cell? ⟨gt, s * 5 + 1, none⟩ = some (.int .i64 M.sign) ∧ w10.cell? ⟨gt, s * 5 + 2, none⟩ = some (.int .i64 M.first) ∧ w10.cell? ⟨gt, s * 5 + 3, none⟩ = some (.int .i64 M.rest) ∧ w10.cell? ⟨gt, s * 5 + 4, none⟩ = some (.int .i64 M.cost) ∧ w10.cell? ⟨w.heap.size, 0, none⟩ = some (.int .i64 kind) ∧ w10.cell? ⟨w.heap.size, 1, none⟩ = some (.int .i64 sg) ∧ w10.cell? ⟨w.heap.size, 2, none⟩ = some (.int .i64 (fi : Int)) ∧ w10.cell? ⟨w.heap.size, 3, none⟩ = some (.int .i64 (re : Int)) ∧ w10.cell? ⟨w.heap.size, 4, none⟩ = some (.int .i64 (A.cost + ow)))
   refine bJ hK hS ?_
   clear hK K
   simp only [Act.put, pA, pB, pC]
   refine tJ 18 hS ?_
   refine tJ 19 hS ?_
   refine wpAnyH_done (by kernel_rfl) ?_ _
   clear hS b10
   generalize hord : ordC kind sg (fi : Int) (A.cost + ow) M.kind M.sign M.first M.cost = od at HT2 ⊢
   clear hord
   by_cases ho : od < 0
   · have HZ : Hid (T = ⟨M.box, M.ways + A.ways, (A.cost + ow), kind, sg, (fi : Int), (re : Int)⟩) := by have := HT2.out; rw [if_pos (.inr ho)] at this; exact Lib.hid this
     clear p3 p2 nM m0 m1 m2 m3 m4 c0' c1 c2 c3 c4
     have p2 := h1.row.c2
     obtain ⟨m0, m1, m2, m3, m4⟩ := h1.bestCell hs
     have mF := h1.best.frozen
     have c0' := RC0.c0
     have c1 := RC0.c1
     have c2 := RC0.c2
     have c3 := RC0.c3
     have c4 := RC0.c4
     go_upto_region 12 with fail
     go_still_tail 7, (by kernel_rfl)
     go_upto_region 13 with fail
     have h2 := (h1.putBest hs kind sg (fi : Int) (re : Int) (A.cost + ow)).drew
     have on2 := (((((on.set (p := ⟨gt, s * 5, none⟩) (by simp) (.int .i64 kind)).set (p := ⟨gt, s * 5 + 1, none⟩) (by simp) (.int .i64 sg)).set (p := ⟨gt, s * 5 + 2, none⟩) (by simp) (.int .i64 (fi : Int))).set (p := ⟨gt, s * 5 + 3, none⟩) (by simp) (.int .i64 (re : Int))).set (p := ⟨gt, s * 5 + 4, none⟩) (by simp) (.int .i64 (A.cost + ow))).drew
     generalize (((((w10.setCell ⟨gt, s * 5, none⟩ (.int .i64 kind)).setCell ⟨gt, s * 5 + 1, none⟩ (.int .i64 sg)).setCell ⟨gt, s * 5 + 2, none⟩ (.int .i64 (fi : Int))).setCell ⟨gt, s * 5 + 3, none⟩ (.int .i64 (re : Int))).setCell ⟨gt, s * 5 + 4, none⟩ (.int .i64 (A.cost + ow))).drew = w9 at h2 on2 ⊢
     clear p2 m0 m1 m2 m3 m4 mF c0' c1 c2 c3 c4
     have p3 := h2.row.c3
     have nM := h2.nCell hs
     rw [updF_same] at nM
     dsimp only at nM
     rw [HM.out] at nM
     have nF := h2.count.frozen
     have h3 := h2.putN hs (M.ways + A.ways)
     rw [updF_same, updF_upd] at h3
     have H3 := Lib.hid h3
     have ON3 := Lib.hid (on2.set (p := ⟨gn, s, none⟩) (by simp) (.int .i64 (M.ways + A.ways)))
     clear h3 h2 on2 h1 on
     go_wp2_with fail
     refine bodyPost_end (v := .tuple #[]) (by simp [results, Try.results70, go_sem]) rfl ⟨rfl, ?_, ?_⟩
     · exact ON3.out
     · rw [HZ.out, ← HM.out]; have x := H3.out; rw [← HM.out] at x; exact x
   · have HZ : Hid (T = { M with ways := M.ways + A.ways }) := by have := HT2.out; rw [if_neg (fun h => h.elim hm ho)] at this; exact Lib.hid this
     have nF := h1.count.frozen
     have h3 := h1.putN hs (M.ways + A.ways)
     have H3 := Lib.hid h3
     have ON3 := Lib.hid (on.set (p := ⟨gn, s, none⟩) (by simp) (.int .i64 (M.ways + A.ways)))
     clear h3 h1 on hm
     go_wp2_with fail
     refine bodyPost_end (v := .tuple #[]) (by simp [results, Try.results70, go_sem]) rfl ⟨rfl, ?_, ?_⟩
     · exact ON3.out
     · rw [HZ.out, ← HM.out]; have x := H3.out; rw [HM.out] at x ⊢; exact x
end Go.Proofs.Ytmopioaojdlnkaa
