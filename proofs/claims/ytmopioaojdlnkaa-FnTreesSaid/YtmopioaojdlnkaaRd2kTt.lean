/- The reference's reader of trees: join of a node of kind T. Conditions: none. -/
import Derived.Test.YtmopioaojdlnkaaTkt
import Derived.Test.YtmopioaojdlnkaaPuIt
namespace Go.Proofs.Ytmopioaojdlnkaa
open Go Go.RowKit
theorem labelF_none {kd : Int} (h : kd = 1 ∨ kd = 3 ∨ kd = 4) : labelF kd = ⟨#[]⟩ := by rcases h with rfl | rfl | rfl <;> rfl
set_option maxRecDepth 100000 in
set_option maxHeartbeats 8000000 in
theorem spec_joinT_c {e et : TypeId} {o ot : Bool} {xs : List PSymbol} {ns : List PNode} {vl vn : Value} {Fl Fn : List Nat} {gp gu gb gd : Nat} {st : RdSt} (kd : Int) (hkd : kd = 1 ∨ kd = 3 ∨ kd = 4) (k a b : Nat) (sI : Int) (hal : a < st.boxes.length) (had : a < st.depth.length) (hbl : b < st.boxes.length) (hbd : b < st.depth.length) (hbk : b < k) (w : World) (h : Rd e et o ot xs ns vl vn Fl Fn gp gu gb gd st w) (hc : RdNum xs st) (hg : st.good = true) (hat : k < ns.length) (hak : a < k) :
 Calls Try.prog 90 #[.pointer (some ⟨gp, 0, none⟩), .int .i64 (k : Int), .agg #[.int .i64 kd, .int .i64 (a : Int), .int .i64 (b : Int), .int .i64 sI]] w (RJoin e et o ot xs ns vl vn Fl Fn gp gu gb gd { st with boxes := st.boxes.set k (joinB (joinB (st.boxes[a]) (st.boxes[b])) (st.boxes[a])), depth := st.depth.set k (max st.depth[a] st.depth[b] + 1), cost := st.cost + ownF kd (st.boxes[a]) (st.boxes[b]) (st.boxes[a]), good := fitsF kd (st.boxes[a]) (st.boxes[b]) (st.boxes[a]) } w) := by
 have hgp := h.row.lt
 have n5 : (kd != 5) = true := by rw [bne_iff_ne]; omega
 have hgu := h.us.lt
 have hgb := h.bs.lt
 have hgd := h.ds.lt
 have hFl : ∀ b ∈ Fl, b < w.heap.size := fun b hb => (pSymbols e).lt h.syms b hb
 have hFn : ∀ b ∈ Fn, b < w.heap.size := fun b hb => (pNodes et).lt h.nods b hb
 obtain ⟨Al, cl, B, d, rfl, rfl⟩ := h.shape
 have hba : boxIn st.boxes[a] := hc.bx _ (List.getElem_mem hal)
 have hbb : boxIn st.boxes[b] := hc.bx _ (List.getElem_mem hbl)
 have hdb := hc.dp b hbd
 have b0 : (0 : Int) ≤ (b : Int) := by omega
 have b1 : (b : Int) < (ns.length : Int) := by rw [← h.dpl]; omega
 have hda := hc.dp a had
 have hdl := hc.dl
 have hns : ns.length ≤ 15 := by rw [← h.dpl]; exact hdl
 have hsy := Lib.hid hc.sy
 have hfew := hc.few
 have hco := hc.cost
 have hdp := Lib.hid h.dpl
 have k0 : (0 : Int) ≤ (k : Int) := by omega
 have k1 : (k : Int) < (ns.length : Int) := by omega
 have a0 : (0 : Int) ≤ (a : Int) := by omega
 have a1 : (a : Int) < (ns.length : Int) := by omega
 have RD := h.alloc (.cells #[.int .i64 kd, .int .i64 (a : Int), .int .i64 (b : Int), .int .i64 sI] 76)
 have R5 := Row.new w 76 #[.int .i64 kd, .int .i64 (a : Int), .int .i64 (b : Int), .int .i64 sI]
 have hsb := hba
 obtain ⟨X, hX⟩ : ∃ X, joinB (st.boxes[a]) (st.boxes[b]) = X := ⟨_, rfl⟩
 rw [hX]
 obtain ⟨Y, hY⟩ : ∃ Y, joinB X st.boxes[a] = Y := ⟨_, rfl⟩
 rw [hY]
 have HX := Lib.hid hX
 have HY := Lib.hid hY
 clear hX hY
 go_enter Try.func90, Try.ntmps90
 have p3 := RD.row.c3
 have q1 := R5.c1
 obtain ⟨x0, x1, x2, x3⟩ := RD.boxCell hal
 go_wp2_with fail
 have hS : (fun w' : World => w'.cell? ⟨gp, 3, none⟩ = some (.slice (some ⟨gb, 0, none⟩) ns.length ns.length) ∧ w'.cell? ⟨w.heap.size, 1, none⟩ = some (.int .i64 (a : Int)) ∧ w'.cell? ⟨gb, a * 4, none⟩ = some (.int .i64 (st.boxes[a]).x1) ∧ w'.cell? ⟨gb, a * 4 + 1, none⟩ = some (.int .i64 (st.boxes[a]).y1) ∧ w'.cell? ⟨gb, a * 4 + 2, none⟩ = some (.int .i64 (st.boxes[a]).x2) ∧ w'.cell? ⟨gb, a * 4 + 3, none⟩ = some (.int .i64 (st.boxes[a]).y2)) ((w.alloc (.cells #[.int .i64 kd, .int .i64 (a : Int), .int .i64 (b : Int), .int .i64 sI] 76))).drew := ⟨p3, q1, x0, x1, x2, x3⟩
 dsimp only at hS
 refine wp_region_held_drew (S := (fun w' : World => w'.cell? ⟨gp, 3, none⟩ = some (.slice (some ⟨gb, 0, none⟩) ns.length ns.length) ∧ w'.cell? ⟨w.heap.size, 1, none⟩ = some (.int .i64 (a : Int)) ∧ w'.cell? ⟨gb, a * 4, none⟩ = some (.int .i64 (st.boxes[a]).x1) ∧ w'.cell? ⟨gb, a * 4 + 1, none⟩ = some (.int .i64 (st.boxes[a]).y1) ∧ w'.cell? ⟨gb, a * 4 + 2, none⟩ = some (.int .i64 (st.boxes[a]).x2) ∧ w'.cell? ⟨gb, a * 4 + 3, none⟩ = some (.int .i64 (st.boxes[a]).y2))) (by kernel_rfl) hS (fun _ => ?_)
 refine tJ 0 hS ?_
 refine tJ 1 hS ?_
 refine tJ 2 hS ?_
 refine tJ 3 hS ?_
 refine tJ 4 hS ?_
 refine tJ 5 hS ?_
 refine tJ 6 hS ?_
 refine tJ 7 hS ?_
 refine rJ 8 fun K hK => ?_
 go_simp
 have past : ∀ (x : Obj) (g i : Nat) (u : Value), g < ((w.alloc (.cells #[.int .i64 kd, .int .i64 (a : Int), .int .i64 (b : Int), .int .i64 sI] 76))).heap.size → ((w.alloc (.cells #[.int .i64 kd, .int .i64 (a : Int), .int .i64 (b : Int), .int .i64 sI] 76))).cell? ⟨g, i, none⟩ = some u → (((w.alloc (.cells #[.int .i64 kd, .int .i64 (a : Int), .int .i64 (b : Int), .int .i64 sI] 76))).alloc x).drew.cell? ⟨g, i, none⟩ = some u := fun x g i u hg hc => (World.cell?_alloc_past (w := (w.alloc (.cells #[.int .i64 kd, .int .i64 (a : Int), .int .i64 (b : Int), .int .i64 sI] 76))) _ _ _ hg).trans hc
 have hgpA := RD.row.lt
 have hgbA := RD.bs.lt
 have h5A := R5.lt
 refine hK.out _ _ ?_ (fun hHeld => ?_)
 · exact ⟨past _ _ _ _ hgpA p3, past _ _ _ _ h5A q1, past _ _ _ _ hgbA x0, past _ _ _ _ hgbA x1, past _ _ _ _ hgbA x2, past _ _ _ _ hgbA x3⟩
 clear hK K hHeld
 refine rJ 9 fun K hK => ?_
 go_simp
 refine hK.out _ _ ?_ (fun hHeld => ?_)
 · exact ⟨past _ _ _ _ hgpA p3, past _ _ _ _ h5A q1, past _ _ _ _ hgbA x0, past _ _ _ _ hgbA x1, past _ _ _ _ hgbA x2, past _ _ _ _ hgbA x3⟩
 clear hK K hHeld hS past hgpA hgbA h5A
 refine wpAnyH_done (by kernel_rfl) ?_ _
 have R6 := (Row.new ((w.alloc (.cells #[.int .i64 kd, .int .i64 (a : Int), .int .i64 (b : Int), .int .i64 sI] 76))) 48 #[.int .i64 (st.boxes[a]).x1, .int .i64 (st.boxes[a]).y1, .int .i64 (st.boxes[a]).x2, .int .i64 (st.boxes[a]).y2]).drew
 replace RD := (RD.alloc (.cells #[.int .i64 (st.boxes[a]).x1, .int .i64 (st.boxes[a]).y1, .int .i64 (st.boxes[a]).x2, .int .i64 (st.boxes[a]).y2] 48)).drew
 replace R5 := (R5.alloc (.cells #[.int .i64 (st.boxes[a]).x1, .int .i64 (st.boxes[a]).y1, .int .i64 (st.boxes[a]).x2, .int .i64 (st.boxes[a]).y2] 48)).drew
 have on : Only [gp, gu, gb, gd] w (((w.alloc (.cells #[.int .i64 kd, .int .i64 (a : Int), .int .i64 (b : Int), .int .i64 sI] 76))).alloc (.cells #[.int .i64 (st.boxes[a]).x1, .int .i64 (st.boxes[a]).y1, .int .i64 (st.boxes[a]).x2, .int .i64 (st.boxes[a]).y2] 48)).drew := (((Only.refl _ _).alloc _).alloc _).drew
 rw [show ((w.alloc (.cells #[.int .i64 kd, .int .i64 (a : Int), .int .i64 (b : Int), .int .i64 sI] 76))).heap.size = w.heap.size + 1 by simp] at R6
 generalize hw1 : (((w.alloc (.cells #[.int .i64 kd, .int .i64 (a : Int), .int .i64 (b : Int), .int .i64 sI] 76))).alloc (.cells #[.int .i64 (st.boxes[a]).x1, .int .i64 (st.boxes[a]).y1, .int .i64 (st.boxes[a]).x2, .int .i64 (st.boxes[a]).y2] 48)).drew = w1 at RD R5 R6 on ⊢
 generalize hb6' : w.heap.size + 1 = b6 at R6 ⊢
 have hb6 : w.heap.size < b6 := by omega
 clear hw1 hb6' p3 q1 x0 x1 x2 x3
 have f0 := R6.c0
 have f1 := R6.c1
 have f2 := R6.c2
 have f3 := R6.c3
 go_wp2_with fail
 clear f0 f1 f2 f3
 have Rnew := Row.new w1 48 #[.int .i64 (st.boxes[a]).x1, .int .i64 (st.boxes[a]).y1, .int .i64 (st.boxes[a]).x2, .int .i64 (st.boxes[a]).y2]
 have hlt7 := R6.lt
 replace RD := RD.alloc (.cells #[.int .i64 (st.boxes[a]).x1, .int .i64 (st.boxes[a]).y1, .int .i64 (st.boxes[a]).x2, .int .i64 (st.boxes[a]).y2] 48)
 replace R5 := R5.alloc (.cells #[.int .i64 (st.boxes[a]).x1, .int .i64 (st.boxes[a]).y1, .int .i64 (st.boxes[a]).x2, .int .i64 (st.boxes[a]).y2] 48)
 replace R6 := R6.alloc (.cells #[.int .i64 (st.boxes[a]).x1, .int .i64 (st.boxes[a]).y1, .int .i64 (st.boxes[a]).x2, .int .i64 (st.boxes[a]).y2] 48)
 replace on := on.alloc (.cells #[.int .i64 (st.boxes[a]).x1, .int .i64 (st.boxes[a]).y1, .int .i64 (st.boxes[a]).x2, .int .i64 (st.boxes[a]).y2] 48)
 generalize hwn : w1.alloc (.cells #[.int .i64 (st.boxes[a]).x1, .int .i64 (st.boxes[a]).y1, .int .i64 (st.boxes[a]).x2, .int .i64 (st.boxes[a]).y2] 48) = w2 at RD on Rnew R5 R6 ⊢
 generalize hbn : w1.heap.size = b7 at Rnew hlt7 ⊢
 have R7 := Rnew
 clear hwn hbn Rnew
 have p5 := RD.row.c5
 have q1 := R5.c1
 have y0 := RD.depCell had
 have y1 := RD.depCell (k := k) (by rw [hdp.out]; exact hat)
 have Fd := RD.ds.frozen
 have ew := IntWalk.i64_in (st.depth[a] + 1) (by omega)
 go_still_tail 15, (by kernel_rfl)
 go_upto_region 4 with fail
 replace RD := (RD.setDep k (st.depth[a] + 1)).drew
 replace on := (on.set (p := ⟨gd, k, none⟩) (by simp) (.int .i64 (st.depth[a] + 1))).drew
 replace R5 := (R5.far (p := ⟨gd, k, none⟩) (by show _ ≠ gd; omega) (.int .i64 (st.depth[a] + 1))).drew
 replace R6 := (R6.far (p := ⟨gd, k, none⟩) (by show _ ≠ gd; omega) (.int .i64 (st.depth[a] + 1))).drew
 replace R7 := (R7.far (p := ⟨gd, k, none⟩) (by show _ ≠ gd; omega) (.int .i64 (st.depth[a] + 1))).drew
 generalize (w2.setCell ⟨gd, k, none⟩ (.int .i64 (st.depth[a] + 1))).drew = w3 at RD on R5 R6 R7 ⊢
 clear p5 q1 y0 y1 Fd
 have q0 := R5.c0
 have f0 := R6.c0
 have f1 := R6.c1
 have f2 := R6.c2
 have f3 := R6.c3
 go_upto_region 5 with fail
 clear q0
 clear f0 f1 f2 f3
 have h7p : gp ≠ b7 := by omega
 have h7u : gu ≠ b7 := by omega
 have h7b : gb ≠ b7 := by omega
 have h7d : gd ≠ b7 := by omega
 have h7l : b7 ∉ Fl := fun hb => by have := hFl _ hb; omega
 have h7n : b7 ∉ Fn := fun hb => by have := hFn _ hb; omega
 have c70 := R7.c0
 have c71 := R7.c1
 have c72 := R7.c2
 have c73 := R7.c3
 have F7 := R7.frozen
 have p3 := RD.row.c3
 have q2 := R5.c2
 obtain ⟨x0, x1, x2, x3⟩ := RD.boxCell hbl
 dsimp only at x0 x1 x2 x3
 go_still_tail 8, (by kernel_rfl)
 go_upto_region 6 with fail
 replace RD := ((((RD.far 0 (.int .i64 (st.boxes[b]).x1) h7p h7u h7b h7d h7l h7n).far 1 (.int .i64 (st.boxes[b]).y1) h7p h7u h7b h7d h7l h7n).far 2 (.int .i64 (st.boxes[b]).x2) h7p h7u h7b h7d h7l h7n).far 3 (.int .i64 (st.boxes[b]).y2) h7p h7u h7b h7d h7l h7n).drew
 replace on := ((((on.set_new (p := ⟨b7, 0, none⟩) (by show _ ≤ b7; omega) (.int .i64 (st.boxes[b]).x1)).set_new (p := ⟨b7, 1, none⟩) (by show _ ≤ b7; omega) (.int .i64 (st.boxes[b]).y1)).set_new (p := ⟨b7, 2, none⟩) (by show _ ≤ b7; omega) (.int .i64 (st.boxes[b]).x2)).set_new (p := ⟨b7, 3, none⟩) (by show _ ≤ b7; omega) (.int .i64 (st.boxes[b]).y2)).drew
 replace R7 := (four_cells R7 rfl (.int .i64 (st.boxes[b]).x1) (.int .i64 (st.boxes[b]).y1) (.int .i64 (st.boxes[b]).x2) (.int .i64 (st.boxes[b]).y2)).drew
 replace R5 := (R5.far4 (t := b7) (by omega) (.int .i64 (st.boxes[b]).x1) (.int .i64 (st.boxes[b]).y1) (.int .i64 (st.boxes[b]).x2) (.int .i64 (st.boxes[b]).y2)).drew
 replace R6 := (R6.far4 (t := b7) (by omega) (.int .i64 (st.boxes[b]).x1) (.int .i64 (st.boxes[b]).y1) (.int .i64 (st.boxes[b]).x2) (.int .i64 (st.boxes[b]).y2)).drew
 generalize ((((w3.setCell ⟨b7, 0, none⟩ (.int .i64 (st.boxes[b]).x1)).setCell ⟨b7, 1, none⟩ (.int .i64 (st.boxes[b]).y1)).setCell ⟨b7, 2, none⟩ (.int .i64 (st.boxes[b]).x2)).setCell ⟨b7, 3, none⟩ (.int .i64 (st.boxes[b]).y2)).drew = w3a at RD on R5 R6 R7 ⊢
 clear c70 c71 c72 c73 F7 p3 q2 x0 x1 x2 x3
 have p5 := RD.row.c5
 have q1 := R5.c1
 have q2 := R5.c2
 have y0 : w3a.cell? ⟨gd, a, none⟩ = some (.int .i64 st.depth[a]) := by have := RD.depCell (k := a) (by simpa using had); dsimp only at this; rwa [List.getElem_set_ne (by omega)] at this
 have y1 : w3a.cell? ⟨gd, b, none⟩ = some (.int .i64 st.depth[b]) := by have := RD.depCell (k := b) (by simpa using hbd); dsimp only at this; rwa [List.getElem_set_ne (by omega)] at this
 have y2 := RD.depCell (k := k) (by simp only [List.length_set]; rw [hdp.out]; exact hat)
 have Fd := RD.ds.frozen
 obtain ⟨M, hM⟩ : ∃ M, max st.depth[a] st.depth[b] = M := ⟨_, rfl⟩
 have ewM := IntWalk.i64_in (M + 1) (by omega)
 have CM := Lib.hid (show ∀ w : World, Calls Try.prog 60 #[.int .i64 st.depth[a], .int .i64 st.depth[b]] w fun e w' => e = .returned (.int .i64 M) ∧ w' = w from by
  intro w
  rw [← hM]
  exact spec_max_c _ _ w)
 go_still_tail 24, (by kernel_rfl)
 still_call (CM.out _)
 repeat still_step
 refine wpStill_nil ?_
 go_upto_region 7 with fail
 replace RD := (RD.setDep k (M + 1)).drew
 replace on := (on.set (p := ⟨gd, k, none⟩) (by simp) (.int .i64 (M + 1))).drew
 replace R5 := (R5.far (p := ⟨gd, k, none⟩) (by show _ ≠ gd; omega) (.int .i64 (M + 1))).drew
 replace R6 := (R6.far (p := ⟨gd, k, none⟩) (by show _ ≠ gd; omega) (.int .i64 (M + 1))).drew
 replace R7 := (R7.far (p := ⟨gd, k, none⟩) (by show _ ≠ gd; omega) (.int .i64 (M + 1))).drew
 generalize (w3a.setCell ⟨gd, k, none⟩ (.int .i64 (M + 1))).drew = w3b at RD on R5 R6 R7 ⊢
 have hdM := Lib.hid hM
 clear p5 q1 q2 y0 y1 y2 Fd hM CM
 have q0 := R5.c0
 have f0 := R6.c0
 have f1 := R6.c1
 have f2 := R6.c2
 have f3 := R6.c3
 go_upto_region 8 with fail
 clear q0
 clear f0 f1 f2 f3
 have Rnew := Row.new w3b 48 #[.int .i64 (st.boxes[a]).x1, .int .i64 (st.boxes[a]).y1, .int .i64 (st.boxes[a]).x2, .int .i64 (st.boxes[a]).y2]
 have hlt8 := R7.lt
 replace RD := RD.alloc (.cells #[.int .i64 (st.boxes[a]).x1, .int .i64 (st.boxes[a]).y1, .int .i64 (st.boxes[a]).x2, .int .i64 (st.boxes[a]).y2] 48)
 replace R5 := R5.alloc (.cells #[.int .i64 (st.boxes[a]).x1, .int .i64 (st.boxes[a]).y1, .int .i64 (st.boxes[a]).x2, .int .i64 (st.boxes[a]).y2] 48)
 replace R6 := R6.alloc (.cells #[.int .i64 (st.boxes[a]).x1, .int .i64 (st.boxes[a]).y1, .int .i64 (st.boxes[a]).x2, .int .i64 (st.boxes[a]).y2] 48)
 replace R7 := R7.alloc (.cells #[.int .i64 (st.boxes[a]).x1, .int .i64 (st.boxes[a]).y1, .int .i64 (st.boxes[a]).x2, .int .i64 (st.boxes[a]).y2] 48)
 replace on := on.alloc (.cells #[.int .i64 (st.boxes[a]).x1, .int .i64 (st.boxes[a]).y1, .int .i64 (st.boxes[a]).x2, .int .i64 (st.boxes[a]).y2] 48)
 generalize hwn : w3b.alloc (.cells #[.int .i64 (st.boxes[a]).x1, .int .i64 (st.boxes[a]).y1, .int .i64 (st.boxes[a]).x2, .int .i64 (st.boxes[a]).y2] 48) = w4 at RD on Rnew R5 R6 R7 ⊢
 generalize hbn : w3b.heap.size = b8 at Rnew hlt8 ⊢
 have R8 := Rnew
 clear hwn hbn Rnew
 have q0 := R5.c0
 have CL := Lib.hid (show ∀ w : World, Calls Try.prog 40 #[.int .i64 kd] w fun e w' => e = .returned (.string ⟨#[]⟩) ∧ w' = w from (fun w => labelF_none hkd ▸ spec_l21Label_c kd w))
 go_wp2_with fail
 refine (CL.out _).mono ?_
 rintro en w5 ⟨rfl, rfl⟩
 go_upto_region 10 with fail
 clear q0
 have q0 := R5.c0
 have fa0 := R6.c0
 have fa1 := R6.c1
 have fa2 := R6.c2
 have fa3 := R6.c3
 have fb0 := R7.c0
 have fb1 := R7.c1
 have fb2 := R7.c2
 have fb3 := R7.c3
 have fs0 := R8.c0
 have fs1 := R8.c1
 have fs2 := R8.c2
 have fs3 := R8.c3
 have p7 : w5.cell? ⟨gp, 7, none⟩ = some (.bool true) := by rw [← hg]; exact RD.row.cell' (i := 7) rfl
 have CF := Lib.hid (spec_l21Fits_c kd (st.boxes[a]) (st.boxes[b]) (st.boxes[a]) w5 (by omega) hba hbb hsb)
 have hown := ownF_le kd hba hbb hsb
 go_wp2_with fail
 refine CF.out.mono ?_
 rintro en w6 ⟨rfl, b6x⟩
 clear CF p7 q0
 clear fa0 fa1 fa2 fa3 fb0 fb1 fb2 fb3 fs0 fs1 fs2 fs3
 replace RD := RD.below b6x
 replace R5 := R5.later b6x
 replace R6 := R6.later b6x
 replace R7 := R7.later b6x
 replace R8 := R8.later b6x
 replace on := on.trans (Only.of_below b6x)
 have p7 : w6.cell? ⟨gp, 7, none⟩ = some (.bool true) := by rw [← hg]; exact RD.row.cell' (i := 7) rfl
 have Fp := RD.row.frozen
 go_upto_region 11 with fail
 replace RD := RD.setGood (fitsF kd (st.boxes[a]) (st.boxes[b]) (st.boxes[a]))
 replace R5 := R5.far (p := ⟨gp, 7, none⟩) (by show _ ≠ gp; omega) (.bool (fitsF kd (st.boxes[a]) (st.boxes[b]) (st.boxes[a])))
 replace R6 := R6.far (p := ⟨gp, 7, none⟩) (by show _ ≠ gp; omega) (.bool (fitsF kd (st.boxes[a]) (st.boxes[b]) (st.boxes[a])))
 replace R7 := R7.far (p := ⟨gp, 7, none⟩) (by show _ ≠ gp; omega) (.bool (fitsF kd (st.boxes[a]) (st.boxes[b]) (st.boxes[a])))
 replace R8 := R8.far (p := ⟨gp, 7, none⟩) (by show _ ≠ gp; omega) (.bool (fitsF kd (st.boxes[a]) (st.boxes[b]) (st.boxes[a])))
 replace on := on.set (p := ⟨gp, 7, none⟩) (by simp) (.bool (fitsF kd (st.boxes[a]) (st.boxes[b]) (st.boxes[a])))
 generalize w6.setCell ⟨gp, 7, none⟩ (.bool (fitsF kd (st.boxes[a]) (st.boxes[b]) (st.boxes[a]))) = w7 at RD on R5 R6 R7 R8 ⊢
 clear p7 Fp b6x
 have p4 := RD.row.c4
 have Fp := RD.row.frozen
 have hS : (fun w' : World => w'.cell? ⟨w.heap.size, 0, none⟩ = some (.int .i64 kd) ∧ (w'.cell? ⟨b6, 0, none⟩ = some (.int .i64 (st.boxes[a]).x1) ∧ w'.cell? ⟨b6, 1, none⟩ = some (.int .i64 (st.boxes[a]).y1) ∧ w'.cell? ⟨b6, 2, none⟩ = some (.int .i64 (st.boxes[a]).x2) ∧ w'.cell? ⟨b6, 3, none⟩ = some (.int .i64 (st.boxes[a]).y2)) ∧ (w'.cell? ⟨b7, 0, none⟩ = some (.int .i64 (st.boxes[b]).x1) ∧ w'.cell? ⟨b7, 1, none⟩ = some (.int .i64 (st.boxes[b]).y1) ∧ w'.cell? ⟨b7, 2, none⟩ = some (.int .i64 (st.boxes[b]).x2) ∧ w'.cell? ⟨b7, 3, none⟩ = some (.int .i64 (st.boxes[b]).y2)) ∧ w'.cell? ⟨b8, 0, none⟩ = some (.int .i64 (st.boxes[a]).x1) ∧ w'.cell? ⟨b8, 1, none⟩ = some (.int .i64 (st.boxes[a]).y1) ∧ w'.cell? ⟨b8, 2, none⟩ = some (.int .i64 (st.boxes[a]).x2) ∧ w'.cell? ⟨b8, 3, none⟩ = some (.int .i64 (st.boxes[a]).y2)) w7.drew := ⟨R5.c0, ⟨R6.c0, R6.c1, R6.c2, R6.c3⟩, ⟨R7.c0, R7.c1, R7.c2, R7.c3⟩, R8.c0, R8.c1, R8.c2, R8.c3⟩
 dsimp only at hS
 refine wp_region_held_drew (S := (fun w' : World => w'.cell? ⟨w.heap.size, 0, none⟩ = some (.int .i64 kd) ∧ (w'.cell? ⟨b6, 0, none⟩ = some (.int .i64 (st.boxes[a]).x1) ∧ w'.cell? ⟨b6, 1, none⟩ = some (.int .i64 (st.boxes[a]).y1) ∧ w'.cell? ⟨b6, 2, none⟩ = some (.int .i64 (st.boxes[a]).x2) ∧ w'.cell? ⟨b6, 3, none⟩ = some (.int .i64 (st.boxes[a]).y2)) ∧ (w'.cell? ⟨b7, 0, none⟩ = some (.int .i64 (st.boxes[b]).x1) ∧ w'.cell? ⟨b7, 1, none⟩ = some (.int .i64 (st.boxes[b]).y1) ∧ w'.cell? ⟨b7, 2, none⟩ = some (.int .i64 (st.boxes[b]).x2) ∧ w'.cell? ⟨b7, 3, none⟩ = some (.int .i64 (st.boxes[b]).y2)) ∧ w'.cell? ⟨b8, 0, none⟩ = some (.int .i64 (st.boxes[a]).x1) ∧ w'.cell? ⟨b8, 1, none⟩ = some (.int .i64 (st.boxes[a]).y1) ∧ w'.cell? ⟨b8, 2, none⟩ = some (.int .i64 (st.boxes[a]).x2) ∧ w'.cell? ⟨b8, 3, none⟩ = some (.int .i64 (st.boxes[a]).y2))) (by kernel_rfl) hS (fun _ => ?_)
 have CO := Lib.hid (fun w => spec_l21Own_c kd (st.boxes[a]) (st.boxes[b]) (st.boxes[a]) w hba hbb hsb)
 have ew := IntWalk.i64_in (st.cost + ownF kd (st.boxes[a]) (st.boxes[b]) (st.boxes[a])) (by omega)
 refine tJ 0 hS ?_
 refine tJ 1 hS ?_
 refine tJ 2 hS ?_
 refine tJ 4 hS ?_
 refine tJ 5 hS ?_
 refine tJ 6 hS ?_
 refine tJ 7 hS ?_
 refine tJ 8 hS ?_
 refine rJ2 3 9 (fun K hK => ?_) (fun K hK => ?_)
 · go_simp
   refine hK.out _ _ hS (fun hHeld => ?_)
   clear hK K hHeld
   try simp only [Act.put, List.setIfInBounds_toArray, List.set_cons_zero, List.set_cons_succ]
   refine rJ 9 fun K hK => ?_
   refine step_call 98 #[.tmp 102, .tmp 103, .tmp 104, .tmp 105] _ rfl rfl #[.int .i64 kd, .agg #[.int .i64 (st.boxes[a]).x1, .int .i64 (st.boxes[a]).y1, .int .i64 (st.boxes[a]).x2, .int .i64 (st.boxes[a]).y2], .agg #[.int .i64 (st.boxes[a]).x1, .int .i64 (st.boxes[a]).y1, .int .i64 (st.boxes[a]).x2, .int .i64 (st.boxes[a]).y2], .agg #[.int .i64 (st.boxes[b]).x1, .int .i64 (st.boxes[b]).y1, .int .i64 (st.boxes[b]).x2, .int .i64 (st.boxes[b]).y2]] Try.call98 (by go_simp) (CO.out _) ?_
   rintro en w8 ⟨rfl, b8x⟩
   refine ⟨_, rfl, ?_⟩
   replace RD := RD.drew.below b8x
   replace R5 := R5.drew.later b8x
   replace R6 := R6.drew.later b8x
   replace R7 := R7.drew.later b8x
   replace R8 := R8.drew.later b8x
   replace on := on.drew.trans (Only.of_below b8x)
   replace hS : (fun w' : World => w'.cell? ⟨w.heap.size, 0, none⟩ = some (.int .i64 kd) ∧ (w'.cell? ⟨b6, 0, none⟩ = some (.int .i64 (st.boxes[a]).x1) ∧ w'.cell? ⟨b6, 1, none⟩ = some (.int .i64 (st.boxes[a]).y1) ∧ w'.cell? ⟨b6, 2, none⟩ = some (.int .i64 (st.boxes[a]).x2) ∧ w'.cell? ⟨b6, 3, none⟩ = some (.int .i64 (st.boxes[a]).y2)) ∧ (w'.cell? ⟨b7, 0, none⟩ = some (.int .i64 (st.boxes[b]).x1) ∧ w'.cell? ⟨b7, 1, none⟩ = some (.int .i64 (st.boxes[b]).y1) ∧ w'.cell? ⟨b7, 2, none⟩ = some (.int .i64 (st.boxes[b]).x2) ∧ w'.cell? ⟨b7, 3, none⟩ = some (.int .i64 (st.boxes[b]).y2)) ∧ w'.cell? ⟨b8, 0, none⟩ = some (.int .i64 (st.boxes[a]).x1) ∧ w'.cell? ⟨b8, 1, none⟩ = some (.int .i64 (st.boxes[a]).y1) ∧ w'.cell? ⟨b8, 2, none⟩ = some (.int .i64 (st.boxes[a]).x2) ∧ w'.cell? ⟨b8, 3, none⟩ = some (.int .i64 (st.boxes[a]).y2)) w8 := ⟨R5.c0, ⟨R6.c0, R6.c1, R6.c2, R6.c3⟩, ⟨R7.c0, R7.c1, R7.c2, R7.c3⟩, R8.c0, R8.c1, R8.c2, R8.c3⟩
   dsimp only at hS
   replace p4 := RD.row.c4
   replace Fp := RD.row.frozen
   clear b8x
   refine bJ hK hS ?_
   clear hK K
   simp only [Act.put, pA, pB, pC]
   refine tJ 10 hS ?_
   refine tJ 11 hS ?_
   refine tJ 12 hS ?_
   refine rJ 13 fun K hK => ?_
   go_simp
   replace RD := RD.setCost (st.cost + ownF kd (st.boxes[a]) (st.boxes[b]) (st.boxes[a]))
   replace R5 := R5.far (p := ⟨gp, 4, none⟩) (by show _ ≠ gp; omega) (.int .i64 (st.cost + ownF kd (st.boxes[a]) (st.boxes[b]) (st.boxes[a])))
   replace R6 := R6.far (p := ⟨gp, 4, none⟩) (by show _ ≠ gp; omega) (.int .i64 (st.cost + ownF kd (st.boxes[a]) (st.boxes[b]) (st.boxes[a])))
   replace R7 := R7.far (p := ⟨gp, 4, none⟩) (by show _ ≠ gp; omega) (.int .i64 (st.cost + ownF kd (st.boxes[a]) (st.boxes[b]) (st.boxes[a])))
   replace R8 := R8.far (p := ⟨gp, 4, none⟩) (by show _ ≠ gp; omega) (.int .i64 (st.cost + ownF kd (st.boxes[a]) (st.boxes[b]) (st.boxes[a])))
   replace on := on.set (p := ⟨gp, 4, none⟩) (by simp) (.int .i64 (st.cost + ownF kd (st.boxes[a]) (st.boxes[b]) (st.boxes[a])))
   refine hK.out _ _ ?_ (fun hHeld => ?_)
   · exact ⟨R5.c0, ⟨R6.c0, R6.c1, R6.c2, R6.c3⟩, ⟨R7.c0, R7.c1, R7.c2, R7.c3⟩, R8.c0, R8.c1, R8.c2, R8.c3⟩
   clear hK K hHeld hS p4 Fp
   refine wpAnyH_done (by kernel_rfl) ?_ _
   generalize w8.setCell ⟨gp, 4, none⟩ (.int .i64 (st.cost + ownF kd (st.boxes[a]) (st.boxes[b]) (st.boxes[a]))) = w9 at RD on R5 R6 R7 R8 ⊢
   go_wp2_with fail
   have CX := Lib.hid (show ∀ w, Calls Try.prog 43 #[.agg #[.int .i64 (st.boxes[a]).x1, .int .i64 (st.boxes[a]).y1, .int .i64 (st.boxes[a]).x2, .int .i64 (st.boxes[a]).y2], .agg #[.int .i64 (st.boxes[b]).x1, .int .i64 (st.boxes[b]).y1, .int .i64 (st.boxes[b]).x2, .int .i64 (st.boxes[b]).y2]] w fun e w' => e = .returned (.agg #[.int .i64 (X).x1, .int .i64 (X).y1, .int .i64 (X).x2, .int .i64 (X).y2]) ∧ Below w.heap.size w w' from by
    intro w
    rw [← HX.out]
    exact spec_l02Join_c (st.boxes[a]) (st.boxes[b]) w)
   have CY := Lib.hid (show ∀ w, Calls Try.prog 43 #[.agg #[.int .i64 (X).x1, .int .i64 (X).y1, .int .i64 (X).x2, .int .i64 (X).y2], .agg #[.int .i64 (st.boxes[a]).x1, .int .i64 (st.boxes[a]).y1, .int .i64 (st.boxes[a]).x2, .int .i64 (st.boxes[a]).y2]] w fun e w' => e = .returned (.agg #[.int .i64 (Y).x1, .int .i64 (Y).y1, .int .i64 (Y).x2, .int .i64 (Y).y2]) ∧ Below w.heap.size w w' from by
    intro w
    rw [← HY.out]
    exact spec_l02Join_c X (st.boxes[a]) w)
   have hS : (fun w' : World => w'.cell? ⟨gp, 3, none⟩ = some (.slice (some ⟨gb, 0, none⟩) ns.length ns.length) ∧ (w'.cell? ⟨b6, 0, none⟩ = some (.int .i64 (st.boxes[a]).x1) ∧ w'.cell? ⟨b6, 1, none⟩ = some (.int .i64 (st.boxes[a]).y1) ∧ w'.cell? ⟨b6, 2, none⟩ = some (.int .i64 (st.boxes[a]).x2) ∧ w'.cell? ⟨b6, 3, none⟩ = some (.int .i64 (st.boxes[a]).y2)) ∧ (w'.cell? ⟨b7, 0, none⟩ = some (.int .i64 (st.boxes[b]).x1) ∧ w'.cell? ⟨b7, 1, none⟩ = some (.int .i64 (st.boxes[b]).y1) ∧ w'.cell? ⟨b7, 2, none⟩ = some (.int .i64 (st.boxes[b]).x2) ∧ w'.cell? ⟨b7, 3, none⟩ = some (.int .i64 (st.boxes[b]).y2)) ∧ w'.cell? ⟨b8, 0, none⟩ = some (.int .i64 (st.boxes[a]).x1) ∧ w'.cell? ⟨b8, 1, none⟩ = some (.int .i64 (st.boxes[a]).y1) ∧ w'.cell? ⟨b8, 2, none⟩ = some (.int .i64 (st.boxes[a]).x2) ∧ w'.cell? ⟨b8, 3, none⟩ = some (.int .i64 (st.boxes[a]).y2)) w9.drew := ⟨RD.row.c3, ⟨R6.c0, R6.c1, R6.c2, R6.c3⟩, ⟨R7.c0, R7.c1, R7.c2, R7.c3⟩, R8.c0, R8.c1, R8.c2, R8.c3⟩
   dsimp only at hS
   refine wp_region_held_drew (S := (fun w' : World => w'.cell? ⟨gp, 3, none⟩ = some (.slice (some ⟨gb, 0, none⟩) ns.length ns.length) ∧ (w'.cell? ⟨b6, 0, none⟩ = some (.int .i64 (st.boxes[a]).x1) ∧ w'.cell? ⟨b6, 1, none⟩ = some (.int .i64 (st.boxes[a]).y1) ∧ w'.cell? ⟨b6, 2, none⟩ = some (.int .i64 (st.boxes[a]).x2) ∧ w'.cell? ⟨b6, 3, none⟩ = some (.int .i64 (st.boxes[a]).y2)) ∧ (w'.cell? ⟨b7, 0, none⟩ = some (.int .i64 (st.boxes[b]).x1) ∧ w'.cell? ⟨b7, 1, none⟩ = some (.int .i64 (st.boxes[b]).y1) ∧ w'.cell? ⟨b7, 2, none⟩ = some (.int .i64 (st.boxes[b]).x2) ∧ w'.cell? ⟨b7, 3, none⟩ = some (.int .i64 (st.boxes[b]).y2)) ∧ w'.cell? ⟨b8, 0, none⟩ = some (.int .i64 (st.boxes[a]).x1) ∧ w'.cell? ⟨b8, 1, none⟩ = some (.int .i64 (st.boxes[a]).y1) ∧ w'.cell? ⟨b8, 2, none⟩ = some (.int .i64 (st.boxes[a]).x2) ∧ w'.cell? ⟨b8, 3, none⟩ = some (.int .i64 (st.boxes[a]).y2))) (by kernel_rfl) hS (fun _ => ?_)
   refine tJ 0 hS ?_
   refine tJ 1 hS ?_
   refine tJ 2 hS ?_
   refine tJ 3 hS ?_
   refine tJ 4 hS ?_
   refine tJ 5 hS ?_
   refine tJ 6 hS ?_
   refine tJ 8 hS ?_
   refine rJ 7 fun K hK => ?_
   refine step_call 43 #[.tmp 115, .tmp 116] _ rfl rfl #[.agg #[.int .i64 (st.boxes[a]).x1, .int .i64 (st.boxes[a]).y1, .int .i64 (st.boxes[a]).x2, .int .i64 (st.boxes[a]).y2], .agg #[.int .i64 (st.boxes[b]).x1, .int .i64 (st.boxes[b]).y1, .int .i64 (st.boxes[b]).x2, .int .i64 (st.boxes[b]).y2]] Try.call43 (by go_simp) (CX.out _) ?_
   rintro en w10 ⟨rfl, bA⟩
   refine ⟨_, rfl, ?_⟩
   replace RD := RD.drew.below bA
   replace R6 := R6.drew.later bA
   replace R7 := R7.drew.later bA
   replace R8 := R8.drew.later bA
   replace on := on.drew.trans (Only.of_below bA)
   replace hS : (fun w' : World => w'.cell? ⟨gp, 3, none⟩ = some (.slice (some ⟨gb, 0, none⟩) ns.length ns.length) ∧ (w'.cell? ⟨b6, 0, none⟩ = some (.int .i64 (st.boxes[a]).x1) ∧ w'.cell? ⟨b6, 1, none⟩ = some (.int .i64 (st.boxes[a]).y1) ∧ w'.cell? ⟨b6, 2, none⟩ = some (.int .i64 (st.boxes[a]).x2) ∧ w'.cell? ⟨b6, 3, none⟩ = some (.int .i64 (st.boxes[a]).y2)) ∧ (w'.cell? ⟨b7, 0, none⟩ = some (.int .i64 (st.boxes[b]).x1) ∧ w'.cell? ⟨b7, 1, none⟩ = some (.int .i64 (st.boxes[b]).y1) ∧ w'.cell? ⟨b7, 2, none⟩ = some (.int .i64 (st.boxes[b]).x2) ∧ w'.cell? ⟨b7, 3, none⟩ = some (.int .i64 (st.boxes[b]).y2)) ∧ w'.cell? ⟨b8, 0, none⟩ = some (.int .i64 (st.boxes[a]).x1) ∧ w'.cell? ⟨b8, 1, none⟩ = some (.int .i64 (st.boxes[a]).y1) ∧ w'.cell? ⟨b8, 2, none⟩ = some (.int .i64 (st.boxes[a]).x2) ∧ w'.cell? ⟨b8, 3, none⟩ = some (.int .i64 (st.boxes[a]).y2)) w10 := ⟨RD.row.c3, ⟨R6.c0, R6.c1, R6.c2, R6.c3⟩, ⟨R7.c0, R7.c1, R7.c2, R7.c3⟩, R8.c0, R8.c1, R8.c2, R8.c3⟩
   dsimp only at hS
   clear bA
   refine bJ hK hS ?_
   clear hK K
   simp only [Act.put, pA, pB, pC]
   refine rJ 9 fun K hK => ?_
   refine step_call 43 #[.tmp 117, .tmp 118] _ rfl rfl #[.agg #[.int .i64 (X).x1, .int .i64 (X).y1, .int .i64 (X).x2, .int .i64 (X).y2], .agg #[.int .i64 (st.boxes[a]).x1, .int .i64 (st.boxes[a]).y1, .int .i64 (st.boxes[a]).x2, .int .i64 (st.boxes[a]).y2]] Try.call43 (by go_simp) (CY.out _) ?_
   rintro en w11 ⟨rfl, bA⟩
   refine ⟨_, rfl, ?_⟩
   replace RD := RD.below bA
   replace R6 := R6.later bA
   replace R7 := R7.later bA
   replace R8 := R8.later bA
   replace on := on.trans (Only.of_below bA)
   replace hS : (fun w' : World => w'.cell? ⟨gp, 3, none⟩ = some (.slice (some ⟨gb, 0, none⟩) ns.length ns.length) ∧ (w'.cell? ⟨b6, 0, none⟩ = some (.int .i64 (st.boxes[a]).x1) ∧ w'.cell? ⟨b6, 1, none⟩ = some (.int .i64 (st.boxes[a]).y1) ∧ w'.cell? ⟨b6, 2, none⟩ = some (.int .i64 (st.boxes[a]).x2) ∧ w'.cell? ⟨b6, 3, none⟩ = some (.int .i64 (st.boxes[a]).y2)) ∧ (w'.cell? ⟨b7, 0, none⟩ = some (.int .i64 (st.boxes[b]).x1) ∧ w'.cell? ⟨b7, 1, none⟩ = some (.int .i64 (st.boxes[b]).y1) ∧ w'.cell? ⟨b7, 2, none⟩ = some (.int .i64 (st.boxes[b]).x2) ∧ w'.cell? ⟨b7, 3, none⟩ = some (.int .i64 (st.boxes[b]).y2)) ∧ w'.cell? ⟨b8, 0, none⟩ = some (.int .i64 (st.boxes[a]).x1) ∧ w'.cell? ⟨b8, 1, none⟩ = some (.int .i64 (st.boxes[a]).y1) ∧ w'.cell? ⟨b8, 2, none⟩ = some (.int .i64 (st.boxes[a]).x2) ∧ w'.cell? ⟨b8, 3, none⟩ = some (.int .i64 (st.boxes[a]).y2)) w11 := ⟨RD.row.c3, ⟨R6.c0, R6.c1, R6.c2, R6.c3⟩, ⟨R7.c0, R7.c1, R7.c2, R7.c3⟩, R8.c0, R8.c1, R8.c2, R8.c3⟩
   dsimp only at hS
   clear bA
   refine bJ hK hS ?_
   clear hK K
   simp only [Act.put, pA, pB, pC]
   refine tJ 10 hS ?_
   have hkb : k < st.boxes.length := by have := RD.bl; dsimp only at this; omega
   obtain ⟨z0, z1, z2, z3⟩ := RD.boxCell hkb
   have Fb := RD.bs.frozen
   refine rJ 11 fun K hK => ?_
   go_simp
   replace RD := RD.setBox k hat Y
   replace R6 := R6.farB (gb := gb) k Y (by omega)
   replace R7 := R7.farB (gb := gb) k Y (by omega)
   replace R8 := R8.farB (gb := gb) k Y (by omega)
   replace on := (((on.set (p := ⟨gb, k * 4, none⟩) (by simp) (.int .i64 Y.x1)).set (p := ⟨gb, k * 4 + 1, none⟩) (by simp) (.int .i64 Y.y1)).set (p := ⟨gb, k * 4 + 2, none⟩) (by simp) (.int .i64 Y.x2)).set (p := ⟨gb, k * 4 + 3, none⟩) (by simp) (.int .i64 Y.y2)
   refine hK.out _ _ ?_ (fun hHeld => ?_)
   · exact ⟨RD.row.c3, ⟨R6.c0, R6.c1, R6.c2, R6.c3⟩, ⟨R7.c0, R7.c1, R7.c2, R7.c3⟩, R8.c0, R8.c1, R8.c2, R8.c3⟩
   clear hK K hHeld hS z0 z1 z2 z3 Fb
   refine wpAnyH_done (by kernel_rfl) ?_ _
   have HRD := Lib.hid RD
   have HON := Lib.hid on
   clear RD on R6 R7 R8
   go_wp2_with fail
   refine bodyPost_end (v := .tuple #[]) (by simp [results, Try.results90, go_sem]) rfl ⟨⟨_, rfl⟩, HON.out, ?_⟩
   have := HRD.out
   try dsimp only at this
   rw [← hdM.out, List.set_set] at this
   exact this
 · skip
   refine step_call 98 #[.tmp 102, .tmp 103, .tmp 104, .tmp 105] _ rfl rfl #[.int .i64 kd, .agg #[.int .i64 (st.boxes[a]).x1, .int .i64 (st.boxes[a]).y1, .int .i64 (st.boxes[a]).x2, .int .i64 (st.boxes[a]).y2], .agg #[.int .i64 (st.boxes[a]).x1, .int .i64 (st.boxes[a]).y1, .int .i64 (st.boxes[a]).x2, .int .i64 (st.boxes[a]).y2], .agg #[.int .i64 (st.boxes[b]).x1, .int .i64 (st.boxes[b]).y1, .int .i64 (st.boxes[b]).x2, .int .i64 (st.boxes[b]).y2]] Try.call98 (by go_simp) (CO.out _) ?_
   rintro en w8 ⟨rfl, b8x⟩
   refine ⟨_, rfl, ?_⟩
   replace RD := RD.drew.below b8x
   replace R5 := R5.drew.later b8x
   replace R6 := R6.drew.later b8x
   replace R7 := R7.drew.later b8x
   replace R8 := R8.drew.later b8x
   replace on := on.drew.trans (Only.of_below b8x)
   replace hS : (fun w' : World => w'.cell? ⟨w.heap.size, 0, none⟩ = some (.int .i64 kd) ∧ (w'.cell? ⟨b6, 0, none⟩ = some (.int .i64 (st.boxes[a]).x1) ∧ w'.cell? ⟨b6, 1, none⟩ = some (.int .i64 (st.boxes[a]).y1) ∧ w'.cell? ⟨b6, 2, none⟩ = some (.int .i64 (st.boxes[a]).x2) ∧ w'.cell? ⟨b6, 3, none⟩ = some (.int .i64 (st.boxes[a]).y2)) ∧ (w'.cell? ⟨b7, 0, none⟩ = some (.int .i64 (st.boxes[b]).x1) ∧ w'.cell? ⟨b7, 1, none⟩ = some (.int .i64 (st.boxes[b]).y1) ∧ w'.cell? ⟨b7, 2, none⟩ = some (.int .i64 (st.boxes[b]).x2) ∧ w'.cell? ⟨b7, 3, none⟩ = some (.int .i64 (st.boxes[b]).y2)) ∧ w'.cell? ⟨b8, 0, none⟩ = some (.int .i64 (st.boxes[a]).x1) ∧ w'.cell? ⟨b8, 1, none⟩ = some (.int .i64 (st.boxes[a]).y1) ∧ w'.cell? ⟨b8, 2, none⟩ = some (.int .i64 (st.boxes[a]).x2) ∧ w'.cell? ⟨b8, 3, none⟩ = some (.int .i64 (st.boxes[a]).y2)) w8 := ⟨R5.c0, ⟨R6.c0, R6.c1, R6.c2, R6.c3⟩, ⟨R7.c0, R7.c1, R7.c2, R7.c3⟩, R8.c0, R8.c1, R8.c2, R8.c3⟩
   dsimp only at hS
   replace p4 := RD.row.c4
   replace Fp := RD.row.frozen
   clear b8x
   refine bJ hK hS ?_
   clear hK K
   simp only [Act.put, pA, pB, pC]
   refine rJ 3 fun K hK => ?_
   go_simp
   refine hK.out _ _ hS (fun hHeld => ?_)
   clear hK K hHeld
   try simp only [Act.put, List.setIfInBounds_toArray, List.set_cons_zero, List.set_cons_succ]
   refine tJ 10 hS ?_
   refine tJ 11 hS ?_
   refine tJ 12 hS ?_
   refine rJ 13 fun K hK => ?_
   go_simp
   replace RD := RD.setCost (st.cost + ownF kd (st.boxes[a]) (st.boxes[b]) (st.boxes[a]))
   replace R5 := R5.far (p := ⟨gp, 4, none⟩) (by show _ ≠ gp; omega) (.int .i64 (st.cost + ownF kd (st.boxes[a]) (st.boxes[b]) (st.boxes[a])))
   replace R6 := R6.far (p := ⟨gp, 4, none⟩) (by show _ ≠ gp; omega) (.int .i64 (st.cost + ownF kd (st.boxes[a]) (st.boxes[b]) (st.boxes[a])))
   replace R7 := R7.far (p := ⟨gp, 4, none⟩) (by show _ ≠ gp; omega) (.int .i64 (st.cost + ownF kd (st.boxes[a]) (st.boxes[b]) (st.boxes[a])))
   replace R8 := R8.far (p := ⟨gp, 4, none⟩) (by show _ ≠ gp; omega) (.int .i64 (st.cost + ownF kd (st.boxes[a]) (st.boxes[b]) (st.boxes[a])))
   replace on := on.set (p := ⟨gp, 4, none⟩) (by simp) (.int .i64 (st.cost + ownF kd (st.boxes[a]) (st.boxes[b]) (st.boxes[a])))
   refine hK.out _ _ ?_ (fun hHeld => ?_)
   · exact ⟨R5.c0, ⟨R6.c0, R6.c1, R6.c2, R6.c3⟩, ⟨R7.c0, R7.c1, R7.c2, R7.c3⟩, R8.c0, R8.c1, R8.c2, R8.c3⟩
   clear hK K hHeld hS p4 Fp
   refine wpAnyH_done (by kernel_rfl) ?_ _
   generalize w8.setCell ⟨gp, 4, none⟩ (.int .i64 (st.cost + ownF kd (st.boxes[a]) (st.boxes[b]) (st.boxes[a]))) = w9 at RD on R5 R6 R7 R8 ⊢
   go_wp2_with fail
   have CX := Lib.hid (show ∀ w, Calls Try.prog 43 #[.agg #[.int .i64 (st.boxes[a]).x1, .int .i64 (st.boxes[a]).y1, .int .i64 (st.boxes[a]).x2, .int .i64 (st.boxes[a]).y2], .agg #[.int .i64 (st.boxes[b]).x1, .int .i64 (st.boxes[b]).y1, .int .i64 (st.boxes[b]).x2, .int .i64 (st.boxes[b]).y2]] w fun e w' => e = .returned (.agg #[.int .i64 (X).x1, .int .i64 (X).y1, .int .i64 (X).x2, .int .i64 (X).y2]) ∧ Below w.heap.size w w' from by
    intro w
    rw [← HX.out]
    exact spec_l02Join_c (st.boxes[a]) (st.boxes[b]) w)
   have CY := Lib.hid (show ∀ w, Calls Try.prog 43 #[.agg #[.int .i64 (X).x1, .int .i64 (X).y1, .int .i64 (X).x2, .int .i64 (X).y2], .agg #[.int .i64 (st.boxes[a]).x1, .int .i64 (st.boxes[a]).y1, .int .i64 (st.boxes[a]).x2, .int .i64 (st.boxes[a]).y2]] w fun e w' => e = .returned (.agg #[.int .i64 (Y).x1, .int .i64 (Y).y1, .int .i64 (Y).x2, .int .i64 (Y).y2]) ∧ Below w.heap.size w w' from by
    intro w
    rw [← HY.out]
    exact spec_l02Join_c X (st.boxes[a]) w)
   have hS : (fun w' : World => w'.cell? ⟨gp, 3, none⟩ = some (.slice (some ⟨gb, 0, none⟩) ns.length ns.length) ∧ (w'.cell? ⟨b6, 0, none⟩ = some (.int .i64 (st.boxes[a]).x1) ∧ w'.cell? ⟨b6, 1, none⟩ = some (.int .i64 (st.boxes[a]).y1) ∧ w'.cell? ⟨b6, 2, none⟩ = some (.int .i64 (st.boxes[a]).x2) ∧ w'.cell? ⟨b6, 3, none⟩ = some (.int .i64 (st.boxes[a]).y2)) ∧ (w'.cell? ⟨b7, 0, none⟩ = some (.int .i64 (st.boxes[b]).x1) ∧ w'.cell? ⟨b7, 1, none⟩ = some (.int .i64 (st.boxes[b]).y1) ∧ w'.cell? ⟨b7, 2, none⟩ = some (.int .i64 (st.boxes[b]).x2) ∧ w'.cell? ⟨b7, 3, none⟩ = some (.int .i64 (st.boxes[b]).y2)) ∧ w'.cell? ⟨b8, 0, none⟩ = some (.int .i64 (st.boxes[a]).x1) ∧ w'.cell? ⟨b8, 1, none⟩ = some (.int .i64 (st.boxes[a]).y1) ∧ w'.cell? ⟨b8, 2, none⟩ = some (.int .i64 (st.boxes[a]).x2) ∧ w'.cell? ⟨b8, 3, none⟩ = some (.int .i64 (st.boxes[a]).y2)) w9.drew := ⟨RD.row.c3, ⟨R6.c0, R6.c1, R6.c2, R6.c3⟩, ⟨R7.c0, R7.c1, R7.c2, R7.c3⟩, R8.c0, R8.c1, R8.c2, R8.c3⟩
   dsimp only at hS
   refine wp_region_held_drew (S := (fun w' : World => w'.cell? ⟨gp, 3, none⟩ = some (.slice (some ⟨gb, 0, none⟩) ns.length ns.length) ∧ (w'.cell? ⟨b6, 0, none⟩ = some (.int .i64 (st.boxes[a]).x1) ∧ w'.cell? ⟨b6, 1, none⟩ = some (.int .i64 (st.boxes[a]).y1) ∧ w'.cell? ⟨b6, 2, none⟩ = some (.int .i64 (st.boxes[a]).x2) ∧ w'.cell? ⟨b6, 3, none⟩ = some (.int .i64 (st.boxes[a]).y2)) ∧ (w'.cell? ⟨b7, 0, none⟩ = some (.int .i64 (st.boxes[b]).x1) ∧ w'.cell? ⟨b7, 1, none⟩ = some (.int .i64 (st.boxes[b]).y1) ∧ w'.cell? ⟨b7, 2, none⟩ = some (.int .i64 (st.boxes[b]).x2) ∧ w'.cell? ⟨b7, 3, none⟩ = some (.int .i64 (st.boxes[b]).y2)) ∧ w'.cell? ⟨b8, 0, none⟩ = some (.int .i64 (st.boxes[a]).x1) ∧ w'.cell? ⟨b8, 1, none⟩ = some (.int .i64 (st.boxes[a]).y1) ∧ w'.cell? ⟨b8, 2, none⟩ = some (.int .i64 (st.boxes[a]).x2) ∧ w'.cell? ⟨b8, 3, none⟩ = some (.int .i64 (st.boxes[a]).y2))) (by kernel_rfl) hS (fun _ => ?_)
   refine tJ 0 hS ?_
   refine tJ 1 hS ?_
   refine tJ 2 hS ?_
   refine tJ 3 hS ?_
   refine tJ 4 hS ?_
   refine tJ 5 hS ?_
   refine tJ 6 hS ?_
   refine tJ 8 hS ?_
   refine rJ 7 fun K hK => ?_
   refine step_call 43 #[.tmp 115, .tmp 116] _ rfl rfl #[.agg #[.int .i64 (st.boxes[a]).x1, .int .i64 (st.boxes[a]).y1, .int .i64 (st.boxes[a]).x2, .int .i64 (st.boxes[a]).y2], .agg #[.int .i64 (st.boxes[b]).x1, .int .i64 (st.boxes[b]).y1, .int .i64 (st.boxes[b]).x2, .int .i64 (st.boxes[b]).y2]] Try.call43 (by go_simp) (CX.out _) ?_
   rintro en w10 ⟨rfl, bA⟩
   refine ⟨_, rfl, ?_⟩
   replace RD := RD.drew.below bA
   replace R6 := R6.drew.later bA
   replace R7 := R7.drew.later bA
   replace R8 := R8.drew.later bA
   replace on := on.drew.trans (Only.of_below bA)
   replace hS : (fun w' : World => w'.cell? ⟨gp, 3, none⟩ = some (.slice (some ⟨gb, 0, none⟩) ns.length ns.length) ∧ (w'.cell? ⟨b6, 0, none⟩ = some (.int .i64 (st.boxes[a]).x1) ∧ w'.cell? ⟨b6, 1, none⟩ = some (.int .i64 (st.boxes[a]).y1) ∧ w'.cell? ⟨b6, 2, none⟩ = some (.int .i64 (st.boxes[a]).x2) ∧ w'.cell? ⟨b6, 3, none⟩ = some (.int .i64 (st.boxes[a]).y2)) ∧ (w'.cell? ⟨b7, 0, none⟩ = some (.int .i64 (st.boxes[b]).x1) ∧ w'.cell? ⟨b7, 1, none⟩ = some (.int .i64 (st.boxes[b]).y1) ∧ w'.cell? ⟨b7, 2, none⟩ = some (.int .i64 (st.boxes[b]).x2) ∧ w'.cell? ⟨b7, 3, none⟩ = some (.int .i64 (st.boxes[b]).y2)) ∧ w'.cell? ⟨b8, 0, none⟩ = some (.int .i64 (st.boxes[a]).x1) ∧ w'.cell? ⟨b8, 1, none⟩ = some (.int .i64 (st.boxes[a]).y1) ∧ w'.cell? ⟨b8, 2, none⟩ = some (.int .i64 (st.boxes[a]).x2) ∧ w'.cell? ⟨b8, 3, none⟩ = some (.int .i64 (st.boxes[a]).y2)) w10 := ⟨RD.row.c3, ⟨R6.c0, R6.c1, R6.c2, R6.c3⟩, ⟨R7.c0, R7.c1, R7.c2, R7.c3⟩, R8.c0, R8.c1, R8.c2, R8.c3⟩
   dsimp only at hS
   clear bA
   refine bJ hK hS ?_
   clear hK K
   simp only [Act.put, pA, pB, pC]
   refine rJ 9 fun K hK => ?_
   refine step_call 43 #[.tmp 117, .tmp 118] _ rfl rfl #[.agg #[.int .i64 (X).x1, .int .i64 (X).y1, .int .i64 (X).x2, .int .i64 (X).y2], .agg #[.int .i64 (st.boxes[a]).x1, .int .i64 (st.boxes[a]).y1, .int .i64 (st.boxes[a]).x2, .int .i64 (st.boxes[a]).y2]] Try.call43 (by go_simp) (CY.out _) ?_
   rintro en w11 ⟨rfl, bA⟩
   refine ⟨_, rfl, ?_⟩
   replace RD := RD.below bA
   replace R6 := R6.later bA
   replace R7 := R7.later bA
   replace R8 := R8.later bA
   replace on := on.trans (Only.of_below bA)
   replace hS : (fun w' : World => w'.cell? ⟨gp, 3, none⟩ = some (.slice (some ⟨gb, 0, none⟩) ns.length ns.length) ∧ (w'.cell? ⟨b6, 0, none⟩ = some (.int .i64 (st.boxes[a]).x1) ∧ w'.cell? ⟨b6, 1, none⟩ = some (.int .i64 (st.boxes[a]).y1) ∧ w'.cell? ⟨b6, 2, none⟩ = some (.int .i64 (st.boxes[a]).x2) ∧ w'.cell? ⟨b6, 3, none⟩ = some (.int .i64 (st.boxes[a]).y2)) ∧ (w'.cell? ⟨b7, 0, none⟩ = some (.int .i64 (st.boxes[b]).x1) ∧ w'.cell? ⟨b7, 1, none⟩ = some (.int .i64 (st.boxes[b]).y1) ∧ w'.cell? ⟨b7, 2, none⟩ = some (.int .i64 (st.boxes[b]).x2) ∧ w'.cell? ⟨b7, 3, none⟩ = some (.int .i64 (st.boxes[b]).y2)) ∧ w'.cell? ⟨b8, 0, none⟩ = some (.int .i64 (st.boxes[a]).x1) ∧ w'.cell? ⟨b8, 1, none⟩ = some (.int .i64 (st.boxes[a]).y1) ∧ w'.cell? ⟨b8, 2, none⟩ = some (.int .i64 (st.boxes[a]).x2) ∧ w'.cell? ⟨b8, 3, none⟩ = some (.int .i64 (st.boxes[a]).y2)) w11 := ⟨RD.row.c3, ⟨R6.c0, R6.c1, R6.c2, R6.c3⟩, ⟨R7.c0, R7.c1, R7.c2, R7.c3⟩, R8.c0, R8.c1, R8.c2, R8.c3⟩
   dsimp only at hS
   clear bA
   refine bJ hK hS ?_
   clear hK K
   simp only [Act.put, pA, pB, pC]
   refine tJ 10 hS ?_
   have hkb : k < st.boxes.length := by have := RD.bl; dsimp only at this; omega
   obtain ⟨z0, z1, z2, z3⟩ := RD.boxCell hkb
   have Fb := RD.bs.frozen
   refine rJ 11 fun K hK => ?_
   go_simp
   replace RD := RD.setBox k hat Y
   replace R6 := R6.farB (gb := gb) k Y (by omega)
   replace R7 := R7.farB (gb := gb) k Y (by omega)
   replace R8 := R8.farB (gb := gb) k Y (by omega)
   replace on := (((on.set (p := ⟨gb, k * 4, none⟩) (by simp) (.int .i64 Y.x1)).set (p := ⟨gb, k * 4 + 1, none⟩) (by simp) (.int .i64 Y.y1)).set (p := ⟨gb, k * 4 + 2, none⟩) (by simp) (.int .i64 Y.x2)).set (p := ⟨gb, k * 4 + 3, none⟩) (by simp) (.int .i64 Y.y2)
   refine hK.out _ _ ?_ (fun hHeld => ?_)
   · exact ⟨RD.row.c3, ⟨R6.c0, R6.c1, R6.c2, R6.c3⟩, ⟨R7.c0, R7.c1, R7.c2, R7.c3⟩, R8.c0, R8.c1, R8.c2, R8.c3⟩
   clear hK K hHeld hS z0 z1 z2 z3 Fb
   refine wpAnyH_done (by kernel_rfl) ?_ _
   have HRD := Lib.hid RD
   have HON := Lib.hid on
   clear RD on R6 R7 R8
   go_wp2_with fail
   refine bodyPost_end (v := .tuple #[]) (by simp [results, Try.results90, go_sem]) rfl ⟨⟨_, rfl⟩, HON.out, ?_⟩
   have := HRD.out
   try dsimp only at this
   rw [← hdM.out, List.set_set] at this
   exact this
end Go.Proofs.Ytmopioaojdlnkaa
