/- The reference's reader of trees: reading a whole tree. Conditions: none. -/
import Derived.Test.YtmopioaojdlnkaaRd4k2t
import Derived.Test.YtmopioaojdlnkaaRdEt
namespace Go.Proofs.Ytmopioaojdlnkaa
open Go Go.RowKit
def ReadPost (e et : TypeId) (o ot : Bool) (xs : List PSymbol) (ns : List PNode) (vl vn : Value) (Fl Fn : List Nat) (w : World) (en : Ending) (w' : World) : Prop :=
 Below w.heap.size w w' ∧ ∃ gp, en = .returned (.pointer (some ⟨gp, 0, none⟩)) ∧ w'.cell? ⟨gp, 7, none⟩ = some (.bool (treeB xs ns)) ∧ (treeB xs ns = true → ∃ gu gb gd st, (w.heap.size ≤ gp ∧ w.heap.size ≤ gu ∧ w.heap.size ≤ gb ∧ w.heap.size ≤ gd) ∧ Rd e et o ot xs ns vl vn Fl Fn gp gu gb gd st w' ∧ st.boxes = boxesF xs ns ns.length ∧ st.depth = depthsF ns ns.length ∧ st.cost = costF xs ns ns.length)
set_option maxRecDepth 100000 in
set_option maxHeartbeats 2000000 in
theorem spec_l21Read_bad {e et : TypeId} {o ot : Bool} {xs : List PSymbol} {ns : List PNode} {vl vn : Value} {Fl Fn : List Nat} {g : Nat} (w : World) (h : (pSymbols e).rep o w xs [vl] Fl) (ht : (pNodes et).rep ot w ns [vn] Fn) (hg : Row w g 28 [vn]) (hn : ¬ (1 ≤ ns.length ∧ ns.length ≤ 15)) :
 Calls Try.prog 57 #[vl, .pointer (some ⟨g, 0, none⟩)] w (ReadPost e et o ot xs ns vl vn Fl Fn w) := by
 obtain ⟨A, c, rfl⟩ := slice_len h
 obtain ⟨B, d, rfl⟩ := slice_len ht
 have t0 := hg.c0
 have E := Lib.hid (tree_len (xs := xs) hn)
 have CI := Lib.hid (fun w => (spec_inR_c (ns.length : Int) 1 15 w).mono (R' := fun e w' => e = .returned (.bool (inR (ns.length : Int) 1 15)) ∧ w' = w) (fun _ _ h => ⟨h.1, h.2.symm⟩))
 rw [show inR (ns.length : Int) 1 15 = false from by unfold inR; rw [Bool.and_eq_false_iff, decide_eq_false_iff_not, decide_eq_false_iff_not]; omega] at CI
 clear h ht hn hg
 go_enter Try.func57, Try.ntmps57
 go_upto_region 2 with fail
 go_still_tail 8, (by kernel_rfl)
 still_call (CI.out _)
 repeat still_step
 refine wpStill_nil ?_
 go_wp2_with fail
 go_ret
 have R := (Row.new w 90 #[.slice A xs.length c, .slice B ns.length d, .slice none 0 0, .slice none 0 0, .int .i64 0, .slice none 0 0, .slice none 0 0, .bool false]).drew
 refine ⟨((Below.refl _ _).alloc (Nat.le_refl _) _).drew, _, rfl, ?_, fun h => by rw [E.out] at h; cases h⟩
 rw [E.out]
 exact R.cell' (i := 7) rfl
set_option maxRecDepth 100000 in
set_option maxHeartbeats 4000000 in
theorem spec_l21Read_good {e et : TypeId} {o ot : Bool} {xs : List PSymbol} {ns : List PNode} {vl vn : Value} {Fl Fn : List Nat} {g : Nat} (w : World) (h : (pSymbols e).rep o w xs [vl] Fl) (ht : (pNodes et).rep ot w ns [vn] Fn) (hg : Row w g 28 [vn]) (hok : symsOkB xs = true) (hn1 : 1 ≤ ns.length) (hn2 : ns.length ≤ 15) :
 Calls Try.prog 57 #[vl, .pointer (some ⟨g, 0, none⟩)] w (ReadPost e et o ot xs ns vl vn Fl Fn w) := by
 have hx := symsOk_few hok
 have hsy : ∀ s ∈ xs, boxIn (boxOf s) := symsOk_box hok
 have RC := Lib.hid (fun A c B d gp gu gb gd (w' : World) (r : Rd e et o ot xs ns (.slice A xs.length c) (.slice B ns.length d) Fl Fn gp gu gb gd (beginS xs ns) w') => spec_read_c (e := e) (et := et) (o := o) (ot := ot) (vl := .slice A xs.length c) (vn := .slice B ns.length d) (Fl := Fl) (Fn := Fn) (gp := gp) (gu := gu) (gb := gb) (gd := gd) hsy hx hn2 ns.length (ns.length - 1) (beginS xs ns) 0 w' (by omega) (by omega) r rfl (begin_inv xs ns) (by omega))
 have EN := Lib.hid (end_tree hsy hn1 hn2)
 have hul : (endS xs ns).2.used.length = xs.length := (readS_ok xs ns xs.length ns.length hsy ns.length (ns.length - 1) (beginS xs ns) 0 (begin_len xs ns) (begin_inv xs ns)).2.2.1.1
 have hR : readS xs ns ns.length (ns.length - 1) (beginS xs ns) = endS xs ns := rfl
 have ek : ((ns.length - 1 : Nat) : Int) = (ns.length : Int) - 1 := by omega
 rw [hR, ek] at RC
 unfold endGood at EN
 obtain ⟨R1, st, hRS⟩ : ∃ a b, endS xs ns = (a, b) := ⟨_, _, rfl⟩
 rw [hRS] at RC EN hul
 dsimp only at RC EN hul
 obtain ⟨A, c, rfl⟩ := slice_len h
 obtain ⟨B, d, rfl⟩ := slice_len ht
 have t0 := hg.c0
 have CI := Lib.hid (fun w => (spec_inR_c (ns.length : Int) 1 15 w).mono (R' := fun e w' => e = .returned (.bool (inR (ns.length : Int) 1 15)) ∧ w' = w) (fun _ _ h => ⟨h.1, h.2.symm⟩))
 rw [show inR (ns.length : Int) 1 15 = true from by unfold inR; rw [Bool.and_eq_true, decide_eq_true_iff, decide_eq_true_iff]; omega] at CI
 have HRC := Lib.hid (fun gp gu gb gd w' => RC.out A c B d gp gu gb gd w')
 have hFl : ∀ b ∈ Fl, b < w.heap.size := fun b hb => (pSymbols e).lt h b hb
 have hFn : ∀ b ∈ Fn, b < w.heap.size := fun b hb => (pNodes et).lt ht b hb
 have H := Lib.hid h
 have HT := Lib.hid ht
 have HX := Lib.hid hx
 have hm1 := make_run (P := Try.prog) (t := 80) (e := 4) (z := .bool false) (size := 1) (bytes := 1) Try.underlying80 (by kernel_rfl) xs.length (xs.length : Int) rfl (by omega) (by unfold maxLen; omega)
 have hm2 := make_run (P := Try.prog) (t := 38) (e := 48) (z := .agg #[.int .i64 0, .int .i64 0, .int .i64 0, .int .i64 0]) (size := 4) (bytes := 32) Try.underlying38 (by kernel_rfl) ns.length (ns.length : Int) rfl (by omega) (by unfold maxLen; omega)
 have hm3 := make_run (P := Try.prog) (t := 41) (e := 2) (z := .int .i64 0) (size := 1) (bytes := 8) Try.underlying41 (by kernel_rfl) ns.length (ns.length : Int) rfl (by omega) (by unfold maxLen; omega)
 simp only [show (Value.bool false).cells = #[.bool false] from rfl] at hm1
 simp only [show (Value.agg #[.int .i64 0, .int .i64 0, .int .i64 0, .int .i64 0]).cells = #[.int .i64 0, .int .i64 0, .int .i64 0, .int .i64 0] from rfl] at hm2
 simp only [show (Value.int .i64 0).cells = #[.int .i64 0] from rfl] at hm3
 have en1 := IntWalk.i64_in ((ns.length : Int) - 1) (by omega)
 clear h ht hg hok hsy RC hR ek hRS hx
 go_enter Try.func57, Try.ntmps57
 go_upto_region 2 with fail
 go_still_tail 8, (by kernel_rfl)
 still_call (CI.out _)
 repeat still_step
 refine wpStill_nil ?_
 go_upto_region 5 with fail
 have R := (Row.new w 90 #[.slice A xs.length c, .slice B ns.length d, .slice none 0 0, .slice none 0 0, .int .i64 0, .slice none 0 0, .slice none 0 0, .bool true]).drew
 have b1 : Below w.heap.size w (w.alloc (.cells #[.slice A xs.length c, .slice B ns.length d, .slice none 0 0, .slice none 0 0, .int .i64 0, .slice none 0 0, .slice none 0 0, .bool true] 90)).drew := ((Below.refl _ _).alloc (Nat.le_refl _) _).drew
 have z1 : (w.alloc (.cells #[.slice A xs.length c, .slice B ns.length d, .slice none 0 0, .slice none 0 0, .int .i64 0, .slice none 0 0, .slice none 0 0, .bool true] 90)).drew.heap.size = w.heap.size + 1 := by simp
 generalize (w.alloc (.cells #[.slice A xs.length c, .slice B ns.length d, .slice none 0 0, .slice none 0 0, .int .i64 0, .slice none 0 0, .slice none 0 0, .bool true] 90)).drew = w1 at R b1 z1 ⊢
 have c2 := R.c2
 have c3 := R.c3
 have c5 := R.c5
 have fr := R.frozen
 go_upto_region 8 with fail
 clear c2 c3 c5 fr
 have R0 := ((R.set 2 (.slice (some ⟨w.heap.size + 1, 0, none⟩) xs.length xs.length)).set 3 (.slice (some ⟨w.heap.size + 1 + 1, 0, none⟩) ns.length ns.length)).set 5 (.slice (some ⟨w.heap.size + 1 + 1 + 1, 0, none⟩) ns.length ns.length)
 have S0 : (pSymbols e).rep o (((w1.setCell ⟨w.heap.size, 2, none⟩ (.slice (some ⟨w.heap.size + 1, 0, none⟩) xs.length xs.length)).setCell ⟨w.heap.size, 3, none⟩ (.slice (some ⟨w.heap.size + 1 + 1, 0, none⟩) ns.length ns.length)).setCell ⟨w.heap.size, 5, none⟩ (.slice (some ⟨w.heap.size + 1 + 1 + 1, 0, none⟩) ns.length ns.length)) xs [.slice A xs.length c] Fl := ((((H.out.below b1).setCell (p := ⟨w.heap.size, 2, none⟩) (fun hb => by have := hFl _ hb; simp at this) _).setCell (p := ⟨w.heap.size, 3, none⟩) (fun hb => by have := hFl _ hb; simp at this) _).setCell (p := ⟨w.heap.size, 5, none⟩) (fun hb => by have := hFl _ hb; simp at this) _)
 have N0 : (pNodes et).rep ot (((w1.setCell ⟨w.heap.size, 2, none⟩ (.slice (some ⟨w.heap.size + 1, 0, none⟩) xs.length xs.length)).setCell ⟨w.heap.size, 3, none⟩ (.slice (some ⟨w.heap.size + 1 + 1, 0, none⟩) ns.length ns.length)).setCell ⟨w.heap.size, 5, none⟩ (.slice (some ⟨w.heap.size + 1 + 1 + 1, 0, none⟩) ns.length ns.length)) ns [.slice B ns.length d] Fn := ((((HT.out.below b1).setCell (p := ⟨w.heap.size, 2, none⟩) (fun hb => by have := hFn _ hb; simp at this) _).setCell (p := ⟨w.heap.size, 3, none⟩) (fun hb => by have := hFn _ hb; simp at this) _).setCell (p := ⟨w.heap.size, 5, none⟩) (fun hb => by have := hFn _ hb; simp at this) _)
 have z2 : (((w1.setCell ⟨w.heap.size, 2, none⟩ (.slice (some ⟨w.heap.size + 1, 0, none⟩) xs.length xs.length)).setCell ⟨w.heap.size, 3, none⟩ (.slice (some ⟨w.heap.size + 1 + 1, 0, none⟩) ns.length ns.length)).setCell ⟨w.heap.size, 5, none⟩ (.slice (some ⟨w.heap.size + 1 + 1 + 1, 0, none⟩) ns.length ns.length)).heap.size = w.heap.size + 1 := by simp [z1]
 have b2 : Below w.heap.size w (((w1.setCell ⟨w.heap.size, 2, none⟩ (.slice (some ⟨w.heap.size + 1, 0, none⟩) xs.length xs.length)).setCell ⟨w.heap.size, 3, none⟩ (.slice (some ⟨w.heap.size + 1 + 1, 0, none⟩) ns.length ns.length)).setCell ⟨w.heap.size, 5, none⟩ (.slice (some ⟨w.heap.size + 1 + 1 + 1, 0, none⟩) ns.length ns.length)) := ((b1.setCell (p := ⟨w.heap.size, 2, none⟩) (Nat.le_refl _) _).setCell (p := ⟨w.heap.size, 3, none⟩) (Nat.le_refl _) _).setCell (p := ⟨w.heap.size, 5, none⟩) (Nat.le_refl _) _
 generalize ((w1.setCell ⟨w.heap.size, 2, none⟩ (.slice (some ⟨w.heap.size + 1, 0, none⟩) xs.length xs.length)).setCell ⟨w.heap.size, 3, none⟩ (.slice (some ⟨w.heap.size + 1 + 1, 0, none⟩) ns.length ns.length)).setCell ⟨w.heap.size, 5, none⟩ (.slice (some ⟨w.heap.size + 1 + 1 + 1, 0, none⟩) ns.length ns.length) = w2 at R0 S0 N0 z2 b2 ⊢
 have RD : Rd e et o ot xs ns (.slice A xs.length c) (.slice B ns.length d) Fl Fn w.heap.size (w.heap.size + 1) (w.heap.size + 1 + 1) (w.heap.size + 1 + 1 + 1) (beginS xs ns) (((w2.alloc (.cells (madeCells #[.bool false] xs.length) 4)).alloc (.cells (madeCells #[.int .i64 0, .int .i64 0, .int .i64 0, .int .i64 0] (ns.length * 4)) 48)).alloc (.cells (madeCells #[.int .i64 0] ns.length) 2)) := by
  have U := Row.new w2 4 (madeCells #[.bool false] xs.length)
  have X := Row.new (w2.alloc (.cells (madeCells #[.bool false] xs.length) 4)) 48 (madeCells #[.int .i64 0, .int .i64 0, .int .i64 0, .int .i64 0] (ns.length * 4))
  have Y := Row.new ((w2.alloc (.cells (madeCells #[.bool false] xs.length) 4)).alloc (.cells (madeCells #[.int .i64 0, .int .i64 0, .int .i64 0, .int .i64 0] (ns.length * 4)) 48)) 2 (madeCells #[.int .i64 0] ns.length)
  simp only [World.size_alloc, z2] at U X Y
  rw [toList_madeCells_one] at U Y
  have hX : (madeCells #[.int .i64 0, .int .i64 0, .int .i64 0, .int .i64 0] (ns.length * 4)).toList = (beginS xs ns).boxes.flatMap pBoxCells := by
   have := madeCells_toList [.int .i64 0, .int .i64 0, .int .i64 0, .int .i64 0] ns.length (by simp)
   refine this.trans ?_
   rw [List.flatMap_def]
   show _ = (List.map pBoxCells (List.replicate ns.length ⟨0, 0, 0, 0⟩)).flatten
   rw [List.map_replicate]; rfl
  rw [hX] at X
  refine ⟨((R0.alloc _).alloc _).alloc _, ?_, X.alloc _, ?_, ((S0.alloc _).alloc _).alloc _, ((N0.alloc _).alloc _).alloc _, by omega, fun b hb => by have := hFl b hb; omega, fun b hb => by have := hFn b hb; omega, by simp [beginS], by simp [beginS], by simp [beginS]⟩
  · have : (beginS xs ns).used.map Value.bool = List.replicate xs.length (.bool false) := by show List.map _ (List.replicate _ _) = _; rw [List.map_replicate]
    rw [this]; exact (U.alloc _).alloc _
  · have : (beginS xs ns).depth.map (Value.int .i64) = List.replicate ns.length (.int .i64 0) := by show List.map _ (List.replicate _ _) = _; rw [List.map_replicate]
    rw [this]; exact Y
 have b3 : Below w.heap.size w (((w2.alloc (.cells (madeCells #[.bool false] xs.length) 4)).alloc (.cells (madeCells #[.int .i64 0, .int .i64 0, .int .i64 0, .int .i64 0] (ns.length * 4)) 48)).alloc (.cells (madeCells #[.int .i64 0] ns.length) 2)) := ((b2.alloc b2.size _).alloc (by simp; omega) _).alloc (by simp; omega) _
 generalize ((w2.alloc (.cells (madeCells #[.bool false] xs.length) 4)).alloc (.cells (madeCells #[.int .i64 0, .int .i64 0, .int .i64 0, .int .i64 0] (ns.length * 4)) 48)).alloc (.cells (madeCells #[.int .i64 0] ns.length) 2) = w3 at RD b3 ⊢
 clear R0 S0 N0 z2 b2 R b1 z1 hm1 hm2 hm3
 go_wp2_with fail
 refine (HRC.out _ _ _ _ w3 RD).mono ?_
 clear RD
 rintro en w4 ⟨rfl, o4, RD⟩
 dsimp only at RD
 have b4 := b3.trans (o4.below b3.size (fun b hb => by simp at hb; omega))
 clear o4 b3 HRC
 have Fp := RD.row.frozen
 have p7 := RD.row.cell' (i := 7) rfl
 have HUL := Lib.hid hul
 clear hul
 obtain ⟨g, hg⟩ : ∃ g, (st.good && decide (R1 = -1)) = g := ⟨_, rfl⟩
 rw [hg] at EN
 have RDg := Lib.hid (RD.setGood g)
 have BG := Lib.hid (b4.setCell (p := ⟨w.heap.size, 7, none⟩) (Nat.le_refl _) (.bool g))
 have HGG : Hid ((st.good && decide (R1 = -1)) = g) := hg
 rcases (show (st.good = false) ∨ (st.good = true ∧ (R1 == -1) = false) ∨ (st.good = true ∧ (R1 == -1) = true) by cases st.good <;> cases (R1 == -1) <;> simp) with h1 | ⟨h1, h2⟩ | ⟨h1, h2⟩
 all_goals
  (first | (have h3 : g = false := by (rw [← hg, h1]; rfl)) | (have h3 : g = false := by (rw [← hg, h1]; simpa using h2)) | (have h3 : g = true := by (rw [← hg, h1]; simpa using h2)))
  subst h3
  rw [h1] at p7
  clear hg h1 RD
  go_upto_region 10 with fail
  have RD := RDg.out
  have b5 := BG.out
  generalize w4.setCell ⟨w.heap.size, 7, none⟩ _ = w5 at RD b5 ⊢
  clear RDg BG p7 Fp b4
  have HRD := Lib.hid RD
  clear RD
  go_wp2_with fail
  go_loopw [8] (fun i wr => ∃ (k : Nat) (gk : Bool), k ≤ xs.length ∧ i = .int .i64 k ∧ Hid (gk = ((st.good && decide (R1 = -1)) && (st.used.take k).all id)) ∧ Rd e et o ot xs ns (.slice A xs.length c) (.slice B ns.length d) Fl Fn w.heap.size (w.heap.size + 1) (w.heap.size + 1 + 1) (w.heap.size + 1 + 1 + 1) { used := st.used, boxes := st.boxes, depth := st.depth, cost := st.cost, good := gk } wr ∧ Below w.heap.size w wr) (fun i _ => xs.length - (intOf i).toNat)
  case atStart => exact ⟨0, _, Nat.zero_le _, rfl, Lib.hid (by rw [HGG.out]; rfl), HRD.out, b5⟩
  case round =>
   obtain ⟨k, gk, hk, rfl, hgk, RD, hb⟩ := hrel
   have p7 := RD.row.cell' (i := 7) rfl
   have p2 := RD.row.c2
   have Fp := RD.row.frozen
   dsimp only at p7
   by_cases hlt : k < xs.length
   · have hku : k < st.used.length := by rw [HUL.out]; exact hlt
     have hcell := RD.useCell hku
     have i1 : (k : Int) < (xs.length : Int) := by omega
     have i2 : IntKind.i64.wrap ((k : Int) + 1) = (k : Int) + 1 := IntWalk.i64_in _ (by have := HX.out; omega)
     have i3 : (0 : Int) ≤ (k : Int) := by omega
     have hall : (st.used.take (k + 1)).all id = ((st.used.take k).all id && st.used[k]) := by
      rw [List.take_succ_eq_append_getElem hku, List.all_append]; simp
     have NX : ∀ gn : Bool, gn = (gk && st.used[k]) → ∃ (k' : Nat) (g' : Bool), k' ≤ xs.length ∧ Value.int .i64 ((k : Int) + 1) = .int .i64 k' ∧ Hid (g' = ((st.good && decide (R1 = -1)) && (st.used.take k').all id)) ∧ Rd e et o ot xs ns (.slice A xs.length c) (.slice B ns.length d) Fl Fn w.heap.size (w.heap.size + 1) (w.heap.size + 1 + 1) (w.heap.size + 1 + 1 + 1) { used := st.used, boxes := st.boxes, depth := st.depth, cost := st.cost, good := g' } (wr.setCell ⟨w.heap.size, 7, none⟩ (.bool gn)) ∧ Below w.heap.size w (wr.setCell ⟨w.heap.size, 7, none⟩ (.bool gn)) := fun gn hgn => ⟨k + 1, gn, by omega, by go_num, Lib.hid (by rw [hgn, hall, hgk.out, Bool.and_assoc]), RD.setGood gn, hb.setCell (Nat.le_refl _) _⟩
     have HNX := Lib.hid NX
     clear NX hall hgk RD
     cases gk with
     | false =>
       go_wp2_with fail
       go_roundw
       case rel => exact HNX.out false rfl
       case measure => simp [intOf]; omega
     | true =>
       have hcu : ∃ u, st.used[k] = u := ⟨_, rfl⟩
       obtain ⟨u, hu⟩ := hcu
       rw [hu] at hcell HNX
       cases u with
       | false =>
         go_wp2_with fail
         go_roundw
         case rel => exact HNX.out false rfl
         case measure => simp [intOf]; omega
       | true =>
         go_wp2_with fail
         go_roundw
         case rel => exact HNX.out true rfl
         case measure => simp [intOf]; omega
   · obtain rfl : k = xs.length := by omega
     have i1 : ¬ ((xs.length : Int) < (xs.length : Int)) := by omega
     have hgt : gk = treeB xs ns := by
      have ht : st.used.take xs.length = st.used := by rw [← HUL.out]; exact List.take_length
      have h1 := hgk.out
      rw [ht, HGG.out] at h1
      rw [h1]; exact EN.out.1
     rw [hgt] at p7
     have HE := Lib.hid EN.out.2
     have HRD := Lib.hid RD
     clear hgt hgk RD p2 EN
     go_wp2_with fail
     go_ret
     exact ⟨hb, _, rfl, p7, fun ht => ⟨_, _, _, _, ⟨by omega, by omega, by omega, by omega⟩, HRD.out, (HE.out ht).1, (HE.out ht).2.1, (HE.out ht).2.2⟩⟩
theorem boxNode_in {xs : List PSymbol} (hs : ∀ s ∈ xs, boxIn (boxOf s)) {bs : List PBox} (hb : ∀ b ∈ bs, boxIn b) (n : PNode) : boxIn (boxNode xs bs n) := by
 unfold boxNode
 split
 · exact symIn hs _
 · exact boxIn_join (boxIn_join (partA_in hb n) (partB_in hb n)) (signB_in hs hb n)
theorem boxesF_in {xs : List PSymbol} (hs : ∀ s ∈ xs, boxIn (boxOf s)) (ns : List PNode) : ∀ k, ∀ b ∈ boxesF xs ns k, boxIn b
 | 0, b, hb => by simp [boxesF] at hb
 | k + 1, b, hb => by
   rw [boxesF_succ, List.mem_append, List.mem_singleton] at hb
   rcases hb with hb | rfl
   · exact boxesF_in hs ns k b hb
   · exact boxNode_in hs (boxesF_in hs ns k) _
theorem boxIn_ok64 {b : PBox} (h : boxIn b) : pBoxOk b := by unfold boxIn at h; unfold pBoxOk I64; omega
theorem spec_l21Read_c {e et : TypeId} {o ot : Bool} {xs : List PSymbol} {ns : List PNode} {vl vn : Value} {Fl Fn : List Nat} {g : Nat} (w : World) (h : (pSymbols e).rep o w xs [vl] Fl) (ht : (pNodes et).rep ot w ns [vn] Fn) (hg : Row w g 28 [vn]) (hok : symsOkB xs = true) :
 Calls Try.prog 57 #[vl, .pointer (some ⟨g, 0, none⟩)] w (ReadPost e et o ot xs ns vl vn Fl Fn w) := by
 by_cases hn : 1 ≤ ns.length ∧ ns.length ≤ 15
 · exact spec_l21Read_good w h ht hg hok hn.1 hn.2
 · exact spec_l21Read_bad w h ht hg hn
def AskPost (e et : TypeId) (o ot : Bool) (xs : List PSymbol) (ns : List PNode) (vl vn : Value) (Fl Fn : List Nat) (w : World) (en : Ending) (w' : World) : Prop :=
 Below w.heap.size w w' ∧ ∃ p, en = .returned (.tuple #[p, .int .i64 (askF xs ns)]) ∧ (askF xs ns = 0 → ∃ gp gu gb gd st, p = .pointer (some ⟨gp, 0, none⟩) ∧ (w.heap.size ≤ gp ∧ w.heap.size ≤ gu ∧ w.heap.size ≤ gb ∧ w.heap.size ≤ gd) ∧ Rd e et o ot xs ns vl vn Fl Fn gp gu gb gd st w' ∧ st.boxes = boxesF xs ns ns.length ∧ st.depth = depthsF ns ns.length ∧ st.cost = costF xs ns ns.length)
set_option maxRecDepth 100000 in
set_option maxHeartbeats 1000000 in
theorem spec_l21Ask_c {e et : TypeId} {o ot : Bool} {xs : List PSymbol} {ns : List PNode} {vl vn : Value} {Fl Fn : List Nat} {g : Nat} (w : World) (h : (pSymbols e).rep o w xs [vl] Fl) (ht : (pNodes et).rep ot w ns [vn] Fn) (hg : Row w g 28 [vn]) (hx : xs.length ≤ 1048576) (hsz : ∀ c ∈ xs, c.label.size ≤ 1048576) :
 Calls Try.prog 38 #[vl, .pointer (some ⟨g, 0, none⟩)] w (AskPost e et o ot xs ns vl vn Fl Fn w) := by
 have CV := Lib.hid (spec_l20Ok_c w h hx hsz)
 cases hb : symsOkB xs with
 | false =>
   rw [hb] at CV
   have HA := Lib.hid (ask_bad (ns := ns) hb)
   clear hb h ht hg
   go_enter Try.func38, Try.ntmps38
   go_wp2_with fail
   refine CV.out.mono ?_
   rintro en w1 ⟨rfl, b1⟩
   have b2 := Lib.hid b1
   go_wp2_with fail
   refine bodyPost_ret (v := .tuple #[.pointer (some ⟨w1.heap.size, 0, none⟩), .int .i64 1]) (by simp [results, Try.results38, go_sem]) rfl ⟨b2.out.alloc b2.out.size _, _, by rw [HA.out], fun h => by rw [HA.out] at h; cases h⟩
 | true =>
   rw [hb] at CV
   have CR := Lib.hid (fun (w' : World) (b : Below w.heap.size w w') => spec_l21Read_c w' (h.below b) (ht.below b) (hg.later b) hb)
   have HB := Lib.hid hb
   clear hb h ht hg
   go_enter Try.func38, Try.ntmps38
   go_wp2_with fail
   refine CV.out.mono ?_
   rintro en w1 ⟨rfl, b1⟩
   have b2 := Lib.hid b1
   go_wp2_with fail
   refine (CR.out w1 b2.out).mono ?_
   rintro en w2 ⟨b3, gp, rfl, p7, hp⟩
   have b4 := Lib.hid (b2.out.trans (b3.mono b2.out.size))
   have bs := b2.out.size
   clear b3
   cases ht : treeB xs ns with
   | false =>
     rw [ht] at p7
     have HA := Lib.hid (ask_no HB.out ht)
     clear hp ht
     go_wp2_with fail
     refine bodyPost_ret (v := .tuple #[.pointer (some ⟨gp, 0, none⟩), .int .i64 8]) (by simp [results, Try.results38, go_sem]) rfl ⟨b4.out, _, by rw [HA.out], fun h => by rw [HA.out] at h; cases h⟩
   | true =>
     rw [ht] at p7
     have HA := Lib.hid (ask_yes HB.out ht)
     obtain ⟨gu, gb, gd, st, hs, hr, h1, h2, h3⟩ := hp ht
     have HF : Hid (∃ gq gu gb gd st, Value.pointer (some ⟨gp, 0, none⟩) = .pointer (some ⟨gq, 0, none⟩) ∧ (w.heap.size ≤ gq ∧ w.heap.size ≤ gu ∧ w.heap.size ≤ gb ∧ w.heap.size ≤ gd) ∧ Rd e et o ot xs ns vl vn Fl Fn gq gu gb gd st w2 ∧ st.boxes = boxesF xs ns ns.length ∧ st.depth = depthsF ns ns.length ∧ st.cost = costF xs ns ns.length) := ⟨gp, gu, gb, gd, st, rfl, ⟨by omega, by omega, by omega, by omega⟩, hr, h1, h2, h3⟩
     clear hp ht hs hr h1 h2 h3
     go_wp2_with fail
     refine bodyPost_ret (v := .tuple #[.pointer (some ⟨gp, 0, none⟩), .int .i64 0]) (by simp [results, Try.results38, go_sem]) rfl ⟨b4.out, _, by rw [HA.out], fun _ => HF.out⟩
set_option maxRecDepth 100000 in
set_option maxHeartbeats 1000000 in
theorem spec_NodeBoxes_c {e et : TypeId} {o ot : Bool} {xs : List PSymbol} {ns : List PNode} {vl vt : Value} {Fl Ft : List Nat} (w : World) (h : (pSymbols e).rep o w xs [vl] Fl) (ht : (pNodes et).rep ot w ns [vt] Ft) (hx : xs.length ≤ 1048576) (hsz : ∀ c ∈ xs, c.label.size ≤ 1048576) :
 Calls Try.prog 18 #[vl, .agg #[vt]] w (GivesL (pBoxs 48) (boxesR xs ns) (askF xs ns) w) := by
 have R := Row.new w 28 #[vt]
 have bA : Below w.heap.size w (w.alloc (.cells #[vt] 28)) := (Below.refl _ _).alloc (Nat.le_refl _) _
 have CR := Lib.hid (spec_l21Ask_c (w.alloc (.cells #[vt] 28)) (h.alloc _) (ht.alloc _) R hx hsz)
 have BA := Lib.hid bA
 clear h ht R bA
 go_enter Try.func18, Try.ntmps18
 go_wp2_with fail
 refine CR.out.mono ?_
 rintro en w1 ⟨b1, p, rfl, hp⟩
 have b0 := Lib.hid (BA.out.trans (b1.mono (by simp)))
 clear b1
 by_cases h0 : askF xs ns = 0
 · obtain ⟨gp, gu, gb, gd, st, rfl, ⟨_, _, hgb, _⟩, hch, h1, -, -⟩ := hp h0
   have HC : Hid (boxesR xs ns = boxesF xs ns ns.length) := by show _ = _; rw [boxesR, if_pos h0]
   have HA := Lib.hid h0
   have hlen := tree_few (ask_zero h0).2
   have hbi := fun b hb => boxIn_ok64 (boxesF_in (symsOk_box (ask_zero h0).1) ns ns.length b hb)
   rw [h0]
   have c3 := hch.row.c3
   have hB := hch.bs
   rw [h1] at hB
   have HB : Hid ((pBoxs 48).rep true w1 (boxesF xs ns ns.length) [.slice (some ⟨gb, 0, none⟩) ns.length ns.length] [gb]) := by
    have := slice_of_row (T := pBox) (xs := boxesF xs ns ns.length) hB (repL_pBox _ hbi) (by rw [boxesF_len]; unfold maxLen; omega)
    rw [boxesF_len] at this
    exact this
   have HND : Hid (Fresh w.heap.size [gb]) := ⟨by simp, fun b hb => by simp at hb hgb; omega⟩
   clear hp h0 hch h1 hB hlen hgb hbi
   go_wp2_with fail
   refine bodyPost_ret (v := .tuple #[_, .int .i64 0]) (by simp [results, Try.results18, go_sem]; rfl) rfl ⟨_, [gb], by rw [HA.out], by rw [HC.out]; exact HB.out, HND.out, b0.out⟩
 · have HC : Hid (boxesR xs ns = []) := by show _ = _; rw [boxesR, if_neg h0]
   have g : (askF xs ns != 0) = true := by simp [h0]
   clear hp h0
   go_wp2_with fail
   refine bodyPost_ret (v := .tuple #[.slice none 0 0, .int .i64 (askF xs ns)]) (by simp [results, Try.results18, go_sem]) rfl ⟨_, [], rfl, by rw [HC.out]; exact slice_nil _ _ _ _, Fresh.nil _, b0.out⟩
set_option maxRecDepth 100000 in
set_option maxHeartbeats 1000000 in
theorem spec_DepthOf_c {e et : TypeId} {o ot : Bool} {xs : List PSymbol} {ns : List PNode} {vl vt : Value} {Fl Ft : List Nat} (w : World) (h : (pSymbols e).rep o w xs [vl] Fl) (ht : (pNodes et).rep ot w ns [vt] Ft) (hx : xs.length ≤ 1048576) (hsz : ∀ c ∈ xs, c.label.size ≤ 1048576) :
 Calls Try.prog 22 #[vl, .agg #[vt]] w fun en w' => en = .returned (.tuple #[.int .i64 (depthR xs ns), .int .i64 (askF xs ns)]) ∧ Below w.heap.size w w' := by
 have R := Row.new w 28 #[vt]
 have bA : Below w.heap.size w (w.alloc (.cells #[vt] 28)) := (Below.refl _ _).alloc (Nat.le_refl _) _
 have CR := Lib.hid (spec_l21Ask_c (w.alloc (.cells #[vt] 28)) (h.alloc _) (ht.alloc _) R hx hsz)
 have BA := Lib.hid bA
 clear h ht R bA
 go_enter Try.func22, Try.ntmps22
 go_wp2_with fail
 refine CR.out.mono ?_
 rintro en w1 ⟨b1, p, rfl, hp⟩
 have b0 := Lib.hid (BA.out.trans (b1.mono (by simp)))
 clear b1
 by_cases h0 : askF xs ns = 0
 · obtain ⟨gp, gu, gb, gd, st, rfl, -, hch, -, h2, -⟩ := hp h0
   have HC : Hid (depthR xs ns = depthAt ns (ns.length - 1)) := by show _ = _; rw [depthR, if_pos h0]
   have HA := Lib.hid h0
   have htr := (ask_zero h0).2
   have hn1 := tree_some htr
   have hn2 := tree_few htr
   rw [h0]
   have c5 := hch.row.c5
   have hd : w1.cell? ⟨gd, ns.length - 1, none⟩ = some (.int .i64 (depthAt ns (ns.length - 1))) := by
    refine hch.ds.cell' ?_
    rw [h2, List.getElem?_map, depthsF_get ns (m := ns.length) (by omega)]; rfl
   have e1 := IntWalk.i64_in ((ns.length : Int) - 1) (by omega)
   have e2 : ((ns.length : Int) - 1).toNat = ns.length - 1 := by omega
   have e3 : (0 : Int) ≤ (ns.length : Int) - 1 := by omega
   have e4 : (ns.length : Int) - 1 < (ns.length : Int) := by omega
   clear hp h0 hch h2 htr
   go_wp2_with fail
   go_quiet (fail)
   go_wp2_with fail
   refine bodyPost_ret (v := .tuple #[.int .i64 (depthAt ns (ns.length - 1)), .int .i64 0]) (by simp [results, Try.results22, go_sem]) rfl ⟨by rw [HC.out, HA.out], below_drewN b0.out _⟩
 · have HC : Hid (depthR xs ns = 0) := by show _ = _; rw [depthR, if_neg h0]
   have g : (askF xs ns != 0) = true := by simp [h0]
   clear hp h0
   go_wp2_with fail
   refine bodyPost_ret (v := .tuple #[.int .i64 0, .int .i64 (askF xs ns)]) (by simp [results, Try.results22, go_sem]) rfl ⟨by rw [HC.out], b0.out⟩
set_option maxRecDepth 100000 in
set_option maxHeartbeats 4000000 in
theorem impl_DepthOf_c {e et : TypeId} {o ot : Bool} {xs : List PSymbol} {ns : List PNode} {vl vt : Value} {Fl Ft : List Nat} (w : World) (h : (pSymbols e).rep o w xs [vl] Fl) (ht : (pNodes et).rep ot w ns [vt] Ft) (hx : xs.length ≤ 1048576) (hsz : ∀ c ∈ xs, c.label.size ≤ 1048576) :
 Calls Try.prog 21 #[vl, .agg #[vt]] w fun en w' => en = .returned (.tuple #[.int .i64 (depthR xs ns), .int .i64 (askF xs ns)]) ∧ Below w.heap.size w w' := by
 have CK := Lib.hid (fun w' q q' => impl_checked_c (e := e) (et := et) (o := o) (ot := ot) (xs := xs) (ns := ns) (vl := vl) (vt := vt) (Fl := Fl) (Ft := Ft) w' q q' hx hsz)
 have H := Lib.hid h
 have HT := Lib.hid ht
 obtain ⟨A, c, rfl⟩ := slice_len h
 obtain ⟨B, d, rfl, hd1, hd2, hr⟩ := pNodes_open ht
 clear h ht
 have R := Row.new w 28 #[.slice B ns.length d]
 have t0 := R.c0
 go_enter Try.func21, Try.ntmps21
 go_wp2_with fail
 refine (CK.out _ (H.out.alloc _) (HT.out.alloc _)).mono ?_
 rintro en w1 ⟨b1, p, rfl, hp⟩
 have b0 : Below w.heap.size w w1 := ((Below.refl _ _).alloc (Nat.le_refl _) _).trans (b1.mono (by simp))
 clear hp
 by_cases h0 : askF xs ns = 0
 · have HC : Hid (depthR xs ns = depthAt ns (ns.length - 1)) := by show _ = _; rw [depthR, if_pos h0]
   have HA := Lib.hid h0
   have htr := (ask_zero h0).2
   have hn1 := tree_some htr
   have hn2 := tree_few htr
   have HTR := Lib.hid htr
   rw [h0]
   clear t0
   replace R := R.later b1
   have t0 := R.c0
   have lR := R.lt
   have hmk := make_run (P := Try.prog) (t := 41) (e := 2) (z := .int .i64 0) (size := 1) (bytes := 8) Try.underlying41 (by kernel_rfl) ns.length (ns.length : Int) rfl (by omega) (by unfold maxLen; omega)
   simp only [show (Value.int .i64 0).cells = #[.int .i64 0] from rfl] at hmk
   clear h0 htr
   go_wp2_with fail
   go_loopw [27] (fun i wr => ∃ (k : Nat) (ds : List Int), k ≤ ns.length ∧ i = .int .i64 k ∧ ds.length = ns.length ∧ Hid (∀ j, j < k → ds[j]? = some (depthAt ns j)) ∧ Row wr w1.heap.size 2 (ds.map (.int .i64)) ∧ Below w1.heap.size w1 wr) (fun i _ => ns.length - (intOf i).toNat)
   case atStart =>
    have R2 := Row.new w1 2 (madeCells #[.int .i64 0] (ns.length * 1))
    rw [Nat.mul_one, toList_madeCells_one] at R2
    refine ⟨0, List.replicate ns.length 0, Nat.zero_le _, rfl, by simp, Lib.hid (fun j hj => by omega), ?_, (Below.refl _ _).alloc (Nat.le_refl _) _⟩
    rw [List.map_replicate]
    exact R2
   case round =>
    obtain ⟨k, ds, hk, rfl, hdl, hds, RD, hb⟩ := hrel
    have hbs := hb.size
    have hb2 := b0.trans (hb.mono b0.size)
    by_cases hlt : k < ns.length
    · obtain ⟨b, off, rfl, hbb, _, q0, q1, q2, q3, _⟩ := hr k hlt
      rw [← hb2.cell (p := ⟨b, _, none⟩) hbb] at q0 q1 q2 q3
      have hnd : nodeAt ns k = ns[k] := nodeAt_get hlt
      have hparts := tree_parts HTR.out hlt
      have hD := depthAt_le HTR.out
      have dl := fun (h : (nodeAt ns k).kind = 0) => depth_leaf h
      have dr := fun (a : Nat) (h : (nodeAt ns k).kind = 5) (ha : (nodeAt ns k).a = (a : Int)) (hk : a < k) => depth_root h ha hk
      have db := fun (a b : Nat) (h : (nodeAt ns k).kind ≠ 0) (h' : (nodeAt ns k).kind ≠ 5) (ha : (nodeAt ns k).a = (a : Int)) (hb : (nodeAt ns k).b = (b : Int)) (hk : a < k) (hk2 : b < k) => depth_both h h' ha hb hk hk2
      rw [hnd] at hparts dl dr db
      obtain ⟨⟨kd, za, zb, zs⟩, hnk⟩ : ∃ n, ns[k] = n := ⟨_, rfl⟩
      rw [hnk] at q0 q1 q2 q3 hparts dl dr db
      dsimp only at q0 q1 q2 q3 hparts dl dr db
      have i1 : (k : Int) < (ns.length : Int) := by omega
      have i2 := IntWalk.i64_in ((k : Int) + 1) (by omega)
      have i3 : (0 : Int) ≤ (k : Int) := by omega
      have RDa := RD.alloc (.cells #[.int .i64 kd, .int .i64 za, .int .i64 zb, .int .i64 zs] 76)
      have RN := Row.new wr 76 #[.int .i64 kd, .int .i64 za, .int .i64 zb, .int .i64 zs]
      have hba : Below w1.heap.size w1 (wr.alloc (.cells #[.int .i64 kd, .int .i64 za, .int .i64 zb, .int .i64 zs] 76)) := hb.alloc hbs _
      have hgn : w1.heap.size < wr.heap.size := RD.lt
      have step : ∀ (v : Int) (wz : World), depthAt ns k = v → Row wz w1.heap.size 2 (ds.map (.int .i64)) → Below w1.heap.size w1 wz → ∃ (k' : Nat) (ds' : List Int), k' ≤ ns.length ∧ Value.int .i64 ((k : Int) + 1) = .int .i64 k' ∧ ds'.length = ns.length ∧ Hid (∀ j, j < k' → ds'[j]? = some (depthAt ns j)) ∧ Row (wz.setCell ⟨w1.heap.size, k, none⟩ (.int .i64 v)) w1.heap.size 2 (ds'.map (.int .i64)) ∧ Below w1.heap.size w1 (wz.setCell ⟨w1.heap.size, k, none⟩ (.int .i64 v)) := by
       intro v wz hv hrow hbz
       refine ⟨k + 1, ds.set k v, by omega, by go_num, by simpa using hdl, Lib.hid (fun j hj => ?_), ?_, hbz.setCell (Nat.le_refl _) _⟩
       · by_cases ej : j = k
         · subst ej; rw [List.getElem?_set_self (by omega), hv]
         · rw [List.getElem?_set_ne (Ne.symm ej)]; exact hds.out j (by omega)
       · have := hrow.set k (.int .i64 v)
         rwa [← List.map_set] at this
      have STEP := Lib.hid step
      have dcell : ∀ (j : Nat), j < k → ∀ wz, Row wz w1.heap.size 2 (ds.map (.int .i64)) → wz.cell? ⟨w1.heap.size, j, none⟩ = some (.int .i64 (depthAt ns j)) := fun j hj wz hrow => hrow.cell' (by rw [List.getElem?_map, hds.out j hj]; rfl)
      have kcell : ∀ wz, Row wz w1.heap.size 2 (ds.map (.int .i64)) → wz.cell? ⟨w1.heap.size, k, none⟩ = some (.int .i64 ds[k]) := fun wz hrow => hrow.cell' (by rw [List.getElem?_map, List.getElem?_eq_getElem]; rfl)
      have DC := Lib.hid dcell
      have KC := Lib.hid kcell
      clear step dcell kcell hds hb hb2 hr hnd hnk RD t0 R b0 b1 HT H CK
      go_upto_region 8 with fail
      generalize wr.alloc (.cells #[.int .i64 kd, .int .i64 za, .int .i64 zb, .int .i64 zs] 76) = wa at RDa RN hba ⊢
      have n0 := RN.c0
      have n1 := RN.c1
      have n2 := RN.c2
      have kc := KC.out wa RDa
      have fd := RDa.frozen
      by_cases h0 : kd = 0
      · subst h0
        have HD := Lib.hid (dl rfl)
        clear dl dr db hparts hD
        go_wp2_with fail
        go_roundw
        case rel => exact STEP.out 1 wa HD.out RDa hba
        case measure => simp [intOf]; omega
      · rcases hparts with hz | ⟨hk1, ha, hb, _⟩
        · exact absurd hz h0
        obtain ⟨a, rfl⟩ : ∃ a : Nat, za = (a : Int) := ⟨za.toNat, by omega⟩
        have hak : a < k := by omega
        have ca := DC.out a hak wa RDa
        have hDa := hD a (by omega)
        have a0 : (0 : Int) ≤ (a : Int) := by omega
        have a1 : (a : Int) < (ns.length : Int) := by omega
        have g0 : (kd == 0) = false := by simp [h0]
        by_cases h5 : kd = 5
        · subst h5
          have HD := Lib.hid (dr a rfl rfl hak)
          have e1 : IntKind.i64.wrap (1 + depthAt ns a) = depthAt ns a + 1 := by rw [Int.add_comm]; exact IntWalk.i64_in _ (by omega)
          clear dl dr db hb hD h0
          go_wp2_with fail
          go_roundw
          case rel => exact STEP.out _ wa HD.out RDa hba
          case measure => simp [intOf]; omega
        · have hb := hb h5
          obtain ⟨b', rfl⟩ : ∃ b : Nat, zb = (b : Int) := ⟨zb.toNat, by omega⟩
          have hbk : b' < k := by omega
          have cb := DC.out b' hbk wa RDa
          have hDb := hD b' (by omega)
          have b0' : (0 : Int) ≤ (b' : Int) := by omega
          have b1' : (b' : Int) < (ns.length : Int) := by omega
          have g5 : (kd == 5) = false := by simp [h5]
          have HD := Lib.hid (db a b' h0 h5 rfl rfl hak hbk)
          have e1 : IntKind.i64.wrap (1 + max (depthAt ns a) (depthAt ns b')) = max (depthAt ns a) (depthAt ns b') + 1 := by rw [Int.add_comm]; exact IntWalk.i64_in _ (by omega)
          clear dl dr db hD h0 h5
          go_upto_region 9 with fail
          go_still_tail 15, (by kernel_rfl)
          go_wp2_with fail
          go_roundw
          case rel => exact STEP.out _ _ HD.out (RDa.drewN _) (below_drewN hba _)
          case measure => simp [intOf]; omega
    · obtain rfl : k = ns.length := by omega
      have i1 : ¬ ((ns.length : Int) < (ns.length : Int)) := by omega
      have hl := RD.cell' (i := ns.length - 1) (u := .int .i64 (depthAt ns (ns.length - 1))) (by rw [List.getElem?_map, hds.out (ns.length - 1) (by omega)]; rfl)
      have e1 := IntWalk.i64_in ((ns.length : Int) - 1) (by omega)
      have e2 : ((ns.length : Int) - 1).toNat = ns.length - 1 := by omega
      have e3 : (0 : Int) ≤ (ns.length : Int) - 1 := by omega
      have e4 : (ns.length : Int) - 1 < (ns.length : Int) := by omega
      clear hr hds RD hdl
      go_wp2_with fail
      refine bodyPost_ret (v := .tuple #[.int .i64 (depthAt ns (ns.length - 1)), .int .i64 0]) (by simp [results, Try.results21, go_sem]) rfl ⟨by rw [HC.out, HA.out], hb2⟩
 · have HC : Hid (depthR xs ns = 0) := by show _ = _; rw [depthR, if_neg h0]
   have g : (askF xs ns != 0) = true := by simp [h0]
   clear h0
   go_wp2_with fail
   refine bodyPost_ret (v := .tuple #[.int .i64 0, .int .i64 (askF xs ns)]) (by simp [results, Try.results21, go_sem]) rfl ⟨by rw [HC.out], b0⟩
end Go.Proofs.Ytmopioaojdlnkaa
