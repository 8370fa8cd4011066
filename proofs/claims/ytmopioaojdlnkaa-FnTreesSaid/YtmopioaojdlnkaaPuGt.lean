/- What laws draw: symbols of an expression, and what is done to them. Conditions: none. -/
import Derived.Test.YtmopioaojdlnkaaPuFt
import Derived.Test.YtmopioaojdlnkaaPuDt
namespace Go.Proofs.Ytmopioaojdlnkaa
open Go Go.RowKit
theorem spec_l21Place2_c {B g m : Nat} {code : List UInt8} {M x y size : Int} (w : World) (h : SrcIs B g code m w) (hm : m ≤ 590000) (hB : B ≤ w.heap.size) (hx : -M ≤ x ∧ x ≤ M) (hy : -M ≤ y ∧ y ≤ M) (hs : 0 ≤ size ∧ size ≤ 40) (hM : M ≤ 30000) :
 Calls Try.prog 46 #[.pointer (some ⟨g, 0, none⟩), .int .i64 x, .int .i64 y, .int .i64 size, .int .i64 2] w (PlacePost (M + 490) 7 B g (m + 100) code w) :=
 spec_l21Place_s (d := 1) (NM := 599000) (NL := 40000) (by omega) (by omega) (by omega) (by decide) (by decide) (by decide)
  (fun w h hm hB hx hy hs hM => spec_l21Place_s (d := 0) (NM := 600000) (NL := 49000) (by omega) (by omega) (by omega) (by decide) (by decide) (by decide)
    (fun w h hm hB hx hy hs hM => spec_l21Place0_c _ _ _ w h hm hB hx hy hs (by omega) (by decide) (by decide) (Nat.le_refl _)) w h (by omega) hB hx hy hs (by omega)) w h (by omega) hB hx hy hs (by omega)
set_option maxRecDepth 100000 in
set_option maxHeartbeats 8000000 in
theorem spec_l21Draw_c {B g m : Nat} {code : List UInt8} (w : World) (h : SrcIs B g code m w) (hm : m ≤ 500000) (hB : B ≤ w.heap.size) :
 Calls Try.prog 27 #[.pointer (some ⟨g, 0, none⟩)] w (SymsDrawn 6000 12 B g (m + 200) code w) := by
 have hgw := h.lt
 have H1 := Lib.hid (src_one_c w h (by omega) 5 (by omega))
 clear h
 go_enter Try.func27, Try.ntmps27
 go_wp2_with fail
 refine H1.out.mono ?_
 rintro e w1 ⟨⟨b1, rfl⟩, S1, O1⟩
 have hs1 := O1.size
 cases b1
 · have H2 := Lib.hid (spec_l21Place2_c (x := 200) (y := 300) (size := 40) (M := 300) w1 S1 (by omega) (by omega) (by omega) (by omega) (by omega) (by omega))
   clear S1
   go_wp2_with fail
   refine H2.out.mono ?_
   rintro e w2 ⟨xs, va, G, b, rfl, rep, fr, l1, l2, sm, bx, S2, O2⟩
   obtain ⟨A, c, rfl⟩ := slice_len rep
   have hs2 := O2.size
   have hgG : g ∉ G := fun hin => by have := fr.2 g hin; omega
   have frB : Fresh w.heap.size G := ⟨fr.1, fun x hx => by have := fr.2 x hx; omega⟩
   have RB := Row.new w2 48 #[.int .i64 b.x1, .int .i64 b.y1, .int .i64 b.x2, .int .i64 b.y2]
   have REP := Lib.hid (rep.alloc (.cells #[.int .i64 b.x1, .int .i64 b.y1, .int .i64 b.x2, .int .i64 b.y2] 48))
   have S3 := S2.alloc (.cells #[.int .i64 b.x1, .int .i64 b.y1, .int .i64 b.x2, .int .i64 b.y2] 48)
   have O3 := (O1.trans O2).alloc (.cells #[.int .i64 b.x1, .int .i64 b.y1, .int .i64 b.x2, .int .i64 b.y2] 48)
   have FR := Lib.hid frB
   have HSM := Lib.hid sm
   have hbx := bx
   unfold BoxLe at hbx
   have hg2 := S2.lt
   clear rep fr frB sm S2 O2 H1 H2 O1
   go_upto_region 4 with fail
   generalize hw3 : w2.alloc (.cells #[.int .i64 b.x1, .int .i64 b.y1, .int .i64 b.x2, .int .i64 b.y2] 48) = w3 at RB REP S3 O3 ⊢
   have hw3s : w2.heap.size < w3.heap.size := RB.lt
   generalize w2.heap.size = bB at RB hs2 hg2 hw3s ⊢
   clear hw3
   have H3 := Lib.hid (src_one_c w3 S3 (by omega) 5 (by omega))
   clear S3
   go_wp2_with fail
   refine H3.out.mono ?_
   rintro e w4 ⟨⟨b2, rfl⟩, S4, O4⟩
   replace RB := row_o RB O4 (by omega)
   replace REP := Lib.hid (REP.out.only O4 (fun x hx hin => by simp at hin; subst hin; exact hgG hx))
   replace O4 := O3.trans O4
   have hs4 := O4.size
   clear O3 H3
   cases b2
   · obtain ⟨ys, hys⟩ : ∃ ys, ys = xs := ⟨_, rfl⟩
     rw [← hys] at REP HSM l1 l2 ⊢
     clear hys xs
     replace HSM : Hid (∀ c ∈ ys, SymLe 6000 c) := Lib.hid (fun c hc => (HSM.out c hc).mono (by omega))
     have SZ := S4
     have OZ := O4
     clear S4 O4
     have z8 : ¬ (8 < (ys.length : Int)) := by omega
     by_cases h1n : 1 < ys.length
     · have z1 : (1 : Int) < (ys.length : Int) := by omega
       have HD := Lib.hid (src_one_c _ SZ (by omega) 3 (by omega))
       clear SZ
       go_wp2_with fail
       refine HD.out.mono ?_
       rintro e w9 ⟨⟨b3, rfl⟩, S9, O9⟩
       have REP3 := Lib.hid (REP.out.only O9 (fun x hx hin => by simp at hin; subst hin; have := FR.out.2 _ hx; omega))
       replace O9 := OZ.trans O9
       clear REP OZ HD
       cases b3
       · go_wp2_with fail
         go_ret
         exact ⟨ys, _, G, rfl, REP3.out, FR.out, by omega, HSM.out, S9.more (by omega), O9⟩
       · skip
         obtain ⟨u, v, rs, rfl⟩ : ∃ u v rs, ys = u :: v :: rs := by
          match ys, h1n with
          | u :: v :: rs, _ => exact ⟨u, v, rs, rfl⟩
         obtain ⟨gR, cR, csR, rest, G', hvR, hlR, hcR, hrow, hrp, hlenR, hG'⟩ := row_of_slice REP3.out (by simp)
         obtain ⟨rfl, rfl⟩ := repL_pSymbol_inv hrp
         have OKS := Lib.hid (pSymbols_ok REP3.out)
         rw [Value.slice.injEq] at hvR
         obtain ⟨rfl, -, rfl⟩ := hvR
         have hfr := FR.out.2 gR (by rw [hG']; simp)
         have R : Row w9 gR 50 (.string u.label :: .int .i64 u.x1 :: .int .i64 u.y1 :: .int .i64 u.x2 :: .int .i64 u.y2 :: .string v.label :: .int .i64 v.x1 :: .int .i64 v.y1 :: .int .i64 v.x2 :: .int .i64 v.y2 :: (rs.flatMap pSymbolCells ++ rest)) := by
          have h := hrow
          simp only [List.flatMap_cons, pSymbolCells, List.cons_append, List.nil_append] at h
          exact h
         have hln : (rs.flatMap pSymbolCells ++ rest).length + 10 = c * 5 := by
          have h := hlenR
          simp only [List.flatMap_cons, pSymbolCells, List.cons_append, List.nil_append, List.length_cons] at h
          exact h
         have HS9 := Lib.hid hlenR
         have hl8s : (u :: v :: rs).length ≤ 8 := by omega
         clear hrow hrp REP3 hlenR
         have r0 := R.c0
         have r1 := R.c1
         have r2 := R.c2
         have r3 := R.c3
         have r4 := R.c4
         have r5 := R.c5
         have r6 := R.cell' (i := 6) rfl
         have r7 := R.cell' (i := 7) rfl
         have r8 := R.cell' (i := 8) rfl
         have r9 := R.cell' (i := 9) rfl
         go_upto_region 10 with fail
         have RX := Row.new w9 50 #[.string u.label, .int .i64 u.x1, .int .i64 u.y1, .int .i64 u.x2, .int .i64 u.y2]
         have hltR := R.lt
         replace R := R.alloc (.cells #[.string u.label, .int .i64 u.x1, .int .i64 u.y1, .int .i64 u.x2, .int .i64 u.y2] 50)
         replace S9 := S9.alloc (.cells #[.string u.label, .int .i64 u.x1, .int .i64 u.y1, .int .i64 u.x2, .int .i64 u.y2] 50)
         replace O9 := O9.alloc (.cells #[.string u.label, .int .i64 u.x1, .int .i64 u.y1, .int .i64 u.x2, .int .i64 u.y2] 50)
         clear r0 r1 r2 r3 r4 r5 r6 r7 r8 r9
         generalize w9.alloc (.cells #[.string u.label, .int .i64 u.x1, .int .i64 u.y1, .int .i64 u.x2, .int .i64 u.y2] 50) = w10 at R RX S9 O9 ⊢
         generalize w9.heap.size = gX at RX hltR ⊢
         have r0 := R.c0
         have r1 := R.c1
         have r2 := R.c2
         have r3 := R.c3
         have r4 := R.c4
         have r5 := R.c5
         have r6 := R.cell' (i := 6) rfl
         have r7 := R.cell' (i := 7) rfl
         have r8 := R.cell' (i := 8) rfl
         have r9 := R.cell' (i := 9) rfl
         have rF := R.frozen
         go_upto_region 11 with fail
         have R1 : Row (((((w10.setCell ⟨gR, 0, none⟩ (.string v.label)).setCell ⟨gR, 1, none⟩ (.int .i64 v.x1)).setCell ⟨gR, 2, none⟩ (.int .i64 v.y1)).setCell ⟨gR, 3, none⟩ (.int .i64 v.x2)).setCell ⟨gR, 4, none⟩ (.int .i64 v.y2)) gR 50 (.string v.label :: .int .i64 v.x1 :: .int .i64 v.y1 :: .int .i64 v.x2 :: .int .i64 v.y2 :: .string v.label :: .int .i64 v.x1 :: .int .i64 v.y1 :: .int .i64 v.x2 :: .int .i64 v.y2 :: (rs.flatMap pSymbolCells ++ rest)) := (((((R.set 0 (.string v.label)).set 1 (.int .i64 v.x1)).set 2 (.int .i64 v.y1)).set 3 (.int .i64 v.x2)).set 4 (.int .i64 v.y2))
         have RX1 := (((((RX.far (p := ⟨gR, 0, none⟩) (by show gX ≠ gR; omega) (.string v.label)).far (p := ⟨gR, 1, none⟩) (by show gX ≠ gR; omega) (.int .i64 v.x1)).far (p := ⟨gR, 2, none⟩) (by show gX ≠ gR; omega) (.int .i64 v.y1)).far (p := ⟨gR, 3, none⟩) (by show gX ≠ gR; omega) (.int .i64 v.x2)).far (p := ⟨gR, 4, none⟩) (by show gX ≠ gR; omega) (.int .i64 v.y2))
         have S11 := (((((S9.far (p := ⟨gR, 0, none⟩) (by show B ≤ gR; omega) (.string v.label)).far (p := ⟨gR, 1, none⟩) (by show B ≤ gR; omega) (.int .i64 v.x1)).far (p := ⟨gR, 2, none⟩) (by show B ≤ gR; omega) (.int .i64 v.y1)).far (p := ⟨gR, 3, none⟩) (by show B ≤ gR; omega) (.int .i64 v.x2)).far (p := ⟨gR, 4, none⟩) (by show B ≤ gR; omega) (.int .i64 v.y2))
         have O11 := (((((O9.set_new (p := ⟨gR, 0, none⟩) (by show w.heap.size ≤ gR; omega) (.string v.label)).set_new (p := ⟨gR, 1, none⟩) (by show w.heap.size ≤ gR; omega) (.int .i64 v.x1)).set_new (p := ⟨gR, 2, none⟩) (by show w.heap.size ≤ gR; omega) (.int .i64 v.y1)).set_new (p := ⟨gR, 3, none⟩) (by show w.heap.size ≤ gR; omega) (.int .i64 v.x2)).set_new (p := ⟨gR, 4, none⟩) (by show w.heap.size ≤ gR; omega) (.int .i64 v.y2))
         clear R RX S9 O9 r0 r1 r2 r3 r4 r5 r6 r7 r8 r9 rF
         generalize (((((w10.setCell ⟨gR, 0, none⟩ (.string v.label)).setCell ⟨gR, 1, none⟩ (.int .i64 v.x1)).setCell ⟨gR, 2, none⟩ (.int .i64 v.y1)).setCell ⟨gR, 3, none⟩ (.int .i64 v.x2)).setCell ⟨gR, 4, none⟩ (.int .i64 v.y2)) = w11 at R1 RX1 S11 O11 ⊢
         have x0 := RX1.c0
         have x1 := RX1.c1
         have x2 := RX1.c2
         have x3 := RX1.c3
         have x4 := RX1.c4
         have r0 := R1.c0
         have r1 := R1.c1
         have r2 := R1.c2
         have r3 := R1.c3
         have r4 := R1.c4
         have r5 := R1.c5
         have r6 := R1.cell' (i := 6) rfl
         have r7 := R1.cell' (i := 7) rfl
         have r8 := R1.cell' (i := 8) rfl
         have r9 := R1.cell' (i := 9) rfl
         have rF := R1.frozen
         go_upto_region 12 with fail
         have R2 : Row (((((w11.setCell ⟨gR, 5, none⟩ (.string u.label)).setCell ⟨gR, 6, none⟩ (.int .i64 u.x1)).setCell ⟨gR, 7, none⟩ (.int .i64 u.y1)).setCell ⟨gR, 8, none⟩ (.int .i64 u.x2)).setCell ⟨gR, 9, none⟩ (.int .i64 u.y2)) gR 50 (.string v.label :: .int .i64 v.x1 :: .int .i64 v.y1 :: .int .i64 v.x2 :: .int .i64 v.y2 :: .string u.label :: .int .i64 u.x1 :: .int .i64 u.y1 :: .int .i64 u.x2 :: .int .i64 u.y2 :: (rs.flatMap pSymbolCells ++ rest)) := (((((R1.set 5 (.string u.label)).set 6 (.int .i64 u.x1)).set 7 (.int .i64 u.y1)).set 8 (.int .i64 u.x2)).set 9 (.int .i64 u.y2))
         have S12 := (((((S11.far (p := ⟨gR, 5, none⟩) (by show B ≤ gR; omega) (.string u.label)).far (p := ⟨gR, 6, none⟩) (by show B ≤ gR; omega) (.int .i64 u.x1)).far (p := ⟨gR, 7, none⟩) (by show B ≤ gR; omega) (.int .i64 u.y1)).far (p := ⟨gR, 8, none⟩) (by show B ≤ gR; omega) (.int .i64 u.x2)).far (p := ⟨gR, 9, none⟩) (by show B ≤ gR; omega) (.int .i64 u.y2))
         have O12 := (((((O11.set_new (p := ⟨gR, 5, none⟩) (by show w.heap.size ≤ gR; omega) (.string u.label)).set_new (p := ⟨gR, 6, none⟩) (by show w.heap.size ≤ gR; omega) (.int .i64 u.x1)).set_new (p := ⟨gR, 7, none⟩) (by show w.heap.size ≤ gR; omega) (.int .i64 u.y1)).set_new (p := ⟨gR, 8, none⟩) (by show w.heap.size ≤ gR; omega) (.int .i64 u.x2)).set_new (p := ⟨gR, 9, none⟩) (by show w.heap.size ≤ gR; omega) (.int .i64 u.y2))
         clear R1 RX1 S11 O11 r0 r1 r2 r3 r4 r5 r6 r7 r8 r9 rF x0 x1 x2 x3 x4
         generalize (((((w11.setCell ⟨gR, 5, none⟩ (.string u.label)).setCell ⟨gR, 6, none⟩ (.int .i64 u.x1)).setCell ⟨gR, 7, none⟩ (.int .i64 u.y1)).setCell ⟨gR, 8, none⟩ (.int .i64 u.x2)).setCell ⟨gR, 9, none⟩ (.int .i64 u.y2)) = w12 at R2 S12 O12 ⊢
         have R3 : Row w12 gR 50 (((v :: u :: rs).flatMap pSymbolCells) ++ rest) := by
          simp only [List.flatMap_cons, pSymbolCells, List.cons_append, List.nil_append]
          exact R2
         have RL : (((v :: u :: rs).flatMap pSymbolCells) ++ rest).length = c * pSymbol.size := by
          simp only [List.flatMap_cons, pSymbolCells, List.cons_append, List.nil_append, List.length_cons]
          exact hln
         have RP := slice_of_room (T := pSymbol) R3 (repL_pSymbol (v :: u :: rs) (fun s hs => OKS.out s (by simp only [List.mem_cons] at hs ⊢; exact hs.elim (fun h => .inr (.inl h)) (fun h => h.elim .inl (fun h => .inr (.inr h)))))) (n := (u :: v :: rs).length) (by simp) hlR hcR RL
         have FR9 := Lib.hid (hG' ▸ FR.out)
         clear R2 R3 RL
         go_wp2_with fail
         go_ret
         exact ⟨v :: u :: rs, _, [gR], rfl, RP, by simpa using FR9.out, by simp at hl8s ⊢; omega, fun s hs => HSM.out s (by simp only [List.mem_cons] at hs ⊢; exact hs.elim (fun h => .inr (.inl h)) (fun h => h.elim .inl (fun h => .inr (.inr h)))), S12.more (by omega), O12⟩
     · first
       | (exfalso; omega)
       | (have z1 : ¬ (1 : Int) < (ys.length : Int) := by omega
          go_wp2_with fail
          go_ret
          exact ⟨ys, _, G, rfl, REP.out, FR.out, by omega, HSM.out, SZ.more (by omega), OZ⟩)
   · have e1 := IntWalk.i64_in (b.x1 - 20) (by omega)
     have e2 := IntWalk.i64_in (b.y1 - 5) (by omega)
     have e3 := IntWalk.i64_in (b.x2 + 5) (by omega)
     have e4 := IntWalk.i64_in (b.y2 + 5) (by omega)
     have v0 := RB.c0
     have v1 := RB.c1
     have v2 := RB.c2
     have v3 := RB.c3
     have hsym : SymLe 6000 ⟨⟨#[114]⟩, b.x1 - 20, b.y1 - 5, b.x2 + 5, b.y2 + 5⟩ := ⟨by unfold BoxLe boxOf; dsimp only; omega, by show (1 : Nat) ≤ 8; omega⟩
     have ok1 : ∀ s ∈ [(⟨⟨#[114]⟩, b.x1 - 20, b.y1 - 5, b.x2 + 5, b.y2 + 5⟩ : PSymbol)], pSymbolOk s := fun s hs => by simp only [List.mem_singleton] at hs; subst hs; exact hsym.ok (by omega)
     have OK1 := Lib.hid ok1
     replace HSM : Hid (∀ c ∈ xs ++ [(⟨⟨#[114]⟩, b.x1 - 20, b.y1 - 5, b.x2 + 5, b.y2 + 5⟩ : PSymbol)], SymLe 6000 c) := Lib.hid (fun c hc => by
      rcases List.mem_append.1 hc with hc | hc
      · exact (HSM.out c hc).mono (by omega)
      · simp only [List.mem_singleton] at hc; subst hc; exact hsym)
     have hg4 := S4.lt
     clear ok1 hsym
     go_upto_region 6 with (at_builtin; refine wpList_append_repX (T := pSymbol) (e := 50) (ys := [⟨⟨#[114]⟩, b.x1 - 20, b.y1 - 5, b.x2 + 5, b.y2 + 5⟩]) (ec := [.string ⟨#[114]⟩, .int .i64 (b.x1 - 20), .int .i64 (b.y1 - 5), .int .i64 (b.x2 + 5), .int .i64 (b.y2 + 5)]) rfl (.tmp 17) (.tmp 32) rfl Try.underlying24 infoSym rfl (by decide) rfl (REP.out.alloc _) rfl (repL_pSymbol [⟨⟨#[114]⟩, b.x1 - 20, b.y1 - 5, b.x2 + 5, b.y2 + 5⟩] OK1.out) (cellsAt_new _ _ _) trivial (by rw [List.append_nil]; exact FR.out.1) (by simp [maxLen]; omega) (by simp; omega) ?_; go_loud (intro v6 w6 F6 r6 o6 q6 x6; have l6 : (xs ++ [(⟨⟨#[114]⟩, b.x1 - 20, b.y1 - 5, b.x2 + 5, b.y2 + 5⟩ : PSymbol)]).length = xs.length + 1 := (by simp); have LL := Lib.hid l6; generalize hys : xs ++ [(⟨⟨#[114]⟩, b.x1 - 20, b.y1 - 5, b.x2 + 5, b.y2 + 5⟩ : PSymbol)] = ys at r6 HSM LL; have R6 := Lib.hid r6; have O6 := Lib.hid o6; have Q6 := Lib.hid q6; obtain ⟨A6, c6, rfl⟩ := slice_len r6; clear r6 o6 q6 x6 l6 hys))
     have hl6 : xs.length + 1 ≤ ys.length ∧ ys.length ≤ xs.length + 1 := by have := LL.out; omega
     have fr6 : Fresh w.heap.size F6 := Q6.out w.heap.size (by rw [List.append_nil]; exact FR.out) (by simp; omega)
     have SZ := (S4.alloc (.cells #[.string ⟨#[114]⟩, .int .i64 (b.x1 - 20), .int .i64 (b.y1 - 5), .int .i64 (b.x2 + 5), .int .i64 (b.y2 + 5)] 50)).only O6.out (fun x hx => by have := FR.out.2 x hx; omega)
     have OZ := only_newS (O4.alloc (.cells #[.string ⟨#[114]⟩, .int .i64 (b.x1 - 20), .int .i64 (b.y1 - 5), .int .i64 (b.x2 + 5), .int .i64 (b.y2 + 5)] 50)) O6.out (fun x hx => .inr (FR.out.2 x hx))
     have REP' := R6
     have FR' := Lib.hid fr6
     have hs6 := O6.out.size
     simp only [World.alloc, Array.size_push] at hs6
     have hgF6 : g ∉ F6 := fun hin => by have := fr6.2 g hin; omega
     clear REP FR S4 O4 fr6 R6 O6 Q6 v0 v1 v2 v3 RB
     have REP := REP'
     have FR := FR'
     clear REP' FR' hgG G
     obtain ⟨G, hG⟩ : ∃ G, G = F6 := ⟨_, rfl⟩
     rw [← hG] at REP FR
     have z8 : ¬ (8 < (ys.length : Int)) := by omega
     by_cases h1n : 1 < ys.length
     · have z1 : (1 : Int) < (ys.length : Int) := by omega
       have HD := Lib.hid (src_one_c _ SZ (by omega) 3 (by omega))
       clear SZ
       go_wp2_with fail
       refine HD.out.mono ?_
       rintro e w9 ⟨⟨b3, rfl⟩, S9, O9⟩
       have REP3 := Lib.hid (REP.out.only O9 (fun x hx hin => by simp at hin; subst hin; have := FR.out.2 _ hx; omega))
       replace O9 := OZ.trans O9
       clear REP OZ HD
       cases b3
       · go_wp2_with fail
         go_ret
         exact ⟨ys, _, G, rfl, REP3.out, FR.out, by omega, HSM.out, S9.more (by omega), O9⟩
       · skip
         obtain ⟨u, v, rs, rfl⟩ : ∃ u v rs, ys = u :: v :: rs := by
          match ys, h1n with
          | u :: v :: rs, _ => exact ⟨u, v, rs, rfl⟩
         obtain ⟨gR, cR, csR, rest, G', hvR, hlR, hcR, hrow, hrp, hlenR, hG'⟩ := row_of_slice REP3.out (by simp)
         obtain ⟨rfl, rfl⟩ := repL_pSymbol_inv hrp
         have OKS := Lib.hid (pSymbols_ok REP3.out)
         rw [Value.slice.injEq] at hvR
         obtain ⟨rfl, -, rfl⟩ := hvR
         have hfr := FR.out.2 gR (by rw [hG']; simp)
         have R : Row w9 gR 50 (.string u.label :: .int .i64 u.x1 :: .int .i64 u.y1 :: .int .i64 u.x2 :: .int .i64 u.y2 :: .string v.label :: .int .i64 v.x1 :: .int .i64 v.y1 :: .int .i64 v.x2 :: .int .i64 v.y2 :: (rs.flatMap pSymbolCells ++ rest)) := by
          have h := hrow
          simp only [List.flatMap_cons, pSymbolCells, List.cons_append, List.nil_append] at h
          exact h
         have hln : (rs.flatMap pSymbolCells ++ rest).length + 10 = c6 * 5 := by
          have h := hlenR
          simp only [List.flatMap_cons, pSymbolCells, List.cons_append, List.nil_append, List.length_cons] at h
          exact h
         have HS9 := Lib.hid hlenR
         have hl8s : (u :: v :: rs).length ≤ 8 := by omega
         clear hrow hrp REP3 hlenR
         have r0 := R.c0
         have r1 := R.c1
         have r2 := R.c2
         have r3 := R.c3
         have r4 := R.c4
         have r5 := R.c5
         have r6 := R.cell' (i := 6) rfl
         have r7 := R.cell' (i := 7) rfl
         have r8 := R.cell' (i := 8) rfl
         have r9 := R.cell' (i := 9) rfl
         go_upto_region 10 with fail
         have RX := Row.new w9 50 #[.string u.label, .int .i64 u.x1, .int .i64 u.y1, .int .i64 u.x2, .int .i64 u.y2]
         have hltR := R.lt
         replace R := R.alloc (.cells #[.string u.label, .int .i64 u.x1, .int .i64 u.y1, .int .i64 u.x2, .int .i64 u.y2] 50)
         replace S9 := S9.alloc (.cells #[.string u.label, .int .i64 u.x1, .int .i64 u.y1, .int .i64 u.x2, .int .i64 u.y2] 50)
         replace O9 := O9.alloc (.cells #[.string u.label, .int .i64 u.x1, .int .i64 u.y1, .int .i64 u.x2, .int .i64 u.y2] 50)
         clear r0 r1 r2 r3 r4 r5 r6 r7 r8 r9
         generalize w9.alloc (.cells #[.string u.label, .int .i64 u.x1, .int .i64 u.y1, .int .i64 u.x2, .int .i64 u.y2] 50) = w10 at R RX S9 O9 ⊢
         generalize w9.heap.size = gX at RX hltR ⊢
         have r0 := R.c0
         have r1 := R.c1
         have r2 := R.c2
         have r3 := R.c3
         have r4 := R.c4
         have r5 := R.c5
         have r6 := R.cell' (i := 6) rfl
         have r7 := R.cell' (i := 7) rfl
         have r8 := R.cell' (i := 8) rfl
         have r9 := R.cell' (i := 9) rfl
         have rF := R.frozen
         go_upto_region 11 with fail
         have R1 : Row (((((w10.setCell ⟨gR, 0, none⟩ (.string v.label)).setCell ⟨gR, 1, none⟩ (.int .i64 v.x1)).setCell ⟨gR, 2, none⟩ (.int .i64 v.y1)).setCell ⟨gR, 3, none⟩ (.int .i64 v.x2)).setCell ⟨gR, 4, none⟩ (.int .i64 v.y2)) gR 50 (.string v.label :: .int .i64 v.x1 :: .int .i64 v.y1 :: .int .i64 v.x2 :: .int .i64 v.y2 :: .string v.label :: .int .i64 v.x1 :: .int .i64 v.y1 :: .int .i64 v.x2 :: .int .i64 v.y2 :: (rs.flatMap pSymbolCells ++ rest)) := (((((R.set 0 (.string v.label)).set 1 (.int .i64 v.x1)).set 2 (.int .i64 v.y1)).set 3 (.int .i64 v.x2)).set 4 (.int .i64 v.y2))
         have RX1 := (((((RX.far (p := ⟨gR, 0, none⟩) (by show gX ≠ gR; omega) (.string v.label)).far (p := ⟨gR, 1, none⟩) (by show gX ≠ gR; omega) (.int .i64 v.x1)).far (p := ⟨gR, 2, none⟩) (by show gX ≠ gR; omega) (.int .i64 v.y1)).far (p := ⟨gR, 3, none⟩) (by show gX ≠ gR; omega) (.int .i64 v.x2)).far (p := ⟨gR, 4, none⟩) (by show gX ≠ gR; omega) (.int .i64 v.y2))
         have S11 := (((((S9.far (p := ⟨gR, 0, none⟩) (by show B ≤ gR; omega) (.string v.label)).far (p := ⟨gR, 1, none⟩) (by show B ≤ gR; omega) (.int .i64 v.x1)).far (p := ⟨gR, 2, none⟩) (by show B ≤ gR; omega) (.int .i64 v.y1)).far (p := ⟨gR, 3, none⟩) (by show B ≤ gR; omega) (.int .i64 v.x2)).far (p := ⟨gR, 4, none⟩) (by show B ≤ gR; omega) (.int .i64 v.y2))
         have O11 := (((((O9.set_new (p := ⟨gR, 0, none⟩) (by show w.heap.size ≤ gR; omega) (.string v.label)).set_new (p := ⟨gR, 1, none⟩) (by show w.heap.size ≤ gR; omega) (.int .i64 v.x1)).set_new (p := ⟨gR, 2, none⟩) (by show w.heap.size ≤ gR; omega) (.int .i64 v.y1)).set_new (p := ⟨gR, 3, none⟩) (by show w.heap.size ≤ gR; omega) (.int .i64 v.x2)).set_new (p := ⟨gR, 4, none⟩) (by show w.heap.size ≤ gR; omega) (.int .i64 v.y2))
         clear R RX S9 O9 r0 r1 r2 r3 r4 r5 r6 r7 r8 r9 rF
         generalize (((((w10.setCell ⟨gR, 0, none⟩ (.string v.label)).setCell ⟨gR, 1, none⟩ (.int .i64 v.x1)).setCell ⟨gR, 2, none⟩ (.int .i64 v.y1)).setCell ⟨gR, 3, none⟩ (.int .i64 v.x2)).setCell ⟨gR, 4, none⟩ (.int .i64 v.y2)) = w11 at R1 RX1 S11 O11 ⊢
         have x0 := RX1.c0
         have x1 := RX1.c1
         have x2 := RX1.c2
         have x3 := RX1.c3
         have x4 := RX1.c4
         have r0 := R1.c0
         have r1 := R1.c1
         have r2 := R1.c2
         have r3 := R1.c3
         have r4 := R1.c4
         have r5 := R1.c5
         have r6 := R1.cell' (i := 6) rfl
         have r7 := R1.cell' (i := 7) rfl
         have r8 := R1.cell' (i := 8) rfl
         have r9 := R1.cell' (i := 9) rfl
         have rF := R1.frozen
         go_upto_region 12 with fail
         have R2 : Row (((((w11.setCell ⟨gR, 5, none⟩ (.string u.label)).setCell ⟨gR, 6, none⟩ (.int .i64 u.x1)).setCell ⟨gR, 7, none⟩ (.int .i64 u.y1)).setCell ⟨gR, 8, none⟩ (.int .i64 u.x2)).setCell ⟨gR, 9, none⟩ (.int .i64 u.y2)) gR 50 (.string v.label :: .int .i64 v.x1 :: .int .i64 v.y1 :: .int .i64 v.x2 :: .int .i64 v.y2 :: .string u.label :: .int .i64 u.x1 :: .int .i64 u.y1 :: .int .i64 u.x2 :: .int .i64 u.y2 :: (rs.flatMap pSymbolCells ++ rest)) := (((((R1.set 5 (.string u.label)).set 6 (.int .i64 u.x1)).set 7 (.int .i64 u.y1)).set 8 (.int .i64 u.x2)).set 9 (.int .i64 u.y2))
         have S12 := (((((S11.far (p := ⟨gR, 5, none⟩) (by show B ≤ gR; omega) (.string u.label)).far (p := ⟨gR, 6, none⟩) (by show B ≤ gR; omega) (.int .i64 u.x1)).far (p := ⟨gR, 7, none⟩) (by show B ≤ gR; omega) (.int .i64 u.y1)).far (p := ⟨gR, 8, none⟩) (by show B ≤ gR; omega) (.int .i64 u.x2)).far (p := ⟨gR, 9, none⟩) (by show B ≤ gR; omega) (.int .i64 u.y2))
         have O12 := (((((O11.set_new (p := ⟨gR, 5, none⟩) (by show w.heap.size ≤ gR; omega) (.string u.label)).set_new (p := ⟨gR, 6, none⟩) (by show w.heap.size ≤ gR; omega) (.int .i64 u.x1)).set_new (p := ⟨gR, 7, none⟩) (by show w.heap.size ≤ gR; omega) (.int .i64 u.y1)).set_new (p := ⟨gR, 8, none⟩) (by show w.heap.size ≤ gR; omega) (.int .i64 u.x2)).set_new (p := ⟨gR, 9, none⟩) (by show w.heap.size ≤ gR; omega) (.int .i64 u.y2))
         clear R1 RX1 S11 O11 r0 r1 r2 r3 r4 r5 r6 r7 r8 r9 rF x0 x1 x2 x3 x4
         generalize (((((w11.setCell ⟨gR, 5, none⟩ (.string u.label)).setCell ⟨gR, 6, none⟩ (.int .i64 u.x1)).setCell ⟨gR, 7, none⟩ (.int .i64 u.y1)).setCell ⟨gR, 8, none⟩ (.int .i64 u.x2)).setCell ⟨gR, 9, none⟩ (.int .i64 u.y2)) = w12 at R2 S12 O12 ⊢
         have R3 : Row w12 gR 50 (((v :: u :: rs).flatMap pSymbolCells) ++ rest) := by
          simp only [List.flatMap_cons, pSymbolCells, List.cons_append, List.nil_append]
          exact R2
         have RL : (((v :: u :: rs).flatMap pSymbolCells) ++ rest).length = c6 * pSymbol.size := by
          simp only [List.flatMap_cons, pSymbolCells, List.cons_append, List.nil_append, List.length_cons]
          exact hln
         have RP := slice_of_room (T := pSymbol) R3 (repL_pSymbol (v :: u :: rs) (fun s hs => OKS.out s (by simp only [List.mem_cons] at hs ⊢; exact hs.elim (fun h => .inr (.inl h)) (fun h => h.elim .inl (fun h => .inr (.inr h)))))) (n := (u :: v :: rs).length) (by simp) hlR hcR RL
         have FR9 := Lib.hid (hG' ▸ FR.out)
         clear R2 R3 RL
         go_wp2_with fail
         go_ret
         exact ⟨v :: u :: rs, _, [gR], rfl, RP, by simpa using FR9.out, by simp at hl8s ⊢; omega, fun s hs => HSM.out s (by simp only [List.mem_cons] at hs ⊢; exact hs.elim (fun h => .inr (.inl h)) (fun h => h.elim .inl (fun h => .inr (.inr h)))), S12.more (by omega), O12⟩
     · first
       | (exfalso; omega)
       | (have z1 : ¬ (1 : Int) < (ys.length : Int) := by omega
          go_wp2_with fail
          go_ret
          exact ⟨ys, _, G, rfl, REP.out, FR.out, by omega, HSM.out, SZ.more (by omega), OZ⟩)
 · have H2 := Lib.hid (spec_l20Bent_c w1 S1 (by omega) (by omega))
   go_wp2_with fail
   refine H2.out.mono ?_
   rintro e w2 ⟨xs, v, G, rfl, rep, fr, l, sm, S2, O2⟩
   have HR := Lib.hid rep
   have HF := Lib.hid fr
   have HM := Lib.hid sm
   clear rep fr sm S1
   go_wp2_with fail
   go_ret
   exact ⟨xs, v, G, rfl, HR.out, ⟨HF.out.1, fun x hx => by have := HF.out.2 x hx; omega⟩, l, HM.out, S2.more (by omega), O1.trans O2⟩
end Go.Proofs.Ytmopioaojdlnkaa
