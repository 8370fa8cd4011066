/- The law FnPages walked. Conditions: none. -/
import Derived.Test.YtmopioaojdlnkaaDoorTkp
import Derived.Test.YtmopioaojdlnkaaDoorSrc2p
import Derived.Test.YtmopioaojdlnkaaDoorRpCp
import Derived.Test.YtmopioaojdlnkaaDoorPgText2p
import Derived.Test.YtmopioaojdlnkaaDoorPgUndo1p
import Derived.Test.YtmopioaojdlnkaaDoorPgUndo2p
import Derived.Test.YtmopioaojdlnkaaDoorPgDo4p
import Derived.Laws.StructEq
namespace Go.Proofs.YtmopioaojdlnkaaDoor
open Go Go.RowKit
theorem PageIs.lens {el es : TypeId} {o : Bool} {w : World} {p : PPage} {A1 A2 A3 : Option Addr} {n1 k1 n2 k2 n3 k3 : Nat} {F : List Nat} (h : PageIs el es o w p (.agg #[.slice A1 n1 k1, .slice A2 n2 k2, .slice A3 n3 k3]) F) : n1 = p.lines.length ∧ n2 = p.done.length ∧ n3 = p.undone.length := by
 obtain ⟨B1, j1, B2, j2, B3, j3, e⟩ := h.shape
 simp only [Value.agg.injEq, Array.mk.injEq, List.cons.injEq, Value.slice.injEq] at e
 exact ⟨e.1.2.1, e.2.1.2.1, e.2.2.1.2.1⟩
theorem page_story {p : PPage} {s : PStep} (dr : DrP p) (hs : StepShort s) (hc : canB p.lines s = true) :
 ∃ d1 d2, doStepR p s = (doP p s, 0) ∧ undoR (doP p s) = (⟨p.lines, d1, [s]⟩, 0) ∧ redoR ⟨p.lines, d1, [s]⟩ = (⟨stepL p.lines s, d2, []⟩, 0) ∧ DrP (doP p s) ∧ DrP ⟨p.lines, d1, [s]⟩ ∧ DrP ⟨stepL p.lines s, d2, []⟩ ∧
  pageText ⟨p.lines, d1, [s]⟩ = pageText p ∧ pageText ⟨stepL p.lines s, d2, []⟩ = pageText (doP p s) := by
 obtain ⟨h1, h2, h3, d, h4, h5⟩ := do_undo_redo dr.v hc
 have dx := dr.done hc hs
 have dy := dx.undo (by rw [h2])
 rw [h2] at dy
 have dz := dy.redo (by rw [h4])
 rw [h4] at dz
 exact ⟨_, d, by simp [doStepR, dr.v, hc], h2, h4, dx, dy, dz, pageText_lines h3 dr.v rfl, pageText_lines h5 h1 rfl⟩
theorem page_read {p : PPage} (dr : DrP p) : DrP ⟨p.lines, [], []⟩ ∧ readOkP (pageText p) = true ∧ readP (pageText p) = ⟨p.lines, [], []⟩ ∧ pageText ⟨p.lines, [], []⟩ = pageText p ∧ (pageText p).size ≤ 1048576 := by
 obtain ⟨a, b, c⟩ := read_text dr.v
 obtain ⟨hok, -⟩ := validB_parts dr.v
 refine ⟨⟨?_, fun s hs => (by cases hs), fun s hs => (by cases hs)⟩, a, b, c, ?_⟩
 · rw [valid_read]; exact (linesOk_iff _).2 hok
 · have hl := textL_len hok (Nat.le_refl p.lines.length)
   rw [List.take_length] at hl
   have := hok.few
   rw [pageText, if_pos dr.v]
   show (textL p.lines).toArray.size ≤ _
   rw [List.size_toArray]; omega
set_option maxRecDepth 100000 in
set_option maxHeartbeats 8000000 in
theorem law_FnPages {e e2 : TypeId} {code more : List UInt8} {v v2 : Value} {F F2 : List Nat} (w : World) (hE : MaxE w) (h : (byte.slice e).rep false w code [v] F) (h2 : (byte.slice e2).rep false w more [v2] F2) :
 Calls Tryd.prog 3 #[v, v2] w fun e' w' => e' = .returned (.bool true) ∧ Below w.heap.size w w' := by
 have hv := h
 have hv2 := h2
 obtain ⟨A, c, rfl⟩ := slice_len h
 obtain ⟨A', c', rfl⟩ := slice_len h2
 have cb := a2Long_c (w := w) h h2
 by_cases hbig : (decide (3000 < code.length) || decide (3000 < more.length)) = true
 · rw [hbig] at cb
   have CB := Lib.hid cb
   clear cb hbig
   go_enter Tryd.func3, Tryd.ntmps3
   go_wp2_with fail
   refine CB.out.mono ?_
   rintro e w1 ⟨rfl, rfl⟩
   go_wp2_with fail
   go_ret
   exact ⟨rfl, Below.refl _ _⟩
 · rw [Bool.not_eq_true] at hbig
   rw [hbig] at cb
   have CB := Lib.hid cb
   simp only [Bool.or_eq_false_iff, decide_eq_false_iff_not] at hbig
   obtain ⟨hb1, hb2⟩ := hbig
   have CA := Lib.hid (spec_A2Page_c w h (by omega))
   have CS := Lib.hid (fun w' (b : Below w.heap.size w w') => h2.below b)
   clear cb h hv h2 hv2
   go_enter Tryd.func3, Tryd.ntmps3
   go_wp2_with fail
   refine CB.out.mono ?_
   rintro e w1 ⟨rfl, rfl⟩
   go_wp2_with fail
   refine CA.out.mono ?_
   rintro e w1 ⟨p, u, G, rfl, dr, pg, b1⟩
   obtain ⟨A1, n1, k1, A2, n2, k2, A3, n3, k3, rfl⟩ := pg.form
   have BB := Lib.hid b1
   have PG := Lib.hid pg
   have R5 := Row.new w1 27 #[.slice A1 n1 k1, .slice A2 n2 k2, .slice A3 n3 k3]
   replace PG := Lib.hid (PG.out.below ((Below.refl _ _).alloc (Nat.le_refl _) (.cells #[.slice A1 n1 k1, .slice A2 n2 k2, .slice A3 n3 k3] 27)))
   replace BB := Lib.hid (BB.out.alloc BB.out.size (.cells #[.slice A1 n1 k1, .slice A2 n2 k2, .slice A3 n3 k3] 27))
   have DR := Lib.hid dr
   clear pg b1 CA CB dr
   go_upto_region 4 with fail
   generalize w1.alloc (.cells #[.slice A1 n1 k1, .slice A2 n2 k2, .slice A3 n3 k3] 27) = w2 at R5 PG BB ⊢
   generalize w1.heap.size = g5 at R5 ⊢
   have r5_0 := R5.c0
   have r5_1 := R5.c1
   have r5_2 := R5.c2
   have C4 := Lib.hid (spec_A2Step_c w2 (CS.out w2 BB.out) (by omega) DR.out PG.out)
   go_wp2_with fail
   refine C4.out.mono ?_
   rintro e w3 ⟨⟨s, hs, rfl⟩, b2⟩
   clear r5_0 r5_1 r5_2
   replace R5 := R5.later b2
   replace PG := Lib.hid (PG.out.below b2)
   replace BB := Lib.hid (BB.out.trans (b2.mono BB.out.size))
   have R6 := Row.new w3 30 #[.int .i64 s.kind, .int .i64 s.line, .int .i64 s.pos, .string s.word, .string s.old]
   replace R5 := R5.alloc (.cells #[.int .i64 s.kind, .int .i64 s.line, .int .i64 s.pos, .string s.word, .string s.old] 30)
   replace PG := Lib.hid (PG.out.below ((Below.refl _ _).alloc (Nat.le_refl _) (.cells #[.int .i64 s.kind, .int .i64 s.line, .int .i64 s.pos, .string s.word, .string s.old] 30)))
   replace BB := Lib.hid (BB.out.alloc BB.out.size (.cells #[.int .i64 s.kind, .int .i64 s.line, .int .i64 s.pos, .string s.word, .string s.old] 30))
   have HS := Lib.hid hs
   clear b2 C4 CS hs
   go_upto_region 5 with fail
   generalize w3.alloc (.cells #[.int .i64 s.kind, .int .i64 s.line, .int .i64 s.pos, .string s.word, .string s.old] 30) = w4 at R5 R6 PG BB ⊢
   generalize w3.heap.size = g6 at R6 ⊢
   have r5_0 := R5.c0
   have r5_1 := R5.c1
   have r5_2 := R5.c2
   have s_0 := R6.c0
   have s_1 := R6.c1
   have s_2 := R6.c2
   have s_3 := R6.c3
   have s_4 := R6.c4
   have C5 := impl_DoStep_c s w4 PG.out DR.out.law HS.out.1 (by have := HS.out.2.1; omega)
   cases hcb : canB p.lines s
   · have e5 : doStepR p s = (nilPage, 6) := by simp [doStepR, DR.out.v, hcb]
     rw [e5] at C5
     have D5 := Lib.hid C5
     clear C5 e5 hcb
     go_wp2_with fail
     refine D5.out.mono ?_
     rintro e w5 ⟨vx, FX, rfl, pgx, -, b2⟩
     obtain ⟨X1, xn1, xk1, X2, xn2, xk2, X3, xn3, xk3, rfl⟩ := pgx.form
     replace BB := Lib.hid (BB.out.trans (b2.mono BB.out.size))
     clear pgx b2 D5 r5_0 r5_1 r5_2 s_0 s_1 s_2 s_3 s_4
     go_wp2_with fail
     go_ret
     exact ⟨by simp, BB.out.alloc BB.out.size _⟩
   · obtain ⟨d1, d2, e5, e8, e9, dx, dy, dz, ty, tz⟩ := page_story DR.out HS.out hcb
     obtain ⟨dq, rok, rp, tq, tsz⟩ := page_read DR.out
     rw [e5] at C5
     have D5 := Lib.hid C5
     have He8 := Lib.hid e8
     have He9 := Lib.hid e9
     have Hdx := Lib.hid dx
     have Hdy := Lib.hid dy
     have Hdz := Lib.hid dz
     have Hty := Lib.hid ty
     have Htz := Lib.hid tz
     have Hdq := Lib.hid dq
     have Hrok := Lib.hid rok
     have Hrp := Lib.hid rp
     have Htq := Lib.hid tq
     have Htsz := Lib.hid tsz
     clear C5 e5 hcb e8 e9 dx dy dz ty tz dq rok rp tq tsz
     go_wp2_with fail
     refine D5.out.mono ?_
     rintro e w5 ⟨vx, Fx, rfl, pgx, -, b2⟩
     obtain ⟨X1, xn1, xk1, X2, xn2, xk2, X3, xn3, xk3, rfl⟩ := pgx.form
     clear r5_0 r5_1 r5_2
     replace R5 := R5.later b2
     replace R6 := R6.later b2
     replace PG := Lib.hid (PG.out.below b2)
     replace BB := Lib.hid (BB.out.trans (b2.mono BB.out.size))
     have PX := Lib.hid pgx
     have R7 := Row.new w5 27 #[.slice X1 xn1 xk1, .slice X2 xn2 xk2, .slice X3 xn3 xk3]
     replace R5 := R5.alloc (.cells #[.slice X1 xn1 xk1, .slice X2 xn2 xk2, .slice X3 xn3 xk3] 27)
     replace R6 := R6.alloc (.cells #[.slice X1 xn1 xk1, .slice X2 xn2 xk2, .slice X3 xn3 xk3] 27)
     replace PG := Lib.hid (PG.out.below ((Below.refl _ _).alloc (Nat.le_refl _) (.cells #[.slice X1 xn1 xk1, .slice X2 xn2 xk2, .slice X3 xn3 xk3] 27)))
     replace PX := Lib.hid (PX.out.below ((Below.refl _ _).alloc (Nat.le_refl _) (.cells #[.slice X1 xn1 xk1, .slice X2 xn2 xk2, .slice X3 xn3 xk3] 27)))
     replace BB := Lib.hid (BB.out.alloc BB.out.size (.cells #[.slice X1 xn1 xk1, .slice X2 xn2 xk2, .slice X3 xn3 xk3] 27))
     clear b2 pgx D5 s_0 s_1 s_2 s_3 s_4
     go_upto_region 8 with fail
     generalize w5.alloc (.cells #[.slice X1 xn1 xk1, .slice X2 xn2 xk2, .slice X3 xn3 xk3] 27) = w6 at R5 R6 R7 PG PX BB ⊢
     generalize w5.heap.size = g7 at R7 ⊢
     clear R6
     have r5_0 := R5.c0
     have r5_1 := R5.c1
     have r5_2 := R5.c2
     have r7_0 := R7.c0
     have r7_1 := R7.c1
     have r7_2 := R7.c2
     have C8 := impl_UndoStep_c w6 PX.out Hdx.out.law
     rw [He8.out] at C8
     have D8 := Lib.hid C8
     clear C8
     go_wp2_with fail
     refine D8.out.mono ?_
     rintro e w7 ⟨vy, Fy, rfl, pgy, -, b2⟩
     obtain ⟨Y1, yn1, yk1, Y2, yn2, yk2, Y3, yn3, yk3, rfl⟩ := pgy.form
     clear r5_0 r5_1 r5_2 r7_0 r7_1 r7_2
     replace R5 := R5.later b2
     replace R7 := R7.later b2
     replace PG := Lib.hid (PG.out.below b2)
     replace PX := Lib.hid (PX.out.below b2)
     replace BB := Lib.hid (BB.out.trans (b2.mono BB.out.size))
     have PY := Lib.hid pgy
     have R9 := Row.new w7 27 #[.slice Y1 yn1 yk1, .slice Y2 yn2 yk2, .slice Y3 yn3 yk3]
     replace R5 := R5.alloc (.cells #[.slice Y1 yn1 yk1, .slice Y2 yn2 yk2, .slice Y3 yn3 yk3] 27)
     replace R7 := R7.alloc (.cells #[.slice Y1 yn1 yk1, .slice Y2 yn2 yk2, .slice Y3 yn3 yk3] 27)
     replace PG := Lib.hid (PG.out.below ((Below.refl _ _).alloc (Nat.le_refl _) (.cells #[.slice Y1 yn1 yk1, .slice Y2 yn2 yk2, .slice Y3 yn3 yk3] 27)))
     replace PX := Lib.hid (PX.out.below ((Below.refl _ _).alloc (Nat.le_refl _) (.cells #[.slice Y1 yn1 yk1, .slice Y2 yn2 yk2, .slice Y3 yn3 yk3] 27)))
     replace PY := Lib.hid (PY.out.below ((Below.refl _ _).alloc (Nat.le_refl _) (.cells #[.slice Y1 yn1 yk1, .slice Y2 yn2 yk2, .slice Y3 yn3 yk3] 27)))
     replace BB := Lib.hid (BB.out.alloc BB.out.size (.cells #[.slice Y1 yn1 yk1, .slice Y2 yn2 yk2, .slice Y3 yn3 yk3] 27))
     clear b2 pgy D8
     go_upto_region 9 with fail
     generalize w7.alloc (.cells #[.slice Y1 yn1 yk1, .slice Y2 yn2 yk2, .slice Y3 yn3 yk3] 27) = w8 at R5 R7 R9 PG PX PY BB ⊢
     generalize w7.heap.size = g9 at R9 ⊢
     have r5_0 := R5.c0
     have r5_1 := R5.c1
     have r5_2 := R5.c2
     have r7_0 := R7.c0
     have r7_1 := R7.c1
     have r7_2 := R7.c2
     have r9_0 := R9.c0
     have r9_1 := R9.c1
     have r9_2 := R9.c2
     have C9 := impl_RedoStep_c w8 PY.out Hdy.out.law
     rw [He9.out] at C9
     have D9 := Lib.hid C9
     clear C9
     go_wp2_with fail
     refine D9.out.mono ?_
     rintro e w9 ⟨vz, Fz, rfl, pgz, -, b2⟩
     obtain ⟨Z1, zn1, zk1, Z2, zn2, zk2, Z3, zn3, zk3, rfl⟩ := pgz.form
     clear r5_0 r5_1 r5_2 r7_0 r7_1 r7_2 r9_0 r9_1 r9_2
     replace R5 := R5.later b2
     replace R7 := R7.later b2
     replace R9 := R9.later b2
     replace PG := Lib.hid (PG.out.below b2)
     replace PX := Lib.hid (PX.out.below b2)
     replace PY := Lib.hid (PY.out.below b2)
     replace BB := Lib.hid (BB.out.trans (b2.mono BB.out.size))
     have PZ := Lib.hid pgz
     have R11 := Row.new w9 27 #[.slice Z1 zn1 zk1, .slice Z2 zn2 zk2, .slice Z3 zn3 zk3]
     replace R5 := R5.alloc (.cells #[.slice Z1 zn1 zk1, .slice Z2 zn2 zk2, .slice Z3 zn3 zk3] 27)
     replace R7 := R7.alloc (.cells #[.slice Z1 zn1 zk1, .slice Z2 zn2 zk2, .slice Z3 zn3 zk3] 27)
     replace R9 := R9.alloc (.cells #[.slice Z1 zn1 zk1, .slice Z2 zn2 zk2, .slice Z3 zn3 zk3] 27)
     replace PG := Lib.hid (PG.out.below ((Below.refl _ _).alloc (Nat.le_refl _) (.cells #[.slice Z1 zn1 zk1, .slice Z2 zn2 zk2, .slice Z3 zn3 zk3] 27)))
     replace PX := Lib.hid (PX.out.below ((Below.refl _ _).alloc (Nat.le_refl _) (.cells #[.slice Z1 zn1 zk1, .slice Z2 zn2 zk2, .slice Z3 zn3 zk3] 27)))
     replace PY := Lib.hid (PY.out.below ((Below.refl _ _).alloc (Nat.le_refl _) (.cells #[.slice Z1 zn1 zk1, .slice Z2 zn2 zk2, .slice Z3 zn3 zk3] 27)))
     replace PZ := Lib.hid (PZ.out.below ((Below.refl _ _).alloc (Nat.le_refl _) (.cells #[.slice Z1 zn1 zk1, .slice Z2 zn2 zk2, .slice Z3 zn3 zk3] 27)))
     replace BB := Lib.hid (BB.out.alloc BB.out.size (.cells #[.slice Z1 zn1 zk1, .slice Z2 zn2 zk2, .slice Z3 zn3 zk3] 27))
     clear b2 pgz D9
     go_upto_region 10 with fail
     generalize w9.alloc (.cells #[.slice Z1 zn1 zk1, .slice Z2 zn2 zk2, .slice Z3 zn3 zk3] 27) = w10 at R5 R7 R9 R11 PG PX PY PZ BB ⊢
     generalize w9.heap.size = g11 at R11 ⊢
     have hty := Hty.out
     have htz := Htz.out
     generalize hT : pageText p = T at hty
     generalize hU : pageText (doP p s) = U at htz
     have zT : (T != T) = false := by rw [bne, beq_toListBytes]; simp
     have zU : (U != U) = false := by rw [bne, beq_toListBytes]; simp
     have zT2 : (T.toList == T.toList) = true := by simp
     have zU2 : (U.toList == U.toList) = true := by simp
     have lA := PG.out.lens.1
     have lY := PY.out.lens.1
     have lY3 := PY.out.lens.2.2
     have lX3 := PX.out.lens.2.2
     have zl : ((yn1 : Int) != (n1 : Int)) = false := by rw [lY, lA]; simp
     have zx : ((xn3 : Int) == 0) = true := by rw [lX3]; rfl
     have zy : ((yn3 : Int) == 1) = true := by rw [lY3]; rfl
     clear lA lY lY3 lX3
     replace R5 := R5.drew
     replace R7 := R7.drew
     replace R9 := R9.drew
     replace R11 := R11.drew
     replace PG := Lib.hid (show PageIs _ _ _ w10.drew _ _ _ from PG.out.below (Below.refl _ _).drew)
     replace PX := Lib.hid (show PageIs _ _ _ w10.drew _ _ _ from PX.out.below (Below.refl _ _).drew)
     replace PY := Lib.hid (show PageIs _ _ _ w10.drew _ _ _ from PY.out.below (Below.refl _ _).drew)
     replace PZ := Lib.hid (show PageIs _ _ _ w10.drew _ _ _ from PZ.out.below (Below.refl _ _).drew)
     replace BB := Lib.hid BB.out.drew
     have hS : (fun w' : World => w'.cell? ⟨g5, 0, none⟩ = some (.slice A1 n1 k1) ∧ w'.cell? ⟨g5, 1, none⟩ = some (.slice A2 n2 k2) ∧ w'.cell? ⟨g5, 2, none⟩ = some (.slice A3 n3 k3) ∧ w'.cell? ⟨g7, 0, none⟩ = some (.slice X1 xn1 xk1) ∧ w'.cell? ⟨g7, 1, none⟩ = some (.slice X2 xn2 xk2) ∧ w'.cell? ⟨g7, 2, none⟩ = some (.slice X3 xn3 xk3) ∧ w'.cell? ⟨g9, 0, none⟩ = some (.slice Y1 yn1 yk1) ∧ w'.cell? ⟨g9, 1, none⟩ = some (.slice Y2 yn2 yk2) ∧ w'.cell? ⟨g9, 2, none⟩ = some (.slice Y3 yn3 yk3) ∧ w'.cell? ⟨g11, 0, none⟩ = some (.slice Z1 zn1 zk1) ∧ w'.cell? ⟨g11, 1, none⟩ = some (.slice Z2 zn2 zk2) ∧ w'.cell? ⟨g11, 2, none⟩ = some (.slice Z3 zn3 zk3)) w10.drew := ⟨R5.c0, R5.c1, R5.c2, R7.c0, R7.c1, R7.c2, R9.c0, R9.c1, R9.c2, R11.c0, R11.c1, R11.c2⟩
     dsimp only at hS
     refine wp_region_held_drew (S := (fun w' : World => w'.cell? ⟨g5, 0, none⟩ = some (.slice A1 n1 k1) ∧ w'.cell? ⟨g5, 1, none⟩ = some (.slice A2 n2 k2) ∧ w'.cell? ⟨g5, 2, none⟩ = some (.slice A3 n3 k3) ∧ w'.cell? ⟨g7, 0, none⟩ = some (.slice X1 xn1 xk1) ∧ w'.cell? ⟨g7, 1, none⟩ = some (.slice X2 xn2 xk2) ∧ w'.cell? ⟨g7, 2, none⟩ = some (.slice X3 xn3 xk3) ∧ w'.cell? ⟨g9, 0, none⟩ = some (.slice Y1 yn1 yk1) ∧ w'.cell? ⟨g9, 1, none⟩ = some (.slice Y2 yn2 yk2) ∧ w'.cell? ⟨g9, 2, none⟩ = some (.slice Y3 yn3 yk3) ∧ w'.cell? ⟨g11, 0, none⟩ = some (.slice Z1 zn1 zk1) ∧ w'.cell? ⟨g11, 1, none⟩ = some (.slice Z2 zn2 zk2) ∧ w'.cell? ⟨g11, 2, none⟩ = some (.slice Z3 zn3 zk3))) (by kernel_rfl) hS (fun _ => ?_)
     generalize w10.drew = w10d at hS R5 R7 R9 R11 PG PX PY PZ BB ⊢
     refine tJ 0 hS ?_
     refine tJ 1 hS ?_
     refine tJ 2 hS ?_
     refine tJ 3 hS ?_
     refine tJ 4 hS ?_
     refine tJ 5 hS ?_
     refine tJ 6 hS ?_
     refine tJ 7 hS ?_
     have CC := spec_ValidPage_c w10d PX.out Hdx.out.law.s Hdx.out.law.b
     rw [Hdx.out.v] at CC
     refine rJ 8 fun K hK => ?_
     refine step_call 10 #[.tmp 50] _ rfl rfl #[.agg #[.slice X1 xn1 xk1, .slice X2 xn2 xk2, .slice X3 xn3 xk3]] Tryd.call10 (by go_simp) CC ?_
     rintro e w11 ⟨rfl, b2⟩
     refine ⟨_, rfl, ?_⟩
     replace R5 := R5.later b2
     replace R7 := R7.later b2
     replace R9 := R9.later b2
     replace R11 := R11.later b2
     replace PG := Lib.hid (PG.out.below b2)
     replace PX := Lib.hid (PX.out.below b2)
     replace PY := Lib.hid (PY.out.below b2)
     replace PZ := Lib.hid (PZ.out.below b2)
     replace BB := Lib.hid (BB.out.trans (b2.mono BB.out.size))
     replace hS := (⟨R5.c0, R5.c1, R5.c2, R7.c0, R7.c1, R7.c2, R9.c0, R9.c1, R9.c2, R11.c0, R11.c1, R11.c2⟩ : w11.cell? ⟨g5, 0, none⟩ = some (.slice A1 n1 k1) ∧ w11.cell? ⟨g5, 1, none⟩ = some (.slice A2 n2 k2) ∧ w11.cell? ⟨g5, 2, none⟩ = some (.slice A3 n3 k3) ∧ w11.cell? ⟨g7, 0, none⟩ = some (.slice X1 xn1 xk1) ∧ w11.cell? ⟨g7, 1, none⟩ = some (.slice X2 xn2 xk2) ∧ w11.cell? ⟨g7, 2, none⟩ = some (.slice X3 xn3 xk3) ∧ w11.cell? ⟨g9, 0, none⟩ = some (.slice Y1 yn1 yk1) ∧ w11.cell? ⟨g9, 1, none⟩ = some (.slice Y2 yn2 yk2) ∧ w11.cell? ⟨g9, 2, none⟩ = some (.slice Y3 yn3 yk3) ∧ w11.cell? ⟨g11, 0, none⟩ = some (.slice Z1 zn1 zk1) ∧ w11.cell? ⟨g11, 1, none⟩ = some (.slice Z2 zn2 zk2) ∧ w11.cell? ⟨g11, 2, none⟩ = some (.slice Z3 zn3 zk3))
     refine bJ hK hS ?_
     clear hK K
     simp only [Act.put, pA, pB, pC]
     clear CC b2
     refine tJ 9 hS ?_
     refine tJ 10 hS ?_
     refine tJ 11 hS ?_
     refine tJ 12 hS ?_
     have CC := spec_ValidPage_c w11 PY.out Hdy.out.law.s Hdy.out.law.b
     rw [Hdy.out.v] at CC
     refine rJ 13 fun K hK => ?_
     refine step_call 10 #[.tmp 55] _ rfl rfl #[.agg #[.slice Y1 yn1 yk1, .slice Y2 yn2 yk2, .slice Y3 yn3 yk3]] Tryd.call10 (by go_simp) CC ?_
     rintro e w12 ⟨rfl, b2⟩
     refine ⟨_, rfl, ?_⟩
     replace R5 := R5.later b2
     replace R7 := R7.later b2
     replace R9 := R9.later b2
     replace R11 := R11.later b2
     replace PG := Lib.hid (PG.out.below b2)
     replace PX := Lib.hid (PX.out.below b2)
     replace PY := Lib.hid (PY.out.below b2)
     replace PZ := Lib.hid (PZ.out.below b2)
     replace BB := Lib.hid (BB.out.trans (b2.mono BB.out.size))
     replace hS := (⟨R5.c0, R5.c1, R5.c2, R7.c0, R7.c1, R7.c2, R9.c0, R9.c1, R9.c2, R11.c0, R11.c1, R11.c2⟩ : w12.cell? ⟨g5, 0, none⟩ = some (.slice A1 n1 k1) ∧ w12.cell? ⟨g5, 1, none⟩ = some (.slice A2 n2 k2) ∧ w12.cell? ⟨g5, 2, none⟩ = some (.slice A3 n3 k3) ∧ w12.cell? ⟨g7, 0, none⟩ = some (.slice X1 xn1 xk1) ∧ w12.cell? ⟨g7, 1, none⟩ = some (.slice X2 xn2 xk2) ∧ w12.cell? ⟨g7, 2, none⟩ = some (.slice X3 xn3 xk3) ∧ w12.cell? ⟨g9, 0, none⟩ = some (.slice Y1 yn1 yk1) ∧ w12.cell? ⟨g9, 1, none⟩ = some (.slice Y2 yn2 yk2) ∧ w12.cell? ⟨g9, 2, none⟩ = some (.slice Y3 yn3 yk3) ∧ w12.cell? ⟨g11, 0, none⟩ = some (.slice Z1 zn1 zk1) ∧ w12.cell? ⟨g11, 1, none⟩ = some (.slice Z2 zn2 zk2) ∧ w12.cell? ⟨g11, 2, none⟩ = some (.slice Z3 zn3 zk3))
     refine bJ hK hS ?_
     clear hK K
     simp only [Act.put, pA, pB, pC]
     clear CC b2
     refine tJ 14 hS ?_
     refine tJ 15 hS ?_
     refine tJ 16 hS ?_
     refine tJ 17 hS ?_
     refine tJ 19 hS ?_
     have CC := spec_PageText_c w12 PY.out Hdy.out.law
     rw [hty] at CC
     refine rJ 18 fun K hK => ?_
     refine step_call 11 #[.tmp 60] _ rfl rfl #[.agg #[.slice Y1 yn1 yk1, .slice Y2 yn2 yk2, .slice Y3 yn3 yk3]] Tryd.call11 (by go_simp) CC ?_
     rintro e w13 ⟨rfl, b2⟩
     refine ⟨_, rfl, ?_⟩
     replace R5 := R5.later b2
     replace R7 := R7.later b2
     replace R9 := R9.later b2
     replace R11 := R11.later b2
     replace PG := Lib.hid (PG.out.below b2)
     replace PX := Lib.hid (PX.out.below b2)
     replace PY := Lib.hid (PY.out.below b2)
     replace PZ := Lib.hid (PZ.out.below b2)
     replace BB := Lib.hid (BB.out.trans (b2.mono BB.out.size))
     replace hS := (⟨R5.c0, R5.c1, R5.c2, R7.c0, R7.c1, R7.c2, R9.c0, R9.c1, R9.c2, R11.c0, R11.c1, R11.c2⟩ : w13.cell? ⟨g5, 0, none⟩ = some (.slice A1 n1 k1) ∧ w13.cell? ⟨g5, 1, none⟩ = some (.slice A2 n2 k2) ∧ w13.cell? ⟨g5, 2, none⟩ = some (.slice A3 n3 k3) ∧ w13.cell? ⟨g7, 0, none⟩ = some (.slice X1 xn1 xk1) ∧ w13.cell? ⟨g7, 1, none⟩ = some (.slice X2 xn2 xk2) ∧ w13.cell? ⟨g7, 2, none⟩ = some (.slice X3 xn3 xk3) ∧ w13.cell? ⟨g9, 0, none⟩ = some (.slice Y1 yn1 yk1) ∧ w13.cell? ⟨g9, 1, none⟩ = some (.slice Y2 yn2 yk2) ∧ w13.cell? ⟨g9, 2, none⟩ = some (.slice Y3 yn3 yk3) ∧ w13.cell? ⟨g11, 0, none⟩ = some (.slice Z1 zn1 zk1) ∧ w13.cell? ⟨g11, 1, none⟩ = some (.slice Z2 zn2 zk2) ∧ w13.cell? ⟨g11, 2, none⟩ = some (.slice Z3 zn3 zk3))
     refine bJ hK hS ?_
     clear hK K
     simp only [Act.put, pA, pB, pC]
     clear CC b2
     have CC := spec_PageText_c w13 PG.out DR.out.law
     rw [hT] at CC
     refine rJ 20 fun K hK => ?_
     refine step_call 11 #[.tmp 62] _ rfl rfl #[.agg #[.slice A1 n1 k1, .slice A2 n2 k2, .slice A3 n3 k3]] Tryd.call11 (by go_simp) CC ?_
     rintro e w14 ⟨rfl, b2⟩
     refine ⟨_, rfl, ?_⟩
     replace R5 := R5.later b2
     replace R7 := R7.later b2
     replace R9 := R9.later b2
     replace R11 := R11.later b2
     replace PG := Lib.hid (PG.out.below b2)
     replace PX := Lib.hid (PX.out.below b2)
     replace PY := Lib.hid (PY.out.below b2)
     replace PZ := Lib.hid (PZ.out.below b2)
     replace BB := Lib.hid (BB.out.trans (b2.mono BB.out.size))
     replace hS := (⟨R5.c0, R5.c1, R5.c2, R7.c0, R7.c1, R7.c2, R9.c0, R9.c1, R9.c2, R11.c0, R11.c1, R11.c2⟩ : w14.cell? ⟨g5, 0, none⟩ = some (.slice A1 n1 k1) ∧ w14.cell? ⟨g5, 1, none⟩ = some (.slice A2 n2 k2) ∧ w14.cell? ⟨g5, 2, none⟩ = some (.slice A3 n3 k3) ∧ w14.cell? ⟨g7, 0, none⟩ = some (.slice X1 xn1 xk1) ∧ w14.cell? ⟨g7, 1, none⟩ = some (.slice X2 xn2 xk2) ∧ w14.cell? ⟨g7, 2, none⟩ = some (.slice X3 xn3 xk3) ∧ w14.cell? ⟨g9, 0, none⟩ = some (.slice Y1 yn1 yk1) ∧ w14.cell? ⟨g9, 1, none⟩ = some (.slice Y2 yn2 yk2) ∧ w14.cell? ⟨g9, 2, none⟩ = some (.slice Y3 yn3 yk3) ∧ w14.cell? ⟨g11, 0, none⟩ = some (.slice Z1 zn1 zk1) ∧ w14.cell? ⟨g11, 1, none⟩ = some (.slice Z2 zn2 zk2) ∧ w14.cell? ⟨g11, 2, none⟩ = some (.slice Z3 zn3 zk3))
     refine bJ hK hS ?_
     clear hK K
     simp only [Act.put, pA, pB, pC]
     clear CC b2
     refine tJ 21 hS ?_
     refine tJ 22 hS ?_
     refine tJ 23 hS ?_
     refine tJ 24 hS ?_
     refine tJ 26 hS ?_
     have CC := spec_PageText_c w14 PZ.out Hdz.out.law
     rw [htz] at CC
     refine rJ 25 fun K hK => ?_
     refine step_call 11 #[.tmp 67] _ rfl rfl #[.agg #[.slice Z1 zn1 zk1, .slice Z2 zn2 zk2, .slice Z3 zn3 zk3]] Tryd.call11 (by go_simp) CC ?_
     rintro e w15 ⟨rfl, b2⟩
     refine ⟨_, rfl, ?_⟩
     replace R5 := R5.later b2
     replace R7 := R7.later b2
     replace R9 := R9.later b2
     replace R11 := R11.later b2
     replace PG := Lib.hid (PG.out.below b2)
     replace PX := Lib.hid (PX.out.below b2)
     replace PY := Lib.hid (PY.out.below b2)
     replace PZ := Lib.hid (PZ.out.below b2)
     replace BB := Lib.hid (BB.out.trans (b2.mono BB.out.size))
     replace hS := (⟨R5.c0, R5.c1, R5.c2, R7.c0, R7.c1, R7.c2, R9.c0, R9.c1, R9.c2, R11.c0, R11.c1, R11.c2⟩ : w15.cell? ⟨g5, 0, none⟩ = some (.slice A1 n1 k1) ∧ w15.cell? ⟨g5, 1, none⟩ = some (.slice A2 n2 k2) ∧ w15.cell? ⟨g5, 2, none⟩ = some (.slice A3 n3 k3) ∧ w15.cell? ⟨g7, 0, none⟩ = some (.slice X1 xn1 xk1) ∧ w15.cell? ⟨g7, 1, none⟩ = some (.slice X2 xn2 xk2) ∧ w15.cell? ⟨g7, 2, none⟩ = some (.slice X3 xn3 xk3) ∧ w15.cell? ⟨g9, 0, none⟩ = some (.slice Y1 yn1 yk1) ∧ w15.cell? ⟨g9, 1, none⟩ = some (.slice Y2 yn2 yk2) ∧ w15.cell? ⟨g9, 2, none⟩ = some (.slice Y3 yn3 yk3) ∧ w15.cell? ⟨g11, 0, none⟩ = some (.slice Z1 zn1 zk1) ∧ w15.cell? ⟨g11, 1, none⟩ = some (.slice Z2 zn2 zk2) ∧ w15.cell? ⟨g11, 2, none⟩ = some (.slice Z3 zn3 zk3))
     refine bJ hK hS ?_
     clear hK K
     simp only [Act.put, pA, pB, pC]
     clear CC b2
     have CC := spec_PageText_c w15 PX.out Hdx.out.law
     rw [hU] at CC
     refine rJ 27 fun K hK => ?_
     refine step_call 11 #[.tmp 69] _ rfl rfl #[.agg #[.slice X1 xn1 xk1, .slice X2 xn2 xk2, .slice X3 xn3 xk3]] Tryd.call11 (by go_simp) CC ?_
     rintro e w16 ⟨rfl, b2⟩
     refine ⟨_, rfl, ?_⟩
     replace R5 := R5.later b2
     replace R7 := R7.later b2
     replace R9 := R9.later b2
     replace R11 := R11.later b2
     replace PG := Lib.hid (PG.out.below b2)
     replace PX := Lib.hid (PX.out.below b2)
     replace PY := Lib.hid (PY.out.below b2)
     replace PZ := Lib.hid (PZ.out.below b2)
     replace BB := Lib.hid (BB.out.trans (b2.mono BB.out.size))
     replace hS := (⟨R5.c0, R5.c1, R5.c2, R7.c0, R7.c1, R7.c2, R9.c0, R9.c1, R9.c2, R11.c0, R11.c1, R11.c2⟩ : w16.cell? ⟨g5, 0, none⟩ = some (.slice A1 n1 k1) ∧ w16.cell? ⟨g5, 1, none⟩ = some (.slice A2 n2 k2) ∧ w16.cell? ⟨g5, 2, none⟩ = some (.slice A3 n3 k3) ∧ w16.cell? ⟨g7, 0, none⟩ = some (.slice X1 xn1 xk1) ∧ w16.cell? ⟨g7, 1, none⟩ = some (.slice X2 xn2 xk2) ∧ w16.cell? ⟨g7, 2, none⟩ = some (.slice X3 xn3 xk3) ∧ w16.cell? ⟨g9, 0, none⟩ = some (.slice Y1 yn1 yk1) ∧ w16.cell? ⟨g9, 1, none⟩ = some (.slice Y2 yn2 yk2) ∧ w16.cell? ⟨g9, 2, none⟩ = some (.slice Y3 yn3 yk3) ∧ w16.cell? ⟨g11, 0, none⟩ = some (.slice Z1 zn1 zk1) ∧ w16.cell? ⟨g11, 1, none⟩ = some (.slice Z2 zn2 zk2) ∧ w16.cell? ⟨g11, 2, none⟩ = some (.slice Z3 zn3 zk3))
     refine bJ hK hS ?_
     clear hK K
     simp only [Act.put, pA, pB, pC]
     clear CC b2
     refine tJ 28 hS ?_
     refine tJ 29 hS ?_
     refine tJ 30 hS ?_
     refine tJ 31 hS ?_
     refine tJ 32 hS ?_
     refine tJ 33 hS ?_
     refine tJ 34 hS ?_
     refine tJ 35 hS ?_
     refine tJ 36 hS ?_
     refine tJ 37 hS ?_
     refine tJ 38 hS ?_
     refine wpAnyH_done (by kernel_rfl) ?_ _
     clear hS
     go_upto_region 12 with fail
     have r5_0 := R5.c0
     have r5_1 := R5.c1
     have r5_2 := R5.c2
     have r7_0 := R7.c0
     have r7_1 := R7.c1
     have r7_2 := R7.c2
     have r9_0 := R9.c0
     have r9_1 := R9.c1
     have r9_2 := R9.c2
     have r11_0 := R11.c0
     have r11_1 := R11.c1
     have r11_2 := R11.c2
     have C17 := impl_PageText_c w16 PG.out DR.out.law
     rw [hT] at C17
     have D17 := Lib.hid C17
     clear C17
     have hrp := Hrp.out
     have hrok := Hrok.out
     have htq := Htq.out
     have htsz := Htsz.out
     rw [hT] at hrp hrok htq htsz
     have HRP := Lib.hid hrp
     clear hrp
     go_wp2_with fail
     refine D17.out.mono ?_
     rintro e w17 ⟨rfl, b2⟩
     clear r5_0 r5_1 r5_2 r7_0 r7_1 r7_2 r9_0 r9_1 r9_2 r11_0 r11_1 r11_2
     replace R5 := R5.later b2
     replace R7 := R7.later b2
     replace R9 := R9.later b2
     replace R11 := R11.later b2
     replace PG := Lib.hid (PG.out.below b2)
     replace PX := Lib.hid (PX.out.below b2)
     replace PY := Lib.hid (PY.out.below b2)
     replace PZ := Lib.hid (PZ.out.below b2)
     replace BB := Lib.hid (BB.out.trans (b2.mono BB.out.size))
     clear b2 D17
     have r5_0 := R5.c0
     have r5_1 := R5.c1
     have r5_2 := R5.c2
     have r7_0 := R7.c0
     have r7_1 := R7.c1
     have r7_2 := R7.c2
     have r9_0 := R9.c0
     have r9_1 := R9.c1
     have r9_2 := R9.c2
     have r11_0 := R11.c0
     have r11_1 := R11.c1
     have r11_2 := R11.c2
     have C18 := impl_ReadPage_c T w17 htsz (hE.below BB.out)
     rw [HRP.out, hrok] at C18
     have D18 := Lib.hid C18
     clear C18 hrok htsz
     go_wp2_with fail
     refine D18.out.mono ?_
     rintro e w18 ⟨vq, Fq, rfl, pgq, -, b2⟩
     obtain ⟨Q1, qn1, qk1, Q2, qn2, qk2, Q3, qn3, qk3, rfl⟩ := pgq.form
     clear r5_0 r5_1 r5_2 r7_0 r7_1 r7_2 r9_0 r9_1 r9_2 r11_0 r11_1 r11_2
     replace R5 := R5.later b2
     replace R7 := R7.later b2
     replace R9 := R9.later b2
     replace R11 := R11.later b2
     replace PG := Lib.hid (PG.out.below b2)
     replace PX := Lib.hid (PX.out.below b2)
     replace PY := Lib.hid (PY.out.below b2)
     replace PZ := Lib.hid (PZ.out.below b2)
     replace BB := Lib.hid (BB.out.trans (b2.mono BB.out.size))
     have PQ := Lib.hid pgq
     have R13 := Row.new w18 27 #[.slice Q1 qn1 qk1, .slice Q2 qn2 qk2, .slice Q3 qn3 qk3]
     replace R5 := R5.alloc (.cells #[.slice Q1 qn1 qk1, .slice Q2 qn2 qk2, .slice Q3 qn3 qk3] 27)
     replace R7 := R7.alloc (.cells #[.slice Q1 qn1 qk1, .slice Q2 qn2 qk2, .slice Q3 qn3 qk3] 27)
     replace R9 := R9.alloc (.cells #[.slice Q1 qn1 qk1, .slice Q2 qn2 qk2, .slice Q3 qn3 qk3] 27)
     replace R11 := R11.alloc (.cells #[.slice Q1 qn1 qk1, .slice Q2 qn2 qk2, .slice Q3 qn3 qk3] 27)
     replace PG := Lib.hid (PG.out.below ((Below.refl _ _).alloc (Nat.le_refl _) (.cells #[.slice Q1 qn1 qk1, .slice Q2 qn2 qk2, .slice Q3 qn3 qk3] 27)))
     replace PX := Lib.hid (PX.out.below ((Below.refl _ _).alloc (Nat.le_refl _) (.cells #[.slice Q1 qn1 qk1, .slice Q2 qn2 qk2, .slice Q3 qn3 qk3] 27)))
     replace PY := Lib.hid (PY.out.below ((Below.refl _ _).alloc (Nat.le_refl _) (.cells #[.slice Q1 qn1 qk1, .slice Q2 qn2 qk2, .slice Q3 qn3 qk3] 27)))
     replace PZ := Lib.hid (PZ.out.below ((Below.refl _ _).alloc (Nat.le_refl _) (.cells #[.slice Q1 qn1 qk1, .slice Q2 qn2 qk2, .slice Q3 qn3 qk3] 27)))
     replace PQ := Lib.hid (PQ.out.below ((Below.refl _ _).alloc (Nat.le_refl _) (.cells #[.slice Q1 qn1 qk1, .slice Q2 qn2 qk2, .slice Q3 qn3 qk3] 27)))
     replace BB := Lib.hid (BB.out.alloc BB.out.size (.cells #[.slice Q1 qn1 qk1, .slice Q2 qn2 qk2, .slice Q3 qn3 qk3] 27))
     clear b2 pgq D18
     go_upto_region 13 with fail
     generalize w18.alloc (.cells #[.slice Q1 qn1 qk1, .slice Q2 qn2 qk2, .slice Q3 qn3 qk3] 27) = w19 at R5 R7 R9 R11 R13 PG PX PY PZ PQ BB ⊢
     generalize w18.heap.size = g13 at R13 ⊢
     clear R11
     replace R5 := R5.drew
     replace R7 := R7.drew
     replace R9 := R9.drew
     replace R13 := R13.drew
     replace PG := Lib.hid (show PageIs _ _ _ w19.drew _ _ _ from PG.out.below (Below.refl _ _).drew)
     replace PX := Lib.hid (show PageIs _ _ _ w19.drew _ _ _ from PX.out.below (Below.refl _ _).drew)
     replace PY := Lib.hid (show PageIs _ _ _ w19.drew _ _ _ from PY.out.below (Below.refl _ _).drew)
     replace PZ := Lib.hid (show PageIs _ _ _ w19.drew _ _ _ from PZ.out.below (Below.refl _ _).drew)
     replace PQ := Lib.hid (show PageIs _ _ _ w19.drew _ _ _ from PQ.out.below (Below.refl _ _).drew)
     replace BB := Lib.hid BB.out.drew
     have hS : (fun w' : World => w'.cell? ⟨g5, 0, none⟩ = some (.slice A1 n1 k1) ∧ w'.cell? ⟨g5, 1, none⟩ = some (.slice A2 n2 k2) ∧ w'.cell? ⟨g5, 2, none⟩ = some (.slice A3 n3 k3) ∧ w'.cell? ⟨g7, 0, none⟩ = some (.slice X1 xn1 xk1) ∧ w'.cell? ⟨g7, 1, none⟩ = some (.slice X2 xn2 xk2) ∧ w'.cell? ⟨g7, 2, none⟩ = some (.slice X3 xn3 xk3) ∧ w'.cell? ⟨g9, 0, none⟩ = some (.slice Y1 yn1 yk1) ∧ w'.cell? ⟨g9, 1, none⟩ = some (.slice Y2 yn2 yk2) ∧ w'.cell? ⟨g9, 2, none⟩ = some (.slice Y3 yn3 yk3) ∧ w'.cell? ⟨g13, 0, none⟩ = some (.slice Q1 qn1 qk1) ∧ w'.cell? ⟨g13, 1, none⟩ = some (.slice Q2 qn2 qk2) ∧ w'.cell? ⟨g13, 2, none⟩ = some (.slice Q3 qn3 qk3)) w19.drew := ⟨R5.c0, R5.c1, R5.c2, R7.c0, R7.c1, R7.c2, R9.c0, R9.c1, R9.c2, R13.c0, R13.c1, R13.c2⟩
     dsimp only at hS
     refine wp_region_held_drew (S := (fun w' : World => w'.cell? ⟨g5, 0, none⟩ = some (.slice A1 n1 k1) ∧ w'.cell? ⟨g5, 1, none⟩ = some (.slice A2 n2 k2) ∧ w'.cell? ⟨g5, 2, none⟩ = some (.slice A3 n3 k3) ∧ w'.cell? ⟨g7, 0, none⟩ = some (.slice X1 xn1 xk1) ∧ w'.cell? ⟨g7, 1, none⟩ = some (.slice X2 xn2 xk2) ∧ w'.cell? ⟨g7, 2, none⟩ = some (.slice X3 xn3 xk3) ∧ w'.cell? ⟨g9, 0, none⟩ = some (.slice Y1 yn1 yk1) ∧ w'.cell? ⟨g9, 1, none⟩ = some (.slice Y2 yn2 yk2) ∧ w'.cell? ⟨g9, 2, none⟩ = some (.slice Y3 yn3 yk3) ∧ w'.cell? ⟨g13, 0, none⟩ = some (.slice Q1 qn1 qk1) ∧ w'.cell? ⟨g13, 1, none⟩ = some (.slice Q2 qn2 qk2) ∧ w'.cell? ⟨g13, 2, none⟩ = some (.slice Q3 qn3 qk3))) (by kernel_rfl) hS (fun _ => ?_)
     generalize w19.drew = w19d at hS R5 R7 R9 R13 PG PX PY PZ PQ BB ⊢
     refine tJ 0 hS ?_
     refine tJ 1 hS ?_
     refine tJ 2 hS ?_
     refine tJ 4 hS ?_
     have CC := spec_PageText_c w19d PQ.out Hdq.out.law
     rw [htq] at CC
     refine rJ 3 fun K hK => ?_
     refine step_call 11 #[.tmp 90] _ rfl rfl #[.agg #[.slice Q1 qn1 qk1, .slice Q2 qn2 qk2, .slice Q3 qn3 qk3]] Tryd.call11 (by go_simp) CC ?_
     rintro e w20 ⟨rfl, b2⟩
     refine ⟨_, rfl, ?_⟩
     replace R5 := R5.later b2
     replace R7 := R7.later b2
     replace R9 := R9.later b2
     replace R13 := R13.later b2
     replace PG := Lib.hid (PG.out.below b2)
     replace PX := Lib.hid (PX.out.below b2)
     replace PY := Lib.hid (PY.out.below b2)
     replace PZ := Lib.hid (PZ.out.below b2)
     replace PQ := Lib.hid (PQ.out.below b2)
     replace BB := Lib.hid (BB.out.trans (b2.mono BB.out.size))
     replace hS := (⟨R5.c0, R5.c1, R5.c2, R7.c0, R7.c1, R7.c2, R9.c0, R9.c1, R9.c2, R13.c0, R13.c1, R13.c2⟩ : w20.cell? ⟨g5, 0, none⟩ = some (.slice A1 n1 k1) ∧ w20.cell? ⟨g5, 1, none⟩ = some (.slice A2 n2 k2) ∧ w20.cell? ⟨g5, 2, none⟩ = some (.slice A3 n3 k3) ∧ w20.cell? ⟨g7, 0, none⟩ = some (.slice X1 xn1 xk1) ∧ w20.cell? ⟨g7, 1, none⟩ = some (.slice X2 xn2 xk2) ∧ w20.cell? ⟨g7, 2, none⟩ = some (.slice X3 xn3 xk3) ∧ w20.cell? ⟨g9, 0, none⟩ = some (.slice Y1 yn1 yk1) ∧ w20.cell? ⟨g9, 1, none⟩ = some (.slice Y2 yn2 yk2) ∧ w20.cell? ⟨g9, 2, none⟩ = some (.slice Y3 yn3 yk3) ∧ w20.cell? ⟨g13, 0, none⟩ = some (.slice Q1 qn1 qk1) ∧ w20.cell? ⟨g13, 1, none⟩ = some (.slice Q2 qn2 qk2) ∧ w20.cell? ⟨g13, 2, none⟩ = some (.slice Q3 qn3 qk3))
     refine bJ hK hS ?_
     clear hK K
     simp only [Act.put, pA, pB, pC]
     clear CC b2
     have CC := spec_PageText_c w20 PG.out DR.out.law
     rw [hT] at CC
     refine rJ 5 fun K hK => ?_
     refine step_call 11 #[.tmp 92] _ rfl rfl #[.agg #[.slice A1 n1 k1, .slice A2 n2 k2, .slice A3 n3 k3]] Tryd.call11 (by go_simp) CC ?_
     rintro e w21 ⟨rfl, b2⟩
     refine ⟨_, rfl, ?_⟩
     replace R5 := R5.later b2
     replace R7 := R7.later b2
     replace R9 := R9.later b2
     replace R13 := R13.later b2
     replace PG := Lib.hid (PG.out.below b2)
     replace PX := Lib.hid (PX.out.below b2)
     replace PY := Lib.hid (PY.out.below b2)
     replace PZ := Lib.hid (PZ.out.below b2)
     replace PQ := Lib.hid (PQ.out.below b2)
     replace BB := Lib.hid (BB.out.trans (b2.mono BB.out.size))
     replace hS := (⟨R5.c0, R5.c1, R5.c2, R7.c0, R7.c1, R7.c2, R9.c0, R9.c1, R9.c2, R13.c0, R13.c1, R13.c2⟩ : w21.cell? ⟨g5, 0, none⟩ = some (.slice A1 n1 k1) ∧ w21.cell? ⟨g5, 1, none⟩ = some (.slice A2 n2 k2) ∧ w21.cell? ⟨g5, 2, none⟩ = some (.slice A3 n3 k3) ∧ w21.cell? ⟨g7, 0, none⟩ = some (.slice X1 xn1 xk1) ∧ w21.cell? ⟨g7, 1, none⟩ = some (.slice X2 xn2 xk2) ∧ w21.cell? ⟨g7, 2, none⟩ = some (.slice X3 xn3 xk3) ∧ w21.cell? ⟨g9, 0, none⟩ = some (.slice Y1 yn1 yk1) ∧ w21.cell? ⟨g9, 1, none⟩ = some (.slice Y2 yn2 yk2) ∧ w21.cell? ⟨g9, 2, none⟩ = some (.slice Y3 yn3 yk3) ∧ w21.cell? ⟨g13, 0, none⟩ = some (.slice Q1 qn1 qk1) ∧ w21.cell? ⟨g13, 1, none⟩ = some (.slice Q2 qn2 qk2) ∧ w21.cell? ⟨g13, 2, none⟩ = some (.slice Q3 qn3 qk3))
     refine bJ hK hS ?_
     clear hK K
     simp only [Act.put, pA, pB, pC]
     clear CC b2
     refine tJ 6 hS ?_
     refine tJ 7 hS ?_
     refine tJ 8 hS ?_
     refine tJ 9 hS ?_
     refine tJ 10 hS ?_
     refine tJ 11 hS ?_
     refine tJ 12 hS ?_
     refine tJ 13 hS ?_
     refine tJ 14 hS ?_
     refine tJ 15 hS ?_
     refine tJ 16 hS ?_
     refine tJ 17 hS ?_
     refine tJ 18 hS ?_
     refine tJ 19 hS ?_
     refine tJ 20 hS ?_
     refine wpAnyH_done (by kernel_rfl) ?_ _
     clear hS
     go_wp2_with fail
     go_ret
     exact ⟨by simp, BB.out⟩
end Go.Proofs.YtmopioaojdlnkaaDoor
