/- Pages that laws draw. Conditions: none. -/
import Derived.Test.YtmopioaojdlnkaaDoorPgNewp
import Derived.Test.YtmopioaojdlnkaaDoorPgUnF3p
import Derived.Test.YtmopioaojdlnkaaDoorPgUnF4p
import Derived.Test.YtmopioaojdlnkaaDoorPgDo2p
import Derived.Test.YtmopioaojdlnkaaDoorPgPossp
import Derived.Deep.Cut
import Derived.Deep.CutRange
namespace Go.Proofs.YtmopioaojdlnkaaDoor
open Go Go.RowKit
theorem PageIs.toRead {el es : TypeId} {o : Bool} {w : World} {p : PPage} {v : Value} {F : List Nat} (h : PageIs el es o w p v F) : PageIs el es false w p v F := by
 obtain ⟨a, b, c, F1, F2, F3, rfl, rfl, h1, h2, h3⟩ := h
 exact ⟨a, b, c, F1, F2, F3, rfl, rfl, ty_read h1, ty_read h2, ty_read h3⟩
structure DrSt (B g g4 g5 M : Nat) (code : List UInt8) (w wX : World) (p : PPage) (a b c : Value) (F : List Nat) : Prop where
 dr : DrP p
 pg : PageIs 56 30 false wX p (.agg #[a, b, c]) F
 fr : ∀ x ∈ F, g4 < x ∧ x ≠ g5
 r5 : Row wX g5 27 [a, b, c]
 r4 : Row wX g4 27 [.slice none 0 0, .slice none 0 0, .slice none 0 0]
 s : SrcIs B g code M wX
 o : Only [g] w wX
 l0 : g < w.heap.size
 l1 : B ≤ w.heap.size
 l4 : w.heap.size ≤ g4
 l5 : g4 < g5
section
variable {B g g4 g5 M : Nat} {code : List UInt8} {w wX wY : World} {p : PPage} {a b c : Value} {F : List Nat}
theorem DrSt.below (h : DrSt B g g4 g5 M code w wX p a b c F) (hb : Below wX.heap.size wX wY) : DrSt B g g4 g5 M code w wY p a b c F :=
 ⟨h.dr, h.pg.below hb, h.fr, h.r5.later hb, h.r4.later hb, h.s.below hb, h.o.trans (Only.of_below hb), h.l0, h.l1, h.l4, h.l5⟩
theorem DrSt.alloc (h : DrSt B g g4 g5 M code w wX p a b c F) (x : Obj) : DrSt B g g4 g5 M code w (wX.alloc x) p a b c F := h.below ((Below.refl _ _).alloc (Nat.le_refl _) x)
theorem DrSt.src {M' : Nat} (h : DrSt B g g4 g5 M code w wX p a b c F) (ho : Only [g] wX wY) (hs : SrcIs B g code M' wY) : DrSt B g g4 g5 M' code w wY p a b c F := by
 have h0 := h.l0; have h4 := h.l4; have h5 := h.l5
 refine ⟨h.dr, h.pg.only ho (fun x hx hin => by simp at hin; subst hin; have := (h.fr _ hx).1; omega), h.fr, row_oF h.r5 ho (by omega), row_oF h.r4 ho (by omega), hs, h.o.trans ho, h0, h.l1, h4, h5⟩
theorem DrSt.store {q : PPage} {a' b' c' : Value} {F' : List Nat} (h : DrSt B g g4 g5 M code w wX p a b c F) (hd : DrP q) (hp : PageIs 56 30 false wX q (.agg #[a', b', c']) F') (hF : ∀ x ∈ F', g4 < x ∧ x ≠ g5) :
 DrSt B g g4 g5 M code w (((wX.setCell ⟨g5, 0, none⟩ a').setCell ⟨g5, 1, none⟩ b').setCell ⟨g5, 2, none⟩ c') q a' b' c' F' := by
 have h0 := h.l0; have h1 := h.l1; have h4 := h.l4; have h5 := h.l5
 refine ⟨hd, hp.set3 (fun hin => (hF _ hin).2 rfl) _ _ _, hF, ((h.r5.set 0 a').set 1 b').set 2 c', row_far1 (row_far1 (row_far1 h.r4 (by omega)) (by omega)) (by omega), ?_, ?_, h0, h1, h4, h5⟩
 · exact src_farF (src_farF (src_farF h.s (by show B ≤ g5; omega) _) (by show B ≤ g5; omega) _) (by show B ≤ g5; omega) _
 · exact only_newF (only_newF (only_newF h.o (by show _ ≤ g5; omega) _) (by show _ ≤ g5; omega) _) (by show _ ≤ g5; omega) _
theorem DrSt.more {M' : Nat} (h : DrSt B g g4 g5 M code w wX p a b c F) (hM : M ≤ M') : DrSt B g g4 g5 M' code w wX p a b c F := ⟨h.dr, h.pg, h.fr, h.r5, h.r4, h.s.more hM, h.o, h.l0, h.l1, h.l4, h.l5⟩
theorem DrSt.low (h : DrSt B g g4 g5 M code w wX p a b c F) : B ≤ wX.heap.size := Nat.le_trans h.l1 h.o.size
theorem DrSt.lines (h : DrSt B g g4 g5 M code w wX p a b c F) : ∃ F1 F2 F3, F = F1 ++ (F2 ++ F3) ∧ (pLines 56).rep false wX p.lines [a] F1 ∧ (pSteps 30).rep false wX p.done [b] F2 ∧ (pSteps 30).rep false wX p.undone [c] F3 ∧ g ∉ F1 := by
 obtain ⟨F1, F2, F3, e, h1, h2, h3⟩ := h.pg.lines
 refine ⟨F1, F2, F3, e, h1, h2, h3, fun hin => ?_⟩
 have h0 := h.l0; have h4 := h.l4; have h5 := h.l5
 have := (h.fr g (by rw [e]; simp [hin])).1
 omega
end
def DrawnPage (w : World) (g : Nat) (e : Ending) (w' : World) : Prop :=
 ∃ (p : PPage) (v : Value) (F : List Nat), e = .returned v ∧ DrP p ∧ PageIs 56 30 false w' p v F ∧ (∀ x ∈ F, w.heap.size ≤ x) ∧ Only [g] w w'
set_option maxRecDepth 100000 in
set_option maxHeartbeats 8000000 in
theorem spec_l27Draw_c {B g m : Nat} {code : List UInt8} (w : World) (S : SrcIs B g code m w) (hm : m ≤ 800000) (hB : B ≤ w.heap.size) :
 Calls Tryd.prog 14 #[.pointer (some ⟨g, 0, none⟩), .int .i64 14] w (DrawnPage w g) := by
 have hgw := S.lt
 have CN := Lib.hid (spec_NewPage_c (w.alloc (.cells #[.slice none 0 0, .slice none 0 0, .slice none 0 0] 27)))
 have R4 := Row.new w 27 #[.slice none 0 0, .slice none 0 0, .slice none 0 0]
 have S0 := src_allocF S (.cells #[.slice none 0 0, .slice none 0 0, .slice none 0 0] 27)
 have O0 : Only [g] w (w.alloc (.cells #[.slice none 0 0, .slice none 0 0, .slice none 0 0] 27)) := only_allocF (Only.refl _ _) _
 clear S
 go_enter Tryd.func14, Tryd.ntmps14
 go_wp2_with fail
 refine CN.out.mono ?_
 rintro e w1 ⟨v, F, rfl, pg, fr, b1⟩
 obtain ⟨A1, n1, k1, A2, n2, k2, A3, n3, k3, rfl⟩ := pg.form
 have hb1 := b1.size
 rw [World.size_alloc] at hb1
 have hbF := pg.blocks
 have kk : IntKind.i64.wrap ((14 : Int) + 1) = 15 := by decide
 have fr2 := fr.2
 have pgN := PageIs.toRead pg
 have ST0 : SrcIs B g code m (w1.alloc (.cells #[.slice A1 n1 k1, .slice A2 n2 k2, .slice A3 n3 k3] 27)) := src_allocF (S0.below b1) _
 have R40 := (R4.later b1).alloc (.cells #[.slice A1 n1 k1, .slice A2 n2 k2, .slice A3 n3 k3] 27)
 have R50 := Row.new w1 27 #[.slice A1 n1 k1, .slice A2 n2 k2, .slice A3 n3 k3]
 have PG0 : PageIs 56 30 false (w1.alloc (.cells #[.slice A1 n1 k1, .slice A2 n2 k2, .slice A3 n3 k3] 27)) newPage (.agg #[.slice A1 n1 k1, .slice A2 n2 k2, .slice A3 n3 k3]) F := pgN.below ((Below.refl _ _).alloc (Nat.le_refl _) _)
 have O1 := only_allocF (O0.trans (Only.of_below b1)) (.cells #[.slice A1 n1 k1, .slice A2 n2 k2, .slice A3 n3 k3] 27)
 have CP := Lib.hid (src_pick_c _ ST0 (by omega) 15 (by omega))
 have ST0' := Lib.hid ST0
 clear CN S0 ST0 R4 O0 pg pgN b1
 go_wp2_with fail
 refine CP.out.mono ?_
 rintro e w2 ⟨⟨r, r0, r1, rfl⟩, S2, O2⟩
 obtain ⟨j, rfl⟩ := Int.eq_ofNat_of_zero_le r0
 have hj : j ≤ 14 := by omega
 have ST : DrSt B g w.heap.size w1.heap.size (m + 1) code w w2 newPage (.slice A1 n1 k1) (.slice A2 n2 k2) (.slice A3 n3 k3) F := DrSt.src ⟨DrP.new, PG0, fun x hx => ⟨by have := fr2 x hx; simp at this; omega, by have := hbF x hx; omega⟩, R50, R40, ST0'.out, O1, hgw, hB, Nat.le_refl _, by omega⟩ O2 S2
 have hg4 : w.heap.size < w1.heap.size := by omega
 have HI := Lib.hid (ST)
 clear ST ST0' PG0 R50 R40 O1 O2 S2 hbF fr2 fr hb1 CP r0 r1 hgw hB
 generalize w1.heap.size = g5 at HI hg4 ⊢
 go_wp2_with fail
 go_loopw [6] (fun i wr => ∃ (k : Nat) (p : PPage) (A1 : Option Addr) (n1 k1 : Nat) (A2 : Option Addr) (n2 k2 : Nat) (A3 : Option Addr) (n3 k3 : Nat) (F : List Nat), i = .int .i64 k ∧ k ≤ 14 ∧ Hid (DrSt B g w.heap.size g5 (m + 1 + 10 * (14 - k)) code w wr p (.slice A1 n1 k1) (.slice A2 n2 k2) (.slice A3 n3 k3) F)) (fun i _ => (intOf i).toNat)
 case atStart => exact ⟨j, newPage, _, _, _, _, _, _, _, _, _, F, rfl, hj, Lib.hid ⟨HI.out.dr, HI.out.pg, HI.out.fr, HI.out.r5, HI.out.r4, HI.out.s.more (by omega), HI.out.o, HI.out.l0, HI.out.l1, HI.out.l4, HI.out.l5⟩⟩
 clear HI
 case round =>
  obtain ⟨k, p, A1, n1, k1, A2, n2, k2, A3, n3, k3, F, rfl, hk, ST⟩ := hrel
  by_cases hk0 : 0 < k
  · have kw := IntWalk.i64_in ((k : Int) - 1) (by omega)
    obtain ⟨hok, hd30, hu30, -, -⟩ := validB_parts ST.out.dr.v
    obtain ⟨F1, F2, F3, -, h1, h2, -, hgF⟩ := ST.out.lines
    have CS := Lib.hid (spec_l27Step_c wr ST.out.s (by omega) ST.out.low h1 hgF hok)
    clear h1 h2 hgF
    have x0 := ST.out.r5.c0
    have x1 := ST.out.r5.c1
    have x2 := ST.out.r5.c2
    have xF := ST.out.r5.frozen
    go_wp2_with fail
    refine CS.out.mono ?_
    rintro e wa ⟨⟨s, hs, rfl⟩, Sa, Oa⟩
    replace ST := Lib.hid ((ST.out.src Oa Sa).alloc (.cells #[.int .i64 s.kind, .int .i64 s.line, .int .i64 s.pos, .string s.word, .string s.old] 30))
    have R7 : Row (wa.alloc (.cells #[.int .i64 s.kind, .int .i64 s.line, .int .i64 s.pos, .string s.word, .string s.old] 30)) wa.heap.size 30 (pStepCells s) := Row.new wa _ _
    clear CS Sa Oa x0 x1 x2 xF
    go_upto_region 6 with fail
    generalize wa.alloc (.cells #[.int .i64 s.kind, .int .i64 s.line, .int .i64 s.pos, .string s.word, .string s.old] 30) = wb at ST R7 ⊢
    generalize wa.heap.size = g7 at R7 ⊢
    obtain ⟨F1, F2, F3, -, h1, h2, -, hgF⟩ := ST.out.lines
    have CP := Lib.hid (spec_l27Possible_c s wb h1 (by have := hok.few; omega) (fun l hl => by have := hok.each l hl; omega) hs.1 (by have := hs.2.1; omega) R7)
    clear h1 h2 hgF
    have x0 := ST.out.r5.c0
    have x1 := ST.out.r5.c1
    have x2 := ST.out.r5.c2
    have xF := ST.out.r5.frozen
    have HS := Lib.hid hs
    clear hs
    go_wp2_with fail
    refine CP.out.mono ?_
    rintro e wc ⟨rfl, bc⟩
    replace ST := Lib.hid (ST.out.below bc)
    replace R7 := R7.later bc
    clear bc CP x0 x1 x2 xF
    cases hcb : canB p.lines s
    case' false =>
     generalize p = q at ST
     obtain ⟨we, hwe⟩ : ∃ x, x = wc := ⟨_, rfl⟩
     subst hwe
     clear hcb R7
     go_upto_region 8 with fail
    case' true =>
     obtain ⟨F1, F2, F3, -, h1, h2, -, hgF⟩ := ST.out.lines
     have CD := Lib.hid (spec_l27Do_c s wc ST.out.r5 R7 h1 h2 hok ((can_iff _ _).1 hcb) HS.out.1 (by omega))
     clear h1 h2 hgF
     have x0 := ST.out.r5.c0
     have x1 := ST.out.r5.c1
     have x2 := ST.out.r5.c2
     have xF := ST.out.r5.frozen
     go_wp2_with fail
     refine CD.out.mono ?_
     rintro e wd ⟨vd, Fd, rfl, pgd, frd, bd⟩
     obtain ⟨A1, n1, k1, A2, n2, k2, A3, n3, k3, rfl⟩ := pgd.form
     have l5 := ST.out.l5
     have l5' := ST.out.r5.lt
     replace ST := Lib.hid (ST.out.below bd)
     clear x0 x1 x2 xF
     have x0 := ST.out.r5.c0
     have x1 := ST.out.r5.c1
     have x2 := ST.out.r5.c2
     have xF := ST.out.r5.frozen
     replace ST := Lib.hid (ST.out.store (ST.out.dr.done hcb HS.out) pgd (fun x hx => by have := frd x hx; exact ⟨by omega, by omega⟩))
     clear pgd frd bd CD R7 hcb
     go_upto_region 8 with fail
     generalize ((wd.setCell ⟨g5, 0, none⟩ (.slice A1 n1 k1)).setCell ⟨g5, 1, none⟩ (.slice A2 n2 k2)).setCell ⟨g5, 2, none⟩ (.slice A3 n3 k3) = we at ST ⊢
     generalize doP p s = q at ST
     clear x0 x1 x2 xF l5 l5'
    all_goals (
     have x0 := ST.out.r5.c0
     have x1 := ST.out.r5.c1
     have x2 := ST.out.r5.c2
     have xF := ST.out.r5.frozen
     have CO := Lib.hid (src_one_c we ST.out.s (by omega) 4 (by omega))
     go_wp2_with fail
     refine CO.out.mono ?_
     rintro e wf ⟨⟨bb, rfl⟩, Sf, Of⟩
     replace ST := Lib.hid (ST.out.src Of Sf)
     clear x0 x1 x2 xF CO Sf Of
     have x0 := ST.out.r5.c0
     have x1 := ST.out.r5.c1
     have x2 := ST.out.r5.c2
     have xF := ST.out.r5.frozen
     cases bb
     case' false =>
      obtain ⟨wj, hwe⟩ : ∃ x, x = wf := ⟨_, rfl⟩
      subst hwe
      generalize q = qq at ST
      go_upto_region 12 with fail
      clear x0 x1 x2 xF
     case' true =>
      have CU := Lib.hid (spec_UndoStepF_c wf ST.out.pg ST.out.dr.law)
      go_wp2_with fail
      refine CU.out.mono ?_
      rintro e wg ⟨vu, Fu, rfl, pgu, fru, bu⟩
      have l5 := ST.out.l5
      have l5' := ST.out.r5.lt
      obtain ⟨C1, c1, d1, C2, c2, d2, C3, c3, d3, rfl⟩ := pgu.form
      have R8 := Row.new wg 27 #[.slice C1 c1 d1, .slice C2 c2 d2, .slice C3 c3 d3]
      have PU := Lib.hid (pgu.below ((Below.refl wg.heap.size wg).alloc (Nat.le_refl _) (.cells #[.slice C1 c1 d1, .slice C2 c2 d2, .slice C3 c3 d3] 27)))
      have FU := Lib.hid fru
      have hbu := bu.size
      have hg58 : g5 < wg.heap.size := by omega
      replace ST := Lib.hid ((ST.out.below bu).alloc (.cells #[.slice C1 c1 d1, .slice C2 c2 d2, .slice C3 c3 d3] 27))
      clear x0 x1 x2 xF CU pgu fru bu
      go_upto_region 10 with fail
      generalize wg.alloc (.cells #[.slice C1 c1 d1, .slice C2 c2 d2, .slice C3 c3 d3] 27) = wh at ST R8 PU ⊢
      generalize wg.heap.size = g8 at R8 hg58 hbu ⊢
      have x0 := ST.out.r5.c0
      have x1 := ST.out.r5.c1
      have x2 := ST.out.r5.c2
      have xF := ST.out.r5.frozen
      have y0 := R8.c0
      have y1 := R8.c1
      have y2 := R8.c2
      by_cases hu0 : (undoR q).2 = 0
      case' pos =>
       have yc : ((undoR q).2 == 0) = true := by rw [hu0]; rfl
       have HU := Lib.hid hu0
       clear hu0
       replace ST := Lib.hid (ST.out.store (ST.out.dr.undo HU.out) PU.out (fun x hx => by have := FU.out x hx; exact ⟨by omega, by omega⟩))
       clear HU PU FU R8
       go_upto_region 12 with fail
       generalize ((wh.setCell ⟨g5, 0, none⟩ (.slice C1 c1 d1)).setCell ⟨g5, 1, none⟩ (.slice C2 c2 d2)).setCell ⟨g5, 2, none⟩ (.slice C3 c3 d3) = wj at ST ⊢
       generalize (undoR q).1 = qq at ST
       clear x0 x1 x2 xF y0 y1 y2 yc l5 l5' hbu hg58
      case' neg =>
       have yc : ((undoR q).2 == 0) = false := by simpa using hu0
       obtain ⟨wj, hwe⟩ : ∃ x, x = wh := ⟨_, rfl⟩
       subst hwe
       clear hu0 PU FU R8
       go_upto_region 12 with fail
       generalize q = qq at ST
       clear x0 x1 x2 xF y0 y1 y2 yc l5 l5' hbu hg58
     all_goals (
      have x0 := ST.out.r5.c0
      have x1 := ST.out.r5.c1
      have x2 := ST.out.r5.c2
      have xF := ST.out.r5.frozen
      have CO := Lib.hid (src_one_c wj ST.out.s (by omega) 6 (by omega))
      go_wp2_with fail
      refine CO.out.mono ?_
      rintro e wf ⟨⟨bb, rfl⟩, Sf, Of⟩
      replace ST := Lib.hid (ST.out.src Of Sf)
      clear x0 x1 x2 xF CO Sf Of
      have x0 := ST.out.r5.c0
      have x1 := ST.out.r5.c1
      have x2 := ST.out.r5.c2
      have xF := ST.out.r5.frozen
      cases bb
      case' false =>
       obtain ⟨wz, hwe⟩ : ∃ x, x = wf := ⟨_, rfl⟩
       subst hwe
       generalize qq = qz at ST
       go_wp2_with fail
       clear x0 x1 x2 xF
      case' true =>
       have CU := Lib.hid (spec_RedoStepF_c wf ST.out.pg ST.out.dr.law)
       go_wp2_with fail
       refine CU.out.mono ?_
       rintro e wg ⟨vu, Fu, rfl, pgu, fru, bu⟩
       have l5 := ST.out.l5
       have l5' := ST.out.r5.lt
       obtain ⟨C1, c1, d1, C2, c2, d2, C3, c3, d3, rfl⟩ := pgu.form
       have R8 := Row.new wg 27 #[.slice C1 c1 d1, .slice C2 c2 d2, .slice C3 c3 d3]
       have PU := Lib.hid (pgu.below ((Below.refl wg.heap.size wg).alloc (Nat.le_refl _) (.cells #[.slice C1 c1 d1, .slice C2 c2 d2, .slice C3 c3 d3] 27)))
       have FU := Lib.hid fru
       have hbu := bu.size
       have hg58 : g5 < wg.heap.size := by omega
       replace ST := Lib.hid ((ST.out.below bu).alloc (.cells #[.slice C1 c1 d1, .slice C2 c2 d2, .slice C3 c3 d3] 27))
       clear x0 x1 x2 xF CU pgu fru bu
       go_upto_region 14 with fail
       generalize wg.alloc (.cells #[.slice C1 c1 d1, .slice C2 c2 d2, .slice C3 c3 d3] 27) = wh at ST R8 PU ⊢
       generalize wg.heap.size = g8 at R8 hg58 hbu ⊢
       have x0 := ST.out.r5.c0
       have x1 := ST.out.r5.c1
       have x2 := ST.out.r5.c2
       have xF := ST.out.r5.frozen
       have y0 := R8.c0
       have y1 := R8.c1
       have y2 := R8.c2
       by_cases hu0 : (redoR qq).2 = 0
       case' pos =>
        have yc : ((redoR qq).2 == 0) = true := by rw [hu0]; rfl
        have HU := Lib.hid hu0
        clear hu0
        replace ST := Lib.hid (ST.out.store (ST.out.dr.redo HU.out) PU.out (fun x hx => by have := FU.out x hx; exact ⟨by omega, by omega⟩))
        clear HU PU FU R8
        go_wp2_with fail
        generalize ((wh.setCell ⟨g5, 0, none⟩ (.slice C1 c1 d1)).setCell ⟨g5, 1, none⟩ (.slice C2 c2 d2)).setCell ⟨g5, 2, none⟩ (.slice C3 c3 d3) = wz at ST ⊢
        generalize (redoR qq).1 = qz at ST
        clear x0 x1 x2 xF y0 y1 y2 yc l5 l5' hbu hg58
       case' neg =>
        have yc : ((redoR qq).2 == 0) = false := by simpa using hu0
        obtain ⟨wz, hwe⟩ : ∃ x, x = wh := ⟨_, rfl⟩
        subst hwe
        clear hu0 PU FU R8
        go_wp2_with fail
        generalize qq = qz at ST
        clear x0 x1 x2 xF y0 y1 y2 yc l5 l5' hbu hg58
      all_goals (
       go_roundw
       case rel => exact ⟨k - 1, qz, _, _, _, _, _, _, _, _, _, _, by go_num, by omega, Lib.hid (ST.out.more (by omega))⟩
       case measure => simp [intOf]; omega)))
  · obtain rfl : k = 0 := by omega
    have RE := ((ST.out.r4.set 0 (.slice A1 n1 k1)).set 1 (.slice A2 n2 k2)).set 2 (.slice A3 n3 k3)
    have l4 := ST.out.l4
    have x0 := ST.out.r5.c0
    have x1 := ST.out.r5.c1
    have x2 := ST.out.r5.c2
    have xF := ST.out.r5.frozen
    have z0 := ST.out.r4.c0
    have z1 := ST.out.r4.c1
    have z2 := ST.out.r4.c2
    have zF := ST.out.r4.frozen
    have e0 := RE.c0
    have e1 := RE.c1
    have e2 := RE.c2
    clear RE
    go_wp2_with fail
    refine bodyPost_ret (v := .agg #[.slice A1 n1 k1, .slice A2 n2 k2, .slice A3 n3 k3]) (by simp only [results, Tryd.results14]; go_simp) rfl ⟨p, _, F, rfl, ST.out.dr, ST.out.pg.set3 (fun hin => by have := ST.out.fr _ hin; omega) _ _ _, fun x hx => by have := ST.out.fr x hx; omega, only_newF (only_newF (only_newF ST.out.o (Nat.le_refl _) _) (Nat.le_refl _) _) (Nat.le_refl _) _⟩
end Go.Proofs.YtmopioaojdlnkaaDoor
