/- ValidDesk of the program and of the reference. Conditions: none. -/
import Derived.Test.YtkfadfddhbpngaaGreatDkIsy
import Derived.Test.YtkfadfddhbpngaaGreatSsVy
import Derived.Test.YtkfadfddhbpngaaGreatSsRy
import Derived.Test.YtkfadfddhbpngaaGreatPgFollowy
import Derived.Test.YtkfadfddhbpngaaGreatPgOky
import Derived.Test.YtkfadfddhbpngaaGreatTky
import Derived.Test.YtkfadfddhbpngaaGreatWidey
import Derived.Test.YtkfadfddhbpngaaGreatSeVy
namespace Go.Proofs.YtkfadfddhbpngaaGreat
open Go Go.RowKit

def deskB (p : PDesk) : Bool := sessB p.session && validB p.page
set_option maxRecDepth 100000 in
set_option maxHeartbeats 4000000 in
theorem impl_ValidDesk_p {I : DIds} {o : Bool} {p : PDesk} {v : Value} {F : List Nat} (w : World) (h : DeskIs I o w p v F) (hp : DkSmall p) (hb : DkBytes p) :
 Calls Tryz.prog 26 #[v] w fun e w' => e = .returned (.bool (deskB p)) ∧ Below w.heap.size w w' := by
 obtain ⟨A0, Ak0, A1, Ak1, A2, Ak2, A3, Ak3, A4, Ak4, A5, Ak5, A6, Ak6, A7, Ak7, A8, Ak8, rfl⟩ := h.shape
 have R := Row.new w 73 #[.int .i64 p.session.setup.band, .slice A0 p.session.setup.temps.length Ak0, .int .i64 p.session.setup.points, .int .i64 p.session.setup.most, .int .i64 p.session.setup.pen, .slice A1 p.session.setup.entries.length Ak1, .int .i64 p.session.setup.dflt, .slice A2 p.session.setup.bigrams.length Ak2, .int .i64 p.session.setup.pause, .slice A3 p.session.strokes.length Ak3, .slice A4 p.session.opn.length Ak4, .int .i64 p.session.time, .slice A5 p.session.words.length Ak5, .slice A6 p.page.lines.length Ak6, .slice A7 p.page.done.length Ak7, .slice A8 p.page.undone.length Ak8]
 have bb : Below w.heap.size w (w.alloc (.cells #[.int .i64 p.session.setup.band, .slice A0 p.session.setup.temps.length Ak0, .int .i64 p.session.setup.points, .int .i64 p.session.setup.most, .int .i64 p.session.setup.pen, .slice A1 p.session.setup.entries.length Ak1, .int .i64 p.session.setup.dflt, .slice A2 p.session.setup.bigrams.length Ak2, .int .i64 p.session.setup.pause, .slice A3 p.session.strokes.length Ak3, .slice A4 p.session.opn.length Ak4, .int .i64 p.session.time, .slice A5 p.session.words.length Ak5, .slice A6 p.page.lines.length Ak6, .slice A7 p.page.done.length Ak7, .slice A8 p.page.undone.length Ak8] 73)) := (Below.refl _ _).alloc (Nat.le_refl _) _
 replace h := h.alloc (.cells #[.int .i64 p.session.setup.band, .slice A0 p.session.setup.temps.length Ak0, .int .i64 p.session.setup.points, .int .i64 p.session.setup.most, .int .i64 p.session.setup.pen, .slice A1 p.session.setup.entries.length Ak1, .int .i64 p.session.setup.dflt, .slice A2 p.session.setup.bigrams.length Ak2, .int .i64 p.session.setup.pause, .slice A3 p.session.strokes.length Ak3, .slice A4 p.session.opn.length Ak4, .int .i64 p.session.time, .slice A5 p.session.words.length Ak5, .slice A6 p.page.lines.length Ak6, .slice A7 p.page.done.length Ak7, .slice A8 p.page.undone.length Ak8] 73)
 obtain ⟨F1, F2, -, hs, hg⟩ := h.split
 clear h
 have CS := Lib.hid (fun w' (a : SessIs I.i o w' p.session (.agg #[.int .i64 p.session.setup.band, .slice A0 p.session.setup.temps.length Ak0, .int .i64 p.session.setup.points, .int .i64 p.session.setup.most, .int .i64 p.session.setup.pen, .slice A1 p.session.setup.entries.length Ak1, .int .i64 p.session.setup.dflt, .slice A2 p.session.setup.bigrams.length Ak2, .int .i64 p.session.setup.pause, .slice A3 p.session.strokes.length Ak3, .slice A4 p.session.opn.length Ak4, .int .i64 p.session.time, .slice A5 p.session.words.length Ak5]) F1) => impl_ValidSession_p w' a hp.s hb.s)
 have CG := Lib.hid (fun w' (a : PageIs I.ln I.sp o w' p.page (.agg #[.slice A6 p.page.lines.length Ak6, .slice A7 p.page.done.length Ak7, .slice A8 p.page.undone.length Ak8]) F2) => impl_ValidPage_c w' a hp.p hb.p.b)
 unfold deskB
 generalize sessB p.session = d0 at *
 generalize validB p.page = d1 at *
 go_enter Tryz.func26, Tryz.ntmps26
 go_wp2_with fail
 refine (CS.out _ hs).mono ?_
 rintro e w1 ⟨rfl, b1⟩
 replace bb := bt bb b1
 replace R := R.later b1
 replace hg := hg.below b1
 have qr13 := R.cell' (i := 13) rfl
 have qr14 := R.cell' (i := 14) rfl
 have qr15 := R.cell' (i := 15) rfl
 cases d0
 · skip
   go_wp2_with fail
   go_ret
   first | exact ⟨rfl, bb⟩ | exact ⟨by simp, bb⟩
 go_wp2_with fail
 refine (CG.out _ hg).mono ?_
 rintro e w2 ⟨rfl, b2⟩
 replace bb := bt bb b2
 go_wp2_with fail
 go_ret
 first | exact ⟨rfl, bb⟩ | exact ⟨by simp, bb⟩
set_option maxRecDepth 100000 in
set_option maxHeartbeats 4000000 in
theorem spec_l28Ok_c {I : DIds} {o : Bool} {p : PDesk} {A0 A1 A2 A3 A4 A5 A6 A7 A8 : Option Addr} {Ak0 Ak1 Ak2 Ak3 Ak4 Ak5 Ak6 Ak7 Ak8 : Nat} {F0 F1 F2 F3 F4 F5 F6 F7 F8 : List Nat} {g : Nat} {T : TypeId} (w : World) (R : Row w g T [.int .i64 p.session.setup.band, .slice A0 p.session.setup.temps.length Ak0, .int .i64 p.session.setup.points, .int .i64 p.session.setup.most, .int .i64 p.session.setup.pen, .slice A1 p.session.setup.entries.length Ak1, .int .i64 p.session.setup.dflt, .slice A2 p.session.setup.bigrams.length Ak2, .int .i64 p.session.setup.pause, .slice A3 p.session.strokes.length Ak3, .slice A4 p.session.opn.length Ak4, .int .i64 p.session.time, .slice A5 p.session.words.length Ak5, .slice A6 p.page.lines.length Ak6, .slice A7 p.page.done.length Ak7, .slice A8 p.page.undone.length Ak8]) (h1 : (pTemps I.i.ft I.i.tm).rep o w p.session.setup.temps [.slice A0 p.session.setup.temps.length Ak0] F0) (h2 : (pEntrys I.i.en).rep o w p.session.setup.entries [.slice A1 p.session.setup.entries.length Ak1] F1) (h3 : (pBigrams I.i.bg).rep o w p.session.setup.bigrams [.slice A2 p.session.setup.bigrams.length Ak2] F2) (h4 : (pStrokes I.i.pt I.i.st).rep o w p.session.strokes [.slice A3 p.session.strokes.length Ak3] F3) (h5 : (pPoints I.i.pt).rep o w p.session.opn [.slice A4 p.session.opn.length Ak4] F4) (h6 : (strs 9).rep o w p.session.words [.slice A5 p.session.words.length Ak5] F5) (h7 : (pLines I.ln).rep o w p.page.lines [.slice A6 p.page.lines.length Ak6] F6) (h8 : (pSteps I.sp).rep o w p.page.done [.slice A7 p.page.done.length Ak7] F7) (h9 : (pSteps I.sp).rep o w p.page.undone [.slice A8 p.page.undone.length Ak8] F8) (hp : DkSmall p) (hb : DkBytes p) :
 Calls Tryz.prog 68 #[.pointer (some ⟨g, 0, none⟩)] w fun e w' => e = .returned (.bool (deskB p)) ∧ Below w.heap.size w w' := by
 have bb : Below w.heap.size w w := Below.refl _ _
 have CS := Lib.hid (fun w' (R : Row w' g T [.int .i64 p.session.setup.band, .slice A0 p.session.setup.temps.length Ak0, .int .i64 p.session.setup.points, .int .i64 p.session.setup.most, .int .i64 p.session.setup.pen, .slice A1 p.session.setup.entries.length Ak1, .int .i64 p.session.setup.dflt, .slice A2 p.session.setup.bigrams.length Ak2, .int .i64 p.session.setup.pause, .slice A3 p.session.strokes.length Ak3, .slice A4 p.session.opn.length Ak4, .int .i64 p.session.time, .slice A5 p.session.words.length Ak5, .slice A6 p.page.lines.length Ak6, .slice A7 p.page.done.length Ak7, .slice A8 p.page.undone.length Ak8]) (h1 : (pTemps I.i.ft I.i.tm).rep o w' p.session.setup.temps [.slice A0 p.session.setup.temps.length Ak0] F0) (h2 : (pEntrys I.i.en).rep o w' p.session.setup.entries [.slice A1 p.session.setup.entries.length Ak1] F1) (h3 : (pBigrams I.i.bg).rep o w' p.session.setup.bigrams [.slice A2 p.session.setup.bigrams.length Ak2] F2) (h4 : (pStrokes I.i.pt I.i.st).rep o w' p.session.strokes [.slice A3 p.session.strokes.length Ak3] F3) (h5 : (pPoints I.i.pt).rep o w' p.session.opn [.slice A4 p.session.opn.length Ak4] F4) (h6 : (strs 9).rep o w' p.session.words [.slice A5 p.session.words.length Ak5] F5) => spec_l26Ok_c (I := I.i) (q := p.session) (more := [.slice A6 p.page.lines.length Ak6, .slice A7 p.page.done.length Ak7, .slice A8 p.page.undone.length Ak8]) w' R h1 h2 h3 h4 h5 h6 hp.s hb.s)
 have CG := Lib.hid (fun w' (gl : g < w'.heap.size) (p0 : w'.cell? ⟨g, 13, none⟩ = some (.slice A6 p.page.lines.length Ak6)) (p1 : w'.cell? ⟨g, 13 + 1, none⟩ = some (.slice A7 p.page.done.length Ak7)) (p2 : w'.cell? ⟨g, 13 + 2, none⟩ = some (.slice A8 p.page.undone.length Ak8)) (h7 : (pLines I.ln).rep o w' p.page.lines [.slice A6 p.page.lines.length Ak6] F6) (h8 : (pSteps I.sp).rep o w' p.page.done [.slice A7 p.page.done.length Ak7] F7) (h9 : (pSteps I.sp).rep o w' p.page.undone [.slice A8 p.page.undone.length Ak8] F8) => spec_l27OkF_c (p := p.page) (f := 13) w' gl p0 p1 p2 h7 h8 h9 hp.p hb.p.b)
 unfold deskB
 generalize sessB p.session = d0 at *
 generalize validB p.page = d1 at *
 go_enter Tryz.func68, Tryz.ntmps68
 go_wp2_with fail
 refine (CS.out _ R h1 h2 h3 h4 h5 h6).mono ?_
 rintro e w1 ⟨rfl, b1⟩
 replace bb := bt bb b1
 replace R := R.later b1
 replace h7 := h7.below b1
 replace h8 := h8.below b1
 replace h9 := h9.below b1
 cases d0
 · skip
   go_wp2_with fail
   go_ret
   first | exact ⟨rfl, bb⟩ | exact ⟨by simp, bb⟩
 go_wp2_with fail
 refine (CG.out _ R.lt (R.cell' (i := 13) rfl) (R.cell' (i := 14) rfl) (R.cell' (i := 15) rfl) h7 h8 h9).mono ?_
 rintro e w2 ⟨rfl, b2⟩
 replace bb := bt bb b2
 go_wp2_with fail
 go_ret
 first | exact ⟨rfl, bb⟩ | exact ⟨by simp, bb⟩
set_option maxHeartbeats 1000000 in
theorem spec_ValidDesk_p {I : DIds} {o : Bool} {p : PDesk} {v : Value} {F : List Nat} (w : World) (h : DeskIs I o w p v F) (hp : DkSmall p) (hb : DkBytes p) :
 Calls Tryz.prog 25 #[v] w fun e w' => e = .returned (.bool (deskB p)) ∧ Below w.heap.size w w' := by
 obtain ⟨a0, a1, a2, a3, a4, a5, a6, a7, a8, F0, F1, F2, F3, F4, F5, F6, F7, F8, rfl, rfl, h1, h2, h3, h4, h5, h6, h7, h8, h9⟩ := h
 obtain ⟨A0, Ak0, rfl⟩ := slice_len h1
 obtain ⟨A1, Ak1, rfl⟩ := slice_len h2
 obtain ⟨A2, Ak2, rfl⟩ := slice_len h3
 obtain ⟨A3, Ak3, rfl⟩ := slice_len h4
 obtain ⟨A4, Ak4, rfl⟩ := slice_len h5
 obtain ⟨A5, Ak5, rfl⟩ := slice_len h6
 obtain ⟨A6, Ak6, rfl⟩ := slice_len h7
 obtain ⟨A7, Ak7, rfl⟩ := slice_len h8
 obtain ⟨A8, Ak8, rfl⟩ := slice_len h9
 have R := Row.new w 73 #[.int .i64 p.session.setup.band, .slice A0 p.session.setup.temps.length Ak0, .int .i64 p.session.setup.points, .int .i64 p.session.setup.most, .int .i64 p.session.setup.pen, .slice A1 p.session.setup.entries.length Ak1, .int .i64 p.session.setup.dflt, .slice A2 p.session.setup.bigrams.length Ak2, .int .i64 p.session.setup.pause, .slice A3 p.session.strokes.length Ak3, .slice A4 p.session.opn.length Ak4, .int .i64 p.session.time, .slice A5 p.session.words.length Ak5, .slice A6 p.page.lines.length Ak6, .slice A7 p.page.done.length Ak7, .slice A8 p.page.undone.length Ak8]
 have al : Below w.heap.size w (w.alloc (.cells #[.int .i64 p.session.setup.band, .slice A0 p.session.setup.temps.length Ak0, .int .i64 p.session.setup.points, .int .i64 p.session.setup.most, .int .i64 p.session.setup.pen, .slice A1 p.session.setup.entries.length Ak1, .int .i64 p.session.setup.dflt, .slice A2 p.session.setup.bigrams.length Ak2, .int .i64 p.session.setup.pause, .slice A3 p.session.strokes.length Ak3, .slice A4 p.session.opn.length Ak4, .int .i64 p.session.time, .slice A5 p.session.words.length Ak5, .slice A6 p.page.lines.length Ak6, .slice A7 p.page.done.length Ak7, .slice A8 p.page.undone.length Ak8] 73)) := (Below.refl _ _).alloc (Nat.le_refl _) _
 have H := Lib.hid (spec_l28Ok_c _ R (h1.alloc _) (h2.alloc _) (h3.alloc _) (h4.alloc _) (h5.alloc _) (h6.alloc _) (h7.alloc _) (h8.alloc _) (h9.alloc _) hp hb)
 generalize deskB p = d at H ⊢
 go_enter Tryz.func25, Tryz.ntmps25
 go_wp2_with fail
 refine H.out.mono ?_
 rintro e w1 ⟨rfl, b1⟩
 go_wp2_with fail
 go_ret
 exact ⟨rfl, al.trans (b1.mono al.size)⟩
end Go.Proofs.YtkfadfddhbpngaaGreat
namespace Go.Proofs.YtkfadfddhbpngaaGreat
open Go Go.RowKit
abbrev zo6_10_2 : Oper := { dst := some 24, op := .call { callee := .value (.func 9), args := #[.tmp 23], argTypes := #[47] }, type := 73, pos := "exact.go:12526", after := #[{ on := 1, ground := .data }], guard := none }
abbrev zo6_10_3 : Oper := { dst := some 25, op := .call { callee := .value (.func 11), args := #[.tmp 22, .tmp 24], argTypes := #[73, 73] }, type := 4, pos := "exact.go:12526", after := #[{ on := 0, ground := .data }, { on := 2, ground := .data }, { on := 2, ground := .chain }], guard := none }
abbrev zo6_10_4 : Oper := { dst := some 26, op := .unOp .not 4 (.tmp 25), type := 4, pos := "exact.go:12526", after := #[{ on := 3, ground := .data }], guard := none }

set_option maxRecDepth 100000 in
set_option maxHeartbeats 4000000 in
theorem law_ValidDesk {I : DIds} {p : PDesk} {v : Value} {F : List Nat} (w : World) (h : DeskIs I false w p v F) :
 Calls Tryz.prog 6 #[v] w fun e w' => e = .returned (.bool true) ∧ Below w.heap.size w w' := by
 obtain ⟨A0, Ak0, A1, Ak1, A2, Ak2, A3, Ak3, A4, Ak4, A5, Ak5, A6, Ak6, A7, Ak7, A8, Ak8, rfl⟩ := h.shape
 have R := Row.new w 47 #[.int .i64 p.session.setup.band, .slice A0 p.session.setup.temps.length Ak0, .int .i64 p.session.setup.points, .int .i64 p.session.setup.most, .int .i64 p.session.setup.pen, .slice A1 p.session.setup.entries.length Ak1, .int .i64 p.session.setup.dflt, .slice A2 p.session.setup.bigrams.length Ak2, .int .i64 p.session.setup.pause, .slice A3 p.session.strokes.length Ak3, .slice A4 p.session.opn.length Ak4, .int .i64 p.session.time, .slice A5 p.session.words.length Ak5, .slice A6 p.page.lines.length Ak6, .slice A7 p.page.done.length Ak7, .slice A8 p.page.undone.length Ak8]
 go_enter Tryz.func6, Tryz.ntmps6
 go_upto_region 2 with fail
 apply wp_region_lit
 refine wpList_load_mid rfl 47 (.tmp 1) rfl (w.heap.size) 0 rfl _ _ (Row.range R) Tryz.underlying47 rfl (by kernel_rfl) ?_
 go_wp2_with fail
 refine (szDesk_p _ (h.alloc _) 1048576 (by omega)).mono ?_
 rintro e w1 ⟨⟨r, rfl, hr1, hr⟩, b1⟩
 have c1 : Below w.heap.size w w1 := ((Below.refl _ _).alloc (Nat.le_refl _) _).trans (b1.mono (by simp))
 by_cases h0 : r < 0
 · go_wp2_with fail
   go_ret
   exact ⟨rfl, c1⟩
 obtain ⟨hp, hpb⟩ := DkSmall.of (q := p) (by have := hr (by omega); omega)
 clear hr
 replace R := R.later b1
 replace h := (h.alloc _).below b1
 go_upto_region 5 with fail
 apply wp_region_lit
 refine wpList_load_mid rfl 47 (.tmp 1) rfl (w.heap.size) 0 rfl _ _ (Row.range R) Tryz.underlying47 rfl (by kernel_rfl) ?_
 go_wp2_with fail
 refine (toDesk_p _ h hp).mono ?_
 rintro e w2 ⟨u2, G2, rfl, r2, f2, b2⟩
 replace R := R.later b2
 replace h := h.below b2
 replace c1 := bt c1 b2
 obtain ⟨B0, Bk0, B1, Bk1, B2, Bk2, B3, Bk3, B4, Bk4, B5, Bk5, B6, Bk6, B7, Bk7, B8, Bk8, rfl⟩ := r2.shape
 go_wp2_with fail
 refine (spec_ValidDesk_p _ r2 hp hpb).mono ?_
 rintro e w3 ⟨rfl, b3⟩
 replace R := R.later b3
 replace h := h.below b3
 replace c1 := bt c1 b3
 clear r2
 have HI := Lib.hid (fun (w : World) (v : Value) (F : List Nat) (h : DeskIs didsI true w p v F) => impl_ValidDesk_p w h hp hpb)
 have HP := Lib.hid hp
 generalize deskB p = d at *
 have hdd : (d != d) = false := by cases d <;> rfl
 have hss := sameDeskB_refl p
 clear hp hpb
 go_upto_region 6 with fail
 apply wp_region_lit
 refine wpList_load_mid rfl 47 (.tmp 1) rfl (w.heap.size) 0 rfl _ _ (Row.range R) Tryz.underlying47 rfl (by kernel_rfl) ?_
 go_wp2_with fail
 refine (toDesk_p _ h HP.out).mono ?_
 rintro e w4 ⟨u4, G4, rfl, x, f4, b4⟩
 obtain ⟨X0, Xk0, X1, Xk1, X2, Xk2, X3, Xk3, X4, Xk4, X5, Xk5, X6, Xk6, X7, Xk7, X8, Xk8, rfl⟩ := x.shape
 have X := Row.new w4 73 #[.int .i64 p.session.setup.band, .slice X0 p.session.setup.temps.length Xk0, .int .i64 p.session.setup.points, .int .i64 p.session.setup.most, .int .i64 p.session.setup.pen, .slice X1 p.session.setup.entries.length Xk1, .int .i64 p.session.setup.dflt, .slice X2 p.session.setup.bigrams.length Xk2, .int .i64 p.session.setup.pause, .slice X3 p.session.strokes.length Xk3, .slice X4 p.session.opn.length Xk4, .int .i64 p.session.time, .slice X5 p.session.words.length Xk5, .slice X6 p.page.lines.length Xk6, .slice X7 p.page.done.length Xk7, .slice X8 p.page.undone.length Xk8]
 replace R := (R.later b4).alloc (.cells #[.int .i64 p.session.setup.band, .slice X0 p.session.setup.temps.length Xk0, .int .i64 p.session.setup.points, .int .i64 p.session.setup.most, .int .i64 p.session.setup.pen, .slice X1 p.session.setup.entries.length Xk1, .int .i64 p.session.setup.dflt, .slice X2 p.session.setup.bigrams.length Xk2, .int .i64 p.session.setup.pause, .slice X3 p.session.strokes.length Xk3, .slice X4 p.session.opn.length Xk4, .int .i64 p.session.time, .slice X5 p.session.words.length Xk5, .slice X6 p.page.lines.length Xk6, .slice X7 p.page.done.length Xk7, .slice X8 p.page.undone.length Xk8] 73)
 replace h := (h.below b4).alloc (.cells #[.int .i64 p.session.setup.band, .slice X0 p.session.setup.temps.length Xk0, .int .i64 p.session.setup.points, .int .i64 p.session.setup.most, .int .i64 p.session.setup.pen, .slice X1 p.session.setup.entries.length Xk1, .int .i64 p.session.setup.dflt, .slice X2 p.session.setup.bigrams.length Xk2, .int .i64 p.session.setup.pause, .slice X3 p.session.strokes.length Xk3, .slice X4 p.session.opn.length Xk4, .int .i64 p.session.time, .slice X5 p.session.words.length Xk5, .slice X6 p.page.lines.length Xk6, .slice X7 p.page.done.length Xk7, .slice X8 p.page.undone.length Xk8] 73)
 replace x := x.alloc (.cells #[.int .i64 p.session.setup.band, .slice X0 p.session.setup.temps.length Xk0, .int .i64 p.session.setup.points, .int .i64 p.session.setup.most, .int .i64 p.session.setup.pen, .slice X1 p.session.setup.entries.length Xk1, .int .i64 p.session.setup.dflt, .slice X2 p.session.setup.bigrams.length Xk2, .int .i64 p.session.setup.pause, .slice X3 p.session.strokes.length Xk3, .slice X4 p.session.opn.length Xk4, .int .i64 p.session.time, .slice X5 p.session.words.length Xk5, .slice X6 p.page.lines.length Xk6, .slice X7 p.page.done.length Xk7, .slice X8 p.page.undone.length Xk8] 73)
 replace c1 := bt c1 b4
 replace c1 := c1.alloc c1.size (.cells #[.int .i64 p.session.setup.band, .slice X0 p.session.setup.temps.length Xk0, .int .i64 p.session.setup.points, .int .i64 p.session.setup.most, .int .i64 p.session.setup.pen, .slice X1 p.session.setup.entries.length Xk1, .int .i64 p.session.setup.dflt, .slice X2 p.session.setup.bigrams.length Xk2, .int .i64 p.session.setup.pause, .slice X3 p.session.strokes.length Xk3, .slice X4 p.session.opn.length Xk4, .int .i64 p.session.time, .slice X5 p.session.words.length Xk5, .slice X6 p.page.lines.length Xk6, .slice X7 p.page.done.length Xk7, .slice X8 p.page.undone.length Xk8] 73)
 go_upto_region 7 with fail
 generalize w4.alloc (.cells #[.int .i64 p.session.setup.band, .slice X0 p.session.setup.temps.length Xk0, .int .i64 p.session.setup.points, .int .i64 p.session.setup.most, .int .i64 p.session.setup.pen, .slice X1 p.session.setup.entries.length Xk1, .int .i64 p.session.setup.dflt, .slice X2 p.session.setup.bigrams.length Xk2, .int .i64 p.session.setup.pause, .slice X3 p.session.strokes.length Xk3, .slice X4 p.session.opn.length Xk4, .int .i64 p.session.time, .slice X5 p.session.words.length Xk5, .slice X6 p.page.lines.length Xk6, .slice X7 p.page.done.length Xk7, .slice X8 p.page.undone.length Xk8] 73) = w5 at *
 apply wp_region_lit
 refine wpList_load_mid rfl 73 (.tmp 5) rfl (w4.heap.size) 0 rfl _ _ (Row.range X) Tryz.underlying73 rfl (by kernel_rfl) ?_
 go_wp2_with fail
 refine (HI.out _ _ _ x).mono ?_
 rintro e w6 ⟨rfl, b6⟩
 replace R := (R.later b6).drew
 replace X := (X.later b6).drew
 replace h := (h.below b6).drew
 replace x := (x.below b6).drew
 replace c1 := (bt c1 b6).drew
 go_upto_region 10 with fail
 have hS : (fun w' : World => w'.rangeAt w4.heap.size 0 [.int .i64 p.session.setup.band, .slice X0 p.session.setup.temps.length Xk0, .int .i64 p.session.setup.points, .int .i64 p.session.setup.most, .int .i64 p.session.setup.pen, .slice X1 p.session.setup.entries.length Xk1, .int .i64 p.session.setup.dflt, .slice X2 p.session.setup.bigrams.length Xk2, .int .i64 p.session.setup.pause, .slice X3 p.session.strokes.length Xk3, .slice X4 p.session.opn.length Xk4, .int .i64 p.session.time, .slice X5 p.session.words.length Xk5, .slice X6 p.page.lines.length Xk6, .slice X7 p.page.done.length Xk7, .slice X8 p.page.undone.length Xk8] ∧ w'.rangeAt w.heap.size 0 [.int .i64 p.session.setup.band, .slice A0 p.session.setup.temps.length Ak0, .int .i64 p.session.setup.points, .int .i64 p.session.setup.most, .int .i64 p.session.setup.pen, .slice A1 p.session.setup.entries.length Ak1, .int .i64 p.session.setup.dflt, .slice A2 p.session.setup.bigrams.length Ak2, .int .i64 p.session.setup.pause, .slice A3 p.session.strokes.length Ak3, .slice A4 p.session.opn.length Ak4, .int .i64 p.session.time, .slice A5 p.session.words.length Ak5, .slice A6 p.page.lines.length Ak6, .slice A7 p.page.done.length Ak7, .slice A8 p.page.undone.length Ak8]) w6.drew := ⟨X.range, R.range⟩
 dsimp only at hS
 refine wp_region_held_drew (S := (fun w' : World => w'.rangeAt w4.heap.size 0 [.int .i64 p.session.setup.band, .slice X0 p.session.setup.temps.length Xk0, .int .i64 p.session.setup.points, .int .i64 p.session.setup.most, .int .i64 p.session.setup.pen, .slice X1 p.session.setup.entries.length Xk1, .int .i64 p.session.setup.dflt, .slice X2 p.session.setup.bigrams.length Xk2, .int .i64 p.session.setup.pause, .slice X3 p.session.strokes.length Xk3, .slice X4 p.session.opn.length Xk4, .int .i64 p.session.time, .slice X5 p.session.words.length Xk5, .slice X6 p.page.lines.length Xk6, .slice X7 p.page.done.length Xk7, .slice X8 p.page.undone.length Xk8] ∧ w'.rangeAt w.heap.size 0 [.int .i64 p.session.setup.band, .slice A0 p.session.setup.temps.length Ak0, .int .i64 p.session.setup.points, .int .i64 p.session.setup.most, .int .i64 p.session.setup.pen, .slice A1 p.session.setup.entries.length Ak1, .int .i64 p.session.setup.dflt, .slice A2 p.session.setup.bigrams.length Ak2, .int .i64 p.session.setup.pause, .slice A3 p.session.strokes.length Ak3, .slice A4 p.session.opn.length Ak4, .int .i64 p.session.time, .slice A5 p.session.words.length Ak5, .slice A6 p.page.lines.length Ak6, .slice A7 p.page.done.length Ak7, .slice A8 p.page.undone.length Ak8])) (by kernel_rfl) hS (fun _ => ?_)
 refine wpAnyH_take (i := 0) (oi := { dst := some 22, op := .load 73 (.tmp 5), type := 73, pos := "exact.go:12526", after := #[], guard := none }) (v := _) rfl (by kernel_rfl) (by kernel_rfl) (by kernel_rfl) (fun _ _ _ h => h) (yieldsIf_load_mid (by rfl) 73 (.tmp 5) rfl (w4.heap.size) 0 rfl _ _ (fun w' h' => h'.1) Tryz.underlying73 rfl (by kernel_rfl)) hS ?_
 simp only [Act.put, pA, pB, pC]
 refine wpAnyH_take (i := 1) (oi := { dst := some 23, op := .load 47 (.tmp 1), type := 47, pos := "exact.go:12526", after := #[], guard := none }) (v := _) rfl (by kernel_rfl) (by kernel_rfl) (by kernel_rfl) (fun _ _ _ h => h) (yieldsIf_load_mid (by rfl) 47 (.tmp 1) rfl (w.heap.size) 0 rfl _ _ (fun w' h' => h'.2) Tryz.underlying47 rfl (by kernel_rfl)) hS ?_
 simp only [Act.put, pA, pB, pC]
 refine wpAnyH_ready (rs := [2]) (by kernel_rfl) (by simp) ?_
 refine AllReadyH.cons (o := zo6_10_2) rfl (fun K hK => ?_) .nil
 refine step_call 9 #[.tmp 23] _ rfl rfl #[.agg #[.int .i64 p.session.setup.band, .slice A0 p.session.setup.temps.length Ak0, .int .i64 p.session.setup.points, .int .i64 p.session.setup.most, .int .i64 p.session.setup.pen, .slice A1 p.session.setup.entries.length Ak1, .int .i64 p.session.setup.dflt, .slice A2 p.session.setup.bigrams.length Ak2, .int .i64 p.session.setup.pause, .slice A3 p.session.strokes.length Ak3, .slice A4 p.session.opn.length Ak4, .int .i64 p.session.time, .slice A5 p.session.words.length Ak5, .slice A6 p.page.lines.length Ak6, .slice A7 p.page.done.length Ak7, .slice A8 p.page.undone.length Ak8]] Tryz.call9 (by go_simp) (toDesk_p _ h HP.out) ?_
 rintro e w7 ⟨u7, G7, rfl, r7, f7, b7⟩
 refine ⟨_, rfl, ?_⟩
 replace R := R.later b7
 replace X := X.later b7
 replace x := x.below b7
 replace c1 := bt c1 b7
 replace hS : (fun w' : World => w'.rangeAt w4.heap.size 0 [.int .i64 p.session.setup.band, .slice X0 p.session.setup.temps.length Xk0, .int .i64 p.session.setup.points, .int .i64 p.session.setup.most, .int .i64 p.session.setup.pen, .slice X1 p.session.setup.entries.length Xk1, .int .i64 p.session.setup.dflt, .slice X2 p.session.setup.bigrams.length Xk2, .int .i64 p.session.setup.pause, .slice X3 p.session.strokes.length Xk3, .slice X4 p.session.opn.length Xk4, .int .i64 p.session.time, .slice X5 p.session.words.length Xk5, .slice X6 p.page.lines.length Xk6, .slice X7 p.page.done.length Xk7, .slice X8 p.page.undone.length Xk8] ∧ w'.rangeAt w.heap.size 0 [.int .i64 p.session.setup.band, .slice A0 p.session.setup.temps.length Ak0, .int .i64 p.session.setup.points, .int .i64 p.session.setup.most, .int .i64 p.session.setup.pen, .slice A1 p.session.setup.entries.length Ak1, .int .i64 p.session.setup.dflt, .slice A2 p.session.setup.bigrams.length Ak2, .int .i64 p.session.setup.pause, .slice A3 p.session.strokes.length Ak3, .slice A4 p.session.opn.length Ak4, .int .i64 p.session.time, .slice A5 p.session.words.length Ak5, .slice A6 p.page.lines.length Ak6, .slice A7 p.page.done.length Ak7, .slice A8 p.page.undone.length Ak8]) w7 := ⟨X.range, R.range⟩
 dsimp only at hS
 refine hK.out _ _ ?_ (fun hHeld => ?_)
 · exact hS
 clear hK K hHeld
 simp only [Act.put, pA, pB, pC]
 refine wpAnyH_ready (rs := [3]) (by kernel_rfl) (by simp) ?_
 refine AllReadyH.cons (o := zo6_10_3) rfl (fun K hK => ?_) .nil
 refine step_call 11 #[.tmp 22, .tmp 24] _ rfl rfl #[.agg #[.int .i64 p.session.setup.band, .slice X0 p.session.setup.temps.length Xk0, .int .i64 p.session.setup.points, .int .i64 p.session.setup.most, .int .i64 p.session.setup.pen, .slice X1 p.session.setup.entries.length Xk1, .int .i64 p.session.setup.dflt, .slice X2 p.session.setup.bigrams.length Xk2, .int .i64 p.session.setup.pause, .slice X3 p.session.strokes.length Xk3, .slice X4 p.session.opn.length Xk4, .int .i64 p.session.time, .slice X5 p.session.words.length Xk5, .slice X6 p.page.lines.length Xk6, .slice X7 p.page.done.length Xk7, .slice X8 p.page.undone.length Xk8], u7] Tryz.call11 (by go_simp) (eqDesk_p _ x r7 HP.out HP.out) ?_
 rintro e w8 ⟨rfl, b8⟩
 refine ⟨_, rfl, ?_⟩
 replace R := R.later b8
 replace X := X.later b8
 replace c1 := bt c1 b8
 replace hS : (fun w' : World => w'.rangeAt w4.heap.size 0 [.int .i64 p.session.setup.band, .slice X0 p.session.setup.temps.length Xk0, .int .i64 p.session.setup.points, .int .i64 p.session.setup.most, .int .i64 p.session.setup.pen, .slice X1 p.session.setup.entries.length Xk1, .int .i64 p.session.setup.dflt, .slice X2 p.session.setup.bigrams.length Xk2, .int .i64 p.session.setup.pause, .slice X3 p.session.strokes.length Xk3, .slice X4 p.session.opn.length Xk4, .int .i64 p.session.time, .slice X5 p.session.words.length Xk5, .slice X6 p.page.lines.length Xk6, .slice X7 p.page.done.length Xk7, .slice X8 p.page.undone.length Xk8] ∧ w'.rangeAt w.heap.size 0 [.int .i64 p.session.setup.band, .slice A0 p.session.setup.temps.length Ak0, .int .i64 p.session.setup.points, .int .i64 p.session.setup.most, .int .i64 p.session.setup.pen, .slice A1 p.session.setup.entries.length Ak1, .int .i64 p.session.setup.dflt, .slice A2 p.session.setup.bigrams.length Ak2, .int .i64 p.session.setup.pause, .slice A3 p.session.strokes.length Ak3, .slice A4 p.session.opn.length Ak4, .int .i64 p.session.time, .slice A5 p.session.words.length Ak5, .slice A6 p.page.lines.length Ak6, .slice A7 p.page.done.length Ak7, .slice A8 p.page.undone.length Ak8]) w8 := ⟨X.range, R.range⟩
 dsimp only at hS
 refine hK.out _ _ ?_ (fun hHeld => ?_)
 · exact hS
 clear hK K hHeld
 simp only [Act.put, pA, pB, pC]
 refine tK (i := 4) (oi := zo6_10_4) (v := ?_) rfl (by kernel_rfl) (fun _ _ _ h => h) (Or.inl ⟨rfl, ?_⟩) hS ?_
 rotate_left
 · (intro w' hS'; (try dsimp only at hS'); dsimp only [zo6_10_4]; go_simp; try with_reducible rfl)
 simp only [Act.put, pA, pB, pC]
 refine wpAnyH_done (by kernel_rfl) ?_ _
 go_wp2_with fail
 go_ret
 exact ⟨rfl, c1⟩
end Go.Proofs.YtkfadfddhbpngaaGreat
