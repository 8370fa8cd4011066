/- ValidDesk of the program and of the reference. Conditions: none. -/
import Derived.Test.YtboijogahclekaaGreatDoorDkIsk
import Derived.Test.YtboijogahclekaaGreatDoorSsVk
import Derived.Test.YtboijogahclekaaGreatDoorSsRk
import Derived.Test.YtboijogahclekaaGreatDoorPgValidk
import Derived.Shelf.Strconv.Itoa0
import Derived.Shelf.Strconv.Itoa1
import Derived.Shelf.Strconv.Itoa2
import Derived.Shelf.Strconv.Itoa3
import Derived.Shelf.LaysM
import Derived.Test.YtboijogahclekaaGreatDoorLibk
import Derived.Test.YtboijogahclekaaGreatDoorProg
namespace Go.Proofs.YtboijogahclekaaGreatDoor
open Go Go.RowKit
def deskB (p : PDesk) : Bool := sessB p.session && validB p.page
set_option maxRecDepth 100000 in
set_option maxHeartbeats 4000000 in
theorem impl_ValidDesk_p {I : DIds} {o : Bool} {p : PDesk} {v : Value} {F : List Nat} (w : World) (h : DeskIs I o w p v F) (hp : DkSmall p) (hb : DkBytes p) :
 Calls Tryz.prog 15 #[v] w fun e w' => e = .returned (.bool (deskB p)) ∧ Below w.heap.size w w' := by
 obtain ⟨A0, Ak0, A1, Ak1, A2, Ak2, A3, Ak3, A4, Ak4, A5, Ak5, A6, Ak6, A7, Ak7, A8, Ak8, rfl⟩ := h.shape
 have R := Row.new w 73 #[.int .i64 p.session.setup.band, .slice A0 p.session.setup.temps.length Ak0, .int .i64 p.session.setup.points, .int .i64 p.session.setup.most, .int .i64 p.session.setup.pen, .slice A1 p.session.setup.entries.length Ak1, .int .i64 p.session.setup.dflt, .slice A2 p.session.setup.bigrams.length Ak2, .int .i64 p.session.setup.pause, .slice A3 p.session.strokes.length Ak3, .slice A4 p.session.opn.length Ak4, .int .i64 p.session.time, .slice A5 p.session.words.length Ak5, .slice A6 p.page.lines.length Ak6, .slice A7 p.page.done.length Ak7, .slice A8 p.page.undone.length Ak8]
 have bb : Below w.heap.size w (w.alloc (.cells #[.int .i64 p.session.setup.band, .slice A0 p.session.setup.temps.length Ak0, .int .i64 p.session.setup.points, .int .i64 p.session.setup.most, .int .i64 p.session.setup.pen, .slice A1 p.session.setup.entries.length Ak1, .int .i64 p.session.setup.dflt, .slice A2 p.session.setup.bigrams.length Ak2, .int .i64 p.session.setup.pause, .slice A3 p.session.strokes.length Ak3, .slice A4 p.session.opn.length Ak4, .int .i64 p.session.time, .slice A5 p.session.words.length Ak5, .slice A6 p.page.lines.length Ak6, .slice A7 p.page.done.length Ak7, .slice A8 p.page.undone.length Ak8] 73)) := (Below.refl _ _).alloc (Nat.le_refl _) _
 replace h := h.alloc (.cells #[.int .i64 p.session.setup.band, .slice A0 p.session.setup.temps.length Ak0, .int .i64 p.session.setup.points, .int .i64 p.session.setup.most, .int .i64 p.session.setup.pen, .slice A1 p.session.setup.entries.length Ak1, .int .i64 p.session.setup.dflt, .slice A2 p.session.setup.bigrams.length Ak2, .int .i64 p.session.setup.pause, .slice A3 p.session.strokes.length Ak3, .slice A4 p.session.opn.length Ak4, .int .i64 p.session.time, .slice A5 p.session.words.length Ak5, .slice A6 p.page.lines.length Ak6, .slice A7 p.page.done.length Ak7, .slice A8 p.page.undone.length Ak8] 73)
 obtain ⟨F1, F2, -, hs, hg⟩ := h.split
 clear h
 have CS := Lib.hid (fun w' (a : SessIs I.i o w' p.session (.agg #[.int .i64 p.session.setup.band, .slice A0 p.session.setup.temps.length Ak0, .int .i64 p.session.setup.points, .int .i64 p.session.setup.most, .int .i64 p.session.setup.pen, .slice A1 p.session.setup.entries.length Ak1, .int .i64 p.session.setup.dflt, .slice A2 p.session.setup.bigrams.length Ak2, .int .i64 p.session.setup.pause, .slice A3 p.session.strokes.length Ak3, .slice A4 p.session.opn.length Ak4, .int .i64 p.session.time, .slice A5 p.session.words.length Ak5]) F1) => impl_ValidSession_p w' a hp.s hb.s)
 have CG := Lib.hid (fun w' (a : PageIs I.ln I.sp o w' p.page (.agg #[.slice A6 p.page.lines.length Ak6, .slice A7 p.page.done.length Ak7, .slice A8 p.page.undone.length Ak8]) F2) => impl_ValidPage_c w' a hp.p hb.p.b)
 unfold deskB
 generalize sessB p.session = d0 at *
 generalize validB p.page = d1 at *
 go_enter Tryz.func15, Tryz.ntmps15
 go_wp2_with fail
 refine (CS.out _ hs).mono ?_
 rintro e w1 ⟨rfl, b1⟩
 replace bb := bt bb b1
 replace R := R.later b1
 replace hg := hg.below b1
 have qr13 := R.cell' (i := 13) rfl
 have qr14 := R.cell' (i := 14) rfl
 have qr15 := R.cell' (i := 15) rfl
 cases d0
 · skip
   go_wp2_with fail
   go_ret
   first | exact ⟨rfl, bb⟩ | exact ⟨by simp, bb⟩
 go_wp2_with fail
 refine (CG.out _ hg).mono ?_
 rintro e w2 ⟨rfl, b2⟩
 replace bb := bt bb b2
 go_wp2_with fail
 go_ret
 first | exact ⟨rfl, bb⟩ | exact ⟨by simp, bb⟩
set_option maxRecDepth 100000 in
set_option maxHeartbeats 4000000 in
theorem spec_l28Ok_c {I : DIds} {o : Bool} {p : PDesk} {A0 A1 A2 A3 A4 A5 A6 A7 A8 : Option Addr} {Ak0 Ak1 Ak2 Ak3 Ak4 Ak5 Ak6 Ak7 Ak8 : Nat} {F0 F1 F2 F3 F4 F5 F6 F7 F8 : List Nat} {g : Nat} {T : TypeId} (w : World) (R : Row w g T [.int .i64 p.session.setup.band, .slice A0 p.session.setup.temps.length Ak0, .int .i64 p.session.setup.points, .int .i64 p.session.setup.most, .int .i64 p.session.setup.pen, .slice A1 p.session.setup.entries.length Ak1, .int .i64 p.session.setup.dflt, .slice A2 p.session.setup.bigrams.length Ak2, .int .i64 p.session.setup.pause, .slice A3 p.session.strokes.length Ak3, .slice A4 p.session.opn.length Ak4, .int .i64 p.session.time, .slice A5 p.session.words.length Ak5, .slice A6 p.page.lines.length Ak6, .slice A7 p.page.done.length Ak7, .slice A8 p.page.undone.length Ak8]) (h1 : (pTemps I.i.ft I.i.tm).rep o w p.session.setup.temps [.slice A0 p.session.setup.temps.length Ak0] F0) (h2 : (pEntrys I.i.en).rep o w p.session.setup.entries [.slice A1 p.session.setup.entries.length Ak1] F1) (h3 : (pBigrams I.i.bg).rep o w p.session.setup.bigrams [.slice A2 p.session.setup.bigrams.length Ak2] F2) (h4 : (pStrokes I.i.pt I.i.st).rep o w p.session.strokes [.slice A3 p.session.strokes.length Ak3] F3) (h5 : (pPoints I.i.pt).rep o w p.session.opn [.slice A4 p.session.opn.length Ak4] F4) (h6 : (strs 9).rep o w p.session.words [.slice A5 p.session.words.length Ak5] F5) (h7 : (pLines I.ln).rep o w p.page.lines [.slice A6 p.page.lines.length Ak6] F6) (h8 : (pSteps I.sp).rep o w p.page.done [.slice A7 p.page.done.length Ak7] F7) (h9 : (pSteps I.sp).rep o w p.page.undone [.slice A8 p.page.undone.length Ak8] F8) (hp : DkSmall p) (hb : DkBytes p) :
 Calls Tryz.prog 11 #[.pointer (some ⟨g, 0, none⟩)] w fun e w' => e = .returned (.bool (deskB p)) ∧ Below w.heap.size w w' := by
 have bb : Below w.heap.size w w := Below.refl _ _
 have CS := Lib.hid (fun w' (R : Row w' g T [.int .i64 p.session.setup.band, .slice A0 p.session.setup.temps.length Ak0, .int .i64 p.session.setup.points, .int .i64 p.session.setup.most, .int .i64 p.session.setup.pen, .slice A1 p.session.setup.entries.length Ak1, .int .i64 p.session.setup.dflt, .slice A2 p.session.setup.bigrams.length Ak2, .int .i64 p.session.setup.pause, .slice A3 p.session.strokes.length Ak3, .slice A4 p.session.opn.length Ak4, .int .i64 p.session.time, .slice A5 p.session.words.length Ak5, .slice A6 p.page.lines.length Ak6, .slice A7 p.page.done.length Ak7, .slice A8 p.page.undone.length Ak8]) (h1 : (pTemps I.i.ft I.i.tm).rep o w' p.session.setup.temps [.slice A0 p.session.setup.temps.length Ak0] F0) (h2 : (pEntrys I.i.en).rep o w' p.session.setup.entries [.slice A1 p.session.setup.entries.length Ak1] F1) (h3 : (pBigrams I.i.bg).rep o w' p.session.setup.bigrams [.slice A2 p.session.setup.bigrams.length Ak2] F2) (h4 : (pStrokes I.i.pt I.i.st).rep o w' p.session.strokes [.slice A3 p.session.strokes.length Ak3] F3) (h5 : (pPoints I.i.pt).rep o w' p.session.opn [.slice A4 p.session.opn.length Ak4] F4) (h6 : (strs 9).rep o w' p.session.words [.slice A5 p.session.words.length Ak5] F5) => spec_l26Ok_c (I := I.i) (q := p.session) (more := [.slice A6 p.page.lines.length Ak6, .slice A7 p.page.done.length Ak7, .slice A8 p.page.undone.length Ak8]) w' R h1 h2 h3 h4 h5 h6 hp.s hb.s)
 have CG := Lib.hid (fun w' (gl : g < w'.heap.size) (p0 : w'.cell? ⟨g, 13, none⟩ = some (.slice A6 p.page.lines.length Ak6)) (p1 : w'.cell? ⟨g, 13 + 1, none⟩ = some (.slice A7 p.page.done.length Ak7)) (p2 : w'.cell? ⟨g, 13 + 2, none⟩ = some (.slice A8 p.page.undone.length Ak8)) (h7 : (pLines I.ln).rep o w' p.page.lines [.slice A6 p.page.lines.length Ak6] F6) (h8 : (pSteps I.sp).rep o w' p.page.done [.slice A7 p.page.done.length Ak7] F7) (h9 : (pSteps I.sp).rep o w' p.page.undone [.slice A8 p.page.undone.length Ak8] F8) => spec_l27OkF_c (p := p.page) (f := 13) w' gl p0 p1 p2 h7 h8 h9 hp.p hb.p.b)
 unfold deskB
 generalize sessB p.session = d0 at *
 generalize validB p.page = d1 at *
 go_enter Tryz.func11, Tryz.ntmps11
 go_wp2_with fail
 refine (CS.out _ R h1 h2 h3 h4 h5 h6).mono ?_
 rintro e w1 ⟨rfl, b1⟩
 replace bb := bt bb b1
 replace R := R.later b1
 replace h7 := h7.below b1
 replace h8 := h8.below b1
 replace h9 := h9.below b1
 cases d0
 · skip
   go_wp2_with fail
   go_ret
   first | exact ⟨rfl, bb⟩ | exact ⟨by simp, bb⟩
 go_wp2_with fail
 refine (CG.out _ R.lt (R.cell' (i := 13) rfl) (R.cell' (i := 14) rfl) (R.cell' (i := 15) rfl) h7 h8 h9).mono ?_
 rintro e w2 ⟨rfl, b2⟩
 replace bb := bt bb b2
 go_wp2_with fail
 go_ret
 first | exact ⟨rfl, bb⟩ | exact ⟨by simp, bb⟩
end Go.Proofs.YtboijogahclekaaGreatDoor
namespace Go.Proofs.YtboijogahclekaaGreatDoor
open Go Go.Shelf Go.RowKit
def laysM246_ren : Go.Shelf.Ren := ⟨fun | 246 => 84 | 283 => 122 | 284 => 123 | 285 => 124 | 286 => 125 | 129 => 157 | 317 => 156 | 318 => 158 | 319 => 159 | 320 => 160 | 337 => 178 | 338 => 179 | n => n, fun | 2 => 2 | 3 => 3 | 9 => 9 | 4 => 4 | 171 => 212 | 0 => 0 | 53 => 213 | 37 => 111 | 5 => 5 | 173 => 216 | 212 => 261 | 51 => 262 | 20 => 20 | 213 => 263 | 46 => 265 | 232 => 287 | 233 => 288 | n => n, fun | 17 => 0 | 18 => 2 | 19 => 3 | n => n⟩
theorem laysM246 : Go.Proofs.LaysM.n246 Tryz.prog laysM246_ren := {
 mixed := by kernel_rfl
 f129 := Tryz.func157.trans (congrArg some (by kernel_rfl))
 f246 := Tryz.func84.trans (congrArg some (by kernel_rfl))
 f283 := Tryz.func122.trans (congrArg some (by kernel_rfl))
 f284 := Tryz.func123.trans (congrArg some (by kernel_rfl))
 f285 := Tryz.func124.trans (congrArg some (by kernel_rfl))
 f286 := Tryz.func125.trans (congrArg some (by kernel_rfl))
 f317 := Tryz.func156.trans (congrArg some (by kernel_rfl))
 f318 := Tryz.func158.trans (congrArg some (by kernel_rfl))
 f319 := Tryz.func159.trans (congrArg some (by kernel_rfl))
 f320 := Tryz.func160.trans (congrArg some (by kernel_rfl))
 f337 := Tryz.func178.trans (congrArg some (by kernel_rfl))
 f338 := Tryz.func179.trans (congrArg some (by kernel_rfl))
 t0 := Tryz.underlying0
 a0 := Tryz.isAgg0
 z0 := Tryz.sizeOf0
 v0 := Tryz.zeroValue0
 t2 := Tryz.underlying2
 a2 := Tryz.isAgg2
 z2 := Tryz.sizeOf2
 v2 := Tryz.zeroValue2
 t3 := Tryz.underlying3
 a3 := Tryz.isAgg3
 z3 := Tryz.sizeOf3
 v3 := Tryz.zeroValue3
 t4 := Tryz.underlying4
 a4 := Tryz.isAgg4
 z4 := Tryz.sizeOf4
 v4 := Tryz.zeroValue4
 t5 := Tryz.underlying5
 a5 := Tryz.isAgg5
 z5 := Tryz.sizeOf5
 v5 := Tryz.zeroValue5
 t9 := Tryz.underlying9
 a9 := Tryz.isAgg9
 z9 := Tryz.sizeOf9
 v9 := Tryz.zeroValue9
 t20 := Tryz.underlying20
 a20 := Tryz.isAgg20
 z20 := Tryz.sizeOf20
 v20 := Tryz.zeroValue20
 t37 := Tryz.underlying111
 a37 := Tryz.isAgg111
 z37 := Tryz.sizeOf111
 v37 := Tryz.zeroValue111
 t46 := Tryz.underlying265
 a46 := Tryz.isAgg265
 z46 := Tryz.sizeOf265
 v46 := Tryz.zeroValue265
 t51 := Tryz.underlying262
 a51 := Tryz.isAgg262
 z51 := Tryz.sizeOf262
 v51 := Tryz.zeroValue262
 t53 := Tryz.underlying213
 a53 := Tryz.isAgg213
 z53 := Tryz.sizeOf213
 v53 := Tryz.zeroValue213
 t171 := Tryz.underlying212
 a171 := Tryz.isAgg212
 z171 := Tryz.sizeOf212
 v171 := Tryz.zeroValue212
 t173 := Tryz.underlying216
 a173 := Tryz.isAgg216
 z173 := Tryz.sizeOf216
 v173 := Tryz.zeroValue216
 t212 := Tryz.underlying261
 a212 := Tryz.isAgg261
 z212 := Tryz.sizeOf261
 v212 := Tryz.zeroValue261
 t213 := Tryz.underlying263
 a213 := Tryz.isAgg263
 z213 := Tryz.sizeOf263
 t232 := Tryz.underlying287
 a232 := Tryz.isAgg287
 z232 := Tryz.sizeOf287
 v232 := Tryz.zeroValue287
 t233 := Tryz.underlying288
 a233 := Tryz.isAgg288
 z233 := Tryz.sizeOf288
 v233 := Tryz.zeroValue288
 g17 := by kernel_rfl
 g18 := by kernel_rfl
 g19 := by kernel_rfl
 i0 := by kernel_rfl
 i2 := by kernel_rfl
 i3 := by kernel_rfl
 i4 := by kernel_rfl
 i5 := by kernel_rfl
 i9 := by kernel_rfl
 i20 := by kernel_rfl
 i37 := by kernel_rfl
 i46 := by kernel_rfl
 i51 := by kernel_rfl
 i53 := by kernel_rfl
 i171 := by kernel_rfl
 i173 := by kernel_rfl
 i212 := by kernel_rfl
 i232 := by kernel_rfl
 i233 := by kernel_rfl
 m17 := by kernel_rfl
 m18 := by kernel_rfl
 m19 := by kernel_rfl }
open Go.RowKit Go.Sort Go.Lib in
theorem FormatInt10_c (n : Int) (h0 : -9223372036854775808 ≤ n) (h1 : n ≤ 9223372036854775807) (w : World) (htab : Lib.TabIs Tryz.prog w "internal/strconv.uint64pow10" .u64 Lib.pow10Tab) :
 Calls Tryz.prog 84 #[.int .i64 n, .int .i64 10] w fun e w' => e = .returned (.string ⟨(Lib.itoa n).toArray⟩) ∧ ∃ k os, w' = grow (w.drewN k) os := Any.internal_strconv_FormatInt_10 laysM246 n h0 h1 w htab
end Go.Proofs.YtboijogahclekaaGreatDoor
