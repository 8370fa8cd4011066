/- The law's own to, eq, sz over desks. Conditions: none. -/
import Derived.Test.YtkfadfddhbpngaaGreatDkPrv
import Derived.Test.YtkfadfddhbpngaaGreatWidev
namespace Go.Proofs.YtkfadfddhbpngaaGreat
open Go Go.RowKit

set_option maxRecDepth 100000 in
set_option maxHeartbeats 8000000 in
theorem eqDesk_p {I J : DIds} {oa ob : Bool} {p q : PDesk} {v u : Value} {F G : List Nat} (w : World) (h : DeskIs I oa w p v F) (h' : DeskIs J ob w q u G) (hp : DkSmall p) (hq : DkSmall q) :
 Calls Tryz.prog 11 #[v, u] w fun e w' => e = .returned (.bool (sameDeskB p q)) ∧ Below w.heap.size w w' := by
 obtain ⟨A0, Ak0, A1, Ak1, A2, Ak2, A3, Ak3, A4, Ak4, A5, Ak5, A6, Ak6, A7, Ak7, A8, Ak8, rfl⟩ := h.shape
 obtain ⟨B0, Bk0, B1, Bk1, B2, Bk2, B3, Bk3, B4, Bk4, B5, Bk5, B6, Bk6, B7, Bk7, B8, Bk8, rfl⟩ := h'.shape
 have R := (Row.new w 73 #[.int .i64 p.session.setup.band, .slice A0 p.session.setup.temps.length Ak0, .int .i64 p.session.setup.points, .int .i64 p.session.setup.most, .int .i64 p.session.setup.pen, .slice A1 p.session.setup.entries.length Ak1, .int .i64 p.session.setup.dflt, .slice A2 p.session.setup.bigrams.length Ak2, .int .i64 p.session.setup.pause, .slice A3 p.session.strokes.length Ak3, .slice A4 p.session.opn.length Ak4, .int .i64 p.session.time, .slice A5 p.session.words.length Ak5, .slice A6 p.page.lines.length Ak6, .slice A7 p.page.done.length Ak7, .slice A8 p.page.undone.length Ak8]).alloc (.cells #[.int .i64 q.session.setup.band, .slice B0 q.session.setup.temps.length Bk0, .int .i64 q.session.setup.points, .int .i64 q.session.setup.most, .int .i64 q.session.setup.pen, .slice B1 q.session.setup.entries.length Bk1, .int .i64 q.session.setup.dflt, .slice B2 q.session.setup.bigrams.length Bk2, .int .i64 q.session.setup.pause, .slice B3 q.session.strokes.length Bk3, .slice B4 q.session.opn.length Bk4, .int .i64 q.session.time, .slice B5 q.session.words.length Bk5, .slice B6 q.page.lines.length Bk6, .slice B7 q.page.done.length Bk7, .slice B8 q.page.undone.length Bk8] 73)
 have Q := Row.new (w.alloc (.cells #[.int .i64 p.session.setup.band, .slice A0 p.session.setup.temps.length Ak0, .int .i64 p.session.setup.points, .int .i64 p.session.setup.most, .int .i64 p.session.setup.pen, .slice A1 p.session.setup.entries.length Ak1, .int .i64 p.session.setup.dflt, .slice A2 p.session.setup.bigrams.length Ak2, .int .i64 p.session.setup.pause, .slice A3 p.session.strokes.length Ak3, .slice A4 p.session.opn.length Ak4, .int .i64 p.session.time, .slice A5 p.session.words.length Ak5, .slice A6 p.page.lines.length Ak6, .slice A7 p.page.done.length Ak7, .slice A8 p.page.undone.length Ak8] 73)) 73 #[.int .i64 q.session.setup.band, .slice B0 q.session.setup.temps.length Bk0, .int .i64 q.session.setup.points, .int .i64 q.session.setup.most, .int .i64 q.session.setup.pen, .slice B1 q.session.setup.entries.length Bk1, .int .i64 q.session.setup.dflt, .slice B2 q.session.setup.bigrams.length Bk2, .int .i64 q.session.setup.pause, .slice B3 q.session.strokes.length Bk3, .slice B4 q.session.opn.length Bk4, .int .i64 q.session.time, .slice B5 q.session.words.length Bk5, .slice B6 q.page.lines.length Bk6, .slice B7 q.page.done.length Bk7, .slice B8 q.page.undone.length Bk8]
 simp only [World.size_alloc] at Q
 have bb : Below w.heap.size w ((w.alloc (.cells #[.int .i64 p.session.setup.band, .slice A0 p.session.setup.temps.length Ak0, .int .i64 p.session.setup.points, .int .i64 p.session.setup.most, .int .i64 p.session.setup.pen, .slice A1 p.session.setup.entries.length Ak1, .int .i64 p.session.setup.dflt, .slice A2 p.session.setup.bigrams.length Ak2, .int .i64 p.session.setup.pause, .slice A3 p.session.strokes.length Ak3, .slice A4 p.session.opn.length Ak4, .int .i64 p.session.time, .slice A5 p.session.words.length Ak5, .slice A6 p.page.lines.length Ak6, .slice A7 p.page.done.length Ak7, .slice A8 p.page.undone.length Ak8] 73)).alloc (.cells #[.int .i64 q.session.setup.band, .slice B0 q.session.setup.temps.length Bk0, .int .i64 q.session.setup.points, .int .i64 q.session.setup.most, .int .i64 q.session.setup.pen, .slice B1 q.session.setup.entries.length Bk1, .int .i64 q.session.setup.dflt, .slice B2 q.session.setup.bigrams.length Bk2, .int .i64 q.session.setup.pause, .slice B3 q.session.strokes.length Bk3, .slice B4 q.session.opn.length Bk4, .int .i64 q.session.time, .slice B5 q.session.words.length Bk5, .slice B6 q.page.lines.length Bk6, .slice B7 q.page.done.length Bk7, .slice B8 q.page.undone.length Bk8] 73)) := ((Below.refl _ _).alloc (Nat.le_refl _) _).alloc (by simp) _
 replace h := (h.alloc (.cells #[.int .i64 p.session.setup.band, .slice A0 p.session.setup.temps.length Ak0, .int .i64 p.session.setup.points, .int .i64 p.session.setup.most, .int .i64 p.session.setup.pen, .slice A1 p.session.setup.entries.length Ak1, .int .i64 p.session.setup.dflt, .slice A2 p.session.setup.bigrams.length Ak2, .int .i64 p.session.setup.pause, .slice A3 p.session.strokes.length Ak3, .slice A4 p.session.opn.length Ak4, .int .i64 p.session.time, .slice A5 p.session.words.length Ak5, .slice A6 p.page.lines.length Ak6, .slice A7 p.page.done.length Ak7, .slice A8 p.page.undone.length Ak8] 73)).alloc (.cells #[.int .i64 q.session.setup.band, .slice B0 q.session.setup.temps.length Bk0, .int .i64 q.session.setup.points, .int .i64 q.session.setup.most, .int .i64 q.session.setup.pen, .slice B1 q.session.setup.entries.length Bk1, .int .i64 q.session.setup.dflt, .slice B2 q.session.setup.bigrams.length Bk2, .int .i64 q.session.setup.pause, .slice B3 q.session.strokes.length Bk3, .slice B4 q.session.opn.length Bk4, .int .i64 q.session.time, .slice B5 q.session.words.length Bk5, .slice B6 q.page.lines.length Bk6, .slice B7 q.page.done.length Bk7, .slice B8 q.page.undone.length Bk8] 73)
 replace h' := (h'.alloc (.cells #[.int .i64 p.session.setup.band, .slice A0 p.session.setup.temps.length Ak0, .int .i64 p.session.setup.points, .int .i64 p.session.setup.most, .int .i64 p.session.setup.pen, .slice A1 p.session.setup.entries.length Ak1, .int .i64 p.session.setup.dflt, .slice A2 p.session.setup.bigrams.length Ak2, .int .i64 p.session.setup.pause, .slice A3 p.session.strokes.length Ak3, .slice A4 p.session.opn.length Ak4, .int .i64 p.session.time, .slice A5 p.session.words.length Ak5, .slice A6 p.page.lines.length Ak6, .slice A7 p.page.done.length Ak7, .slice A8 p.page.undone.length Ak8] 73)).alloc (.cells #[.int .i64 q.session.setup.band, .slice B0 q.session.setup.temps.length Bk0, .int .i64 q.session.setup.points, .int .i64 q.session.setup.most, .int .i64 q.session.setup.pen, .slice B1 q.session.setup.entries.length Bk1, .int .i64 q.session.setup.dflt, .slice B2 q.session.setup.bigrams.length Bk2, .int .i64 q.session.setup.pause, .slice B3 q.session.strokes.length Bk3, .slice B4 q.session.opn.length Bk4, .int .i64 q.session.time, .slice B5 q.session.words.length Bk5, .slice B6 q.page.lines.length Bk6, .slice B7 q.page.done.length Bk7, .slice B8 q.page.undone.length Bk8] 73)
 obtain ⟨F1, F2, -, hs, hg⟩ := h.split
 obtain ⟨G1, G2, -, ks, kg⟩ := h'.split
 clear h h'
 have CS := Lib.hid (fun w' (a : SessIs I.i oa w' p.session (.agg #[.int .i64 p.session.setup.band, .slice A0 p.session.setup.temps.length Ak0, .int .i64 p.session.setup.points, .int .i64 p.session.setup.most, .int .i64 p.session.setup.pen, .slice A1 p.session.setup.entries.length Ak1, .int .i64 p.session.setup.dflt, .slice A2 p.session.setup.bigrams.length Ak2, .int .i64 p.session.setup.pause, .slice A3 p.session.strokes.length Ak3, .slice A4 p.session.opn.length Ak4, .int .i64 p.session.time, .slice A5 p.session.words.length Ak5]) F1) (b : SessIs J.i ob w' q.session (.agg #[.int .i64 q.session.setup.band, .slice B0 q.session.setup.temps.length Bk0, .int .i64 q.session.setup.points, .int .i64 q.session.setup.most, .int .i64 q.session.setup.pen, .slice B1 q.session.setup.entries.length Bk1, .int .i64 q.session.setup.dflt, .slice B2 q.session.setup.bigrams.length Bk2, .int .i64 q.session.setup.pause, .slice B3 q.session.strokes.length Bk3, .slice B4 q.session.opn.length Bk4, .int .i64 q.session.time, .slice B5 q.session.words.length Bk5]) G1) => eqSession_p w' a b hp.s hq.s)
 have CG := Lib.hid (fun w' (a : PageIs I.ln I.sp oa w' p.page (.agg #[.slice A6 p.page.lines.length Ak6, .slice A7 p.page.done.length Ak7, .slice A8 p.page.undone.length Ak8]) F2) (b : PageIs J.ln J.sp ob w' q.page (.agg #[.slice B6 q.page.lines.length Bk6, .slice B7 q.page.done.length Bk7, .slice B8 q.page.undone.length Bk8]) G2) => eqPage_c w' a b hp.p hq.p)
 unfold sameDeskB
 generalize sameSessB p.session q.session = d0 at *
 generalize decide (p.page = q.page) = d1 at *
 go_enter Tryz.func11, Tryz.ntmps11
 go_wp2_with fail
 refine (CS.out _ hs ks).mono ?_
 rintro e w1 ⟨rfl, b1⟩
 replace bb := bt bb b1
 replace R := R.later b1
 replace Q := Q.later b1
 replace hg := hg.below b1
 replace kg := kg.below b1
 have qr13 := R.cell' (i := 13) rfl
 have qr14 := R.cell' (i := 14) rfl
 have qr15 := R.cell' (i := 15) rfl
 have qq13 := Q.cell' (i := 13) rfl
 have qq14 := Q.cell' (i := 14) rfl
 have qq15 := Q.cell' (i := 15) rfl
 cases d0
 · skip
   go_wp2_with fail
   go_ret
   first | exact ⟨rfl, bb⟩ | exact ⟨by simp, bb⟩
 go_wp2_with fail
 refine (CG.out _ hg kg).mono ?_
 rintro e w2 ⟨rfl, b2⟩
 replace bb := bt bb b2
 cases d1
 · skip
   go_wp2_with fail
   go_ret
   first | exact ⟨rfl, bb⟩ | exact ⟨by simp, bb⟩
 go_wp2_with fail
 go_ret
 first | exact ⟨rfl, bb⟩ | exact ⟨by simp, bb⟩
end Go.Proofs.YtkfadfddhbpngaaGreat
