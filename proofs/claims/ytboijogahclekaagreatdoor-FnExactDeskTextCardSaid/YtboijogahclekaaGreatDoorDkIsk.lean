/- The law's own to, eq, sz over desks. Conditions: none. -/
import Derived.Test.YtboijogahclekaaGreatDoorPgPushk
import Derived.Test.YtboijogahclekaaGreatDoorWidek
namespace Go.Proofs.YtboijogahclekaaGreatDoor
open Go Go.RowKit
theorem onlyAt {F : List Nat} {w : World} {g : Nat} {e : TypeId} {cs : List Value} (_ : Row w g e cs) : Only F w w := Only.refl F w
set_option maxRecDepth 100000 in
set_option maxHeartbeats 8000000 in
theorem toDesk_p {I : DIds} {o : Bool} {p : PDesk} {v : Value} {F : List Nat} (w : World) (h : DeskIs I o w p v F) (hp : DkSmall p) : Calls Tryz.prog 6 #[v] w (GivesDesk p w) := by
 obtain ⟨A0, Ak0, A1, Ak1, A2, Ak2, A3, Ak3, A4, Ak4, A5, Ak5, A6, Ak6, A7, Ak7, A8, Ak8, rfl⟩ := h.shape
 have hF := h.blocks
 have R := ((Row.new w 47 #[.int .i64 p.session.setup.band, .slice A0 p.session.setup.temps.length Ak0, .int .i64 p.session.setup.points, .int .i64 p.session.setup.most, .int .i64 p.session.setup.pen, .slice A1 p.session.setup.entries.length Ak1, .int .i64 p.session.setup.dflt, .slice A2 p.session.setup.bigrams.length Ak2, .int .i64 p.session.setup.pause, .slice A3 p.session.strokes.length Ak3, .slice A4 p.session.opn.length Ak4, .int .i64 p.session.time, .slice A5 p.session.words.length Ak5, .slice A6 p.page.lines.length Ak6, .slice A7 p.page.done.length Ak7, .slice A8 p.page.undone.length Ak8]).alloc (.cells #[.int .i64 0, .slice none 0 0, .int .i64 0, .int .i64 0, .int .i64 0, .slice none 0 0, .int .i64 0, .slice none 0 0, .int .i64 0, .slice none 0 0, .slice none 0 0, .int .i64 0, .slice none 0 0, .slice none 0 0, .slice none 0 0, .slice none 0 0] 73)).alloc (.cells #[.int .i64 0, .slice none 0 0, .int .i64 0, .int .i64 0, .int .i64 0, .slice none 0 0, .int .i64 0, .slice none 0 0, .int .i64 0, .slice none 0 0, .slice none 0 0, .int .i64 0, .slice none 0 0, .slice none 0 0, .slice none 0 0, .slice none 0 0] 73)
 have O := (Row.new (w.alloc (.cells #[.int .i64 p.session.setup.band, .slice A0 p.session.setup.temps.length Ak0, .int .i64 p.session.setup.points, .int .i64 p.session.setup.most, .int .i64 p.session.setup.pen, .slice A1 p.session.setup.entries.length Ak1, .int .i64 p.session.setup.dflt, .slice A2 p.session.setup.bigrams.length Ak2, .int .i64 p.session.setup.pause, .slice A3 p.session.strokes.length Ak3, .slice A4 p.session.opn.length Ak4, .int .i64 p.session.time, .slice A5 p.session.words.length Ak5, .slice A6 p.page.lines.length Ak6, .slice A7 p.page.done.length Ak7, .slice A8 p.page.undone.length Ak8] 47)) 73 #[.int .i64 0, .slice none 0 0, .int .i64 0, .int .i64 0, .int .i64 0, .slice none 0 0, .int .i64 0, .slice none 0 0, .int .i64 0, .slice none 0 0, .slice none 0 0, .int .i64 0, .slice none 0 0, .slice none 0 0, .slice none 0 0, .slice none 0 0]).alloc (.cells #[.int .i64 0, .slice none 0 0, .int .i64 0, .int .i64 0, .int .i64 0, .slice none 0 0, .int .i64 0, .slice none 0 0, .int .i64 0, .slice none 0 0, .slice none 0 0, .int .i64 0, .slice none 0 0, .slice none 0 0, .slice none 0 0, .slice none 0 0] 73)
 have T := Row.new ((w.alloc (.cells #[.int .i64 p.session.setup.band, .slice A0 p.session.setup.temps.length Ak0, .int .i64 p.session.setup.points, .int .i64 p.session.setup.most, .int .i64 p.session.setup.pen, .slice A1 p.session.setup.entries.length Ak1, .int .i64 p.session.setup.dflt, .slice A2 p.session.setup.bigrams.length Ak2, .int .i64 p.session.setup.pause, .slice A3 p.session.strokes.length Ak3, .slice A4 p.session.opn.length Ak4, .int .i64 p.session.time, .slice A5 p.session.words.length Ak5, .slice A6 p.page.lines.length Ak6, .slice A7 p.page.done.length Ak7, .slice A8 p.page.undone.length Ak8] 47)).alloc (.cells #[.int .i64 0, .slice none 0 0, .int .i64 0, .int .i64 0, .int .i64 0, .slice none 0 0, .int .i64 0, .slice none 0 0, .int .i64 0, .slice none 0 0, .slice none 0 0, .int .i64 0, .slice none 0 0, .slice none 0 0, .slice none 0 0, .slice none 0 0] 73)) 73 #[.int .i64 0, .slice none 0 0, .int .i64 0, .int .i64 0, .int .i64 0, .slice none 0 0, .int .i64 0, .slice none 0 0, .int .i64 0, .slice none 0 0, .slice none 0 0, .int .i64 0, .slice none 0 0, .slice none 0 0, .slice none 0 0, .slice none 0 0]
 simp only [World.size_alloc] at O T
 have bb : Below w.heap.size w (((w.alloc (.cells #[.int .i64 p.session.setup.band, .slice A0 p.session.setup.temps.length Ak0, .int .i64 p.session.setup.points, .int .i64 p.session.setup.most, .int .i64 p.session.setup.pen, .slice A1 p.session.setup.entries.length Ak1, .int .i64 p.session.setup.dflt, .slice A2 p.session.setup.bigrams.length Ak2, .int .i64 p.session.setup.pause, .slice A3 p.session.strokes.length Ak3, .slice A4 p.session.opn.length Ak4, .int .i64 p.session.time, .slice A5 p.session.words.length Ak5, .slice A6 p.page.lines.length Ak6, .slice A7 p.page.done.length Ak7, .slice A8 p.page.undone.length Ak8] 47)).alloc (.cells #[.int .i64 0, .slice none 0 0, .int .i64 0, .int .i64 0, .int .i64 0, .slice none 0 0, .int .i64 0, .slice none 0 0, .int .i64 0, .slice none 0 0, .slice none 0 0, .int .i64 0, .slice none 0 0, .slice none 0 0, .slice none 0 0, .slice none 0 0] 73)).alloc (.cells #[.int .i64 0, .slice none 0 0, .int .i64 0, .int .i64 0, .int .i64 0, .slice none 0 0, .int .i64 0, .slice none 0 0, .int .i64 0, .slice none 0 0, .slice none 0 0, .int .i64 0, .slice none 0 0, .slice none 0 0, .slice none 0 0, .slice none 0 0] 73)) := (((Below.refl _ _).alloc (Nat.le_refl _) _).alloc (by simp) _).alloc (by simp; omega) _
 replace h := ((h.alloc (.cells #[.int .i64 p.session.setup.band, .slice A0 p.session.setup.temps.length Ak0, .int .i64 p.session.setup.points, .int .i64 p.session.setup.most, .int .i64 p.session.setup.pen, .slice A1 p.session.setup.entries.length Ak1, .int .i64 p.session.setup.dflt, .slice A2 p.session.setup.bigrams.length Ak2, .int .i64 p.session.setup.pause, .slice A3 p.session.strokes.length Ak3, .slice A4 p.session.opn.length Ak4, .int .i64 p.session.time, .slice A5 p.session.words.length Ak5, .slice A6 p.page.lines.length Ak6, .slice A7 p.page.done.length Ak7, .slice A8 p.page.undone.length Ak8] 47)).alloc (.cells #[.int .i64 0, .slice none 0 0, .int .i64 0, .int .i64 0, .int .i64 0, .slice none 0 0, .int .i64 0, .slice none 0 0, .int .i64 0, .slice none 0 0, .slice none 0 0, .int .i64 0, .slice none 0 0, .slice none 0 0, .slice none 0 0, .slice none 0 0] 73)).alloc (.cells #[.int .i64 0, .slice none 0 0, .int .i64 0, .int .i64 0, .int .i64 0, .slice none 0 0, .int .i64 0, .slice none 0 0, .int .i64 0, .slice none 0 0, .slice none 0 0, .int .i64 0, .slice none 0 0, .slice none 0 0, .slice none 0 0, .slice none 0 0] 73)
 obtain ⟨F1, F2, hFe, hs, hg⟩ := h.split
 clear h
 have nb : ∀ x ∈ F2, x ∉ [w.heap.size + 1 + 1] := fun x hx hin => by have := hF x (by rw [hFe]; simp [hx]); simp at hin; omega
 have szW : ((((w.alloc (.cells #[.int .i64 p.session.setup.band, .slice A0 p.session.setup.temps.length Ak0, .int .i64 p.session.setup.points, .int .i64 p.session.setup.most, .int .i64 p.session.setup.pen, .slice A1 p.session.setup.entries.length Ak1, .int .i64 p.session.setup.dflt, .slice A2 p.session.setup.bigrams.length Ak2, .int .i64 p.session.setup.pause, .slice A3 p.session.strokes.length Ak3, .slice A4 p.session.opn.length Ak4, .int .i64 p.session.time, .slice A5 p.session.words.length Ak5, .slice A6 p.page.lines.length Ak6, .slice A7 p.page.done.length Ak7, .slice A8 p.page.undone.length Ak8] 47)).alloc (.cells #[.int .i64 0, .slice none 0 0, .int .i64 0, .int .i64 0, .int .i64 0, .slice none 0 0, .int .i64 0, .slice none 0 0, .int .i64 0, .slice none 0 0, .slice none 0 0, .int .i64 0, .slice none 0 0, .slice none 0 0, .slice none 0 0, .slice none 0 0] 73)).alloc (.cells #[.int .i64 0, .slice none 0 0, .int .i64 0, .int .i64 0, .int .i64 0, .slice none 0 0, .int .i64 0, .slice none 0 0, .int .i64 0, .slice none 0 0, .slice none 0 0, .int .i64 0, .slice none 0 0, .slice none 0 0, .slice none 0 0, .slice none 0 0] 73))).heap.size = w.heap.size + 3 := by simp
 go_enter Tryz.func6, Tryz.ntmps6
 go_upto_region 2 with fail
 generalize ((w.alloc (.cells #[.int .i64 p.session.setup.band, .slice A0 p.session.setup.temps.length Ak0, .int .i64 p.session.setup.points, .int .i64 p.session.setup.most, .int .i64 p.session.setup.pen, .slice A1 p.session.setup.entries.length Ak1, .int .i64 p.session.setup.dflt, .slice A2 p.session.setup.bigrams.length Ak2, .int .i64 p.session.setup.pause, .slice A3 p.session.strokes.length Ak3, .slice A4 p.session.opn.length Ak4, .int .i64 p.session.time, .slice A5 p.session.words.length Ak5, .slice A6 p.page.lines.length Ak6, .slice A7 p.page.done.length Ak7, .slice A8 p.page.undone.length Ak8] 47)).alloc (.cells #[.int .i64 0, .slice none 0 0, .int .i64 0, .int .i64 0, .int .i64 0, .slice none 0 0, .int .i64 0, .slice none 0 0, .int .i64 0, .slice none 0 0, .slice none 0 0, .int .i64 0, .slice none 0 0, .slice none 0 0, .slice none 0 0, .slice none 0 0] 73)).alloc (.cells #[.int .i64 0, .slice none 0 0, .int .i64 0, .int .i64 0, .int .i64 0, .slice none 0 0, .int .i64 0, .slice none 0 0, .int .i64 0, .slice none 0 0, .slice none 0 0, .int .i64 0, .slice none 0 0, .slice none 0 0, .slice none 0 0, .slice none 0 0] 73) = W at *
 have r0 := R.c0
 have r1 := R.c1
 have r2 := R.c2
 have r3 := R.c3
 have r4 := R.c4
 have r5 := R.c5
 have r6 := R.cell' (i := 6) rfl
 have r7 := R.cell' (i := 7) rfl
 have r8 := R.cell' (i := 8) rfl
 have r9 := R.cell' (i := 9) rfl
 have r10 := R.cell' (i := 10) rfl
 have r11 := R.cell' (i := 11) rfl
 have r12 := R.cell' (i := 12) rfl
 have r13 := R.cell' (i := 13) rfl
 have r14 := R.cell' (i := 14) rfl
 have r15 := R.cell' (i := 15) rfl
 go_wp2_with fail
 refine (toSession_p _ hs hp.s).mono ?_
 rintro e w1 ⟨us, GS, rfl, s, fs, b1⟩
 obtain ⟨B0, Bk0, B1, Bk1, B2, Bk2, B3, Bk3, B4, Bk4, B5, Bk5, rfl⟩ := s.shape
 clear r0 r1 r2 r3 r4 r5 r6 r7 r8 r9 r10 r11 r12 r13 r14 r15
 replace R := R.later b1
 replace O := O.later b1
 replace T := T.later b1
 replace hg := hg.below b1
 replace bb := bt bb b1
 have z1 := b1.size
 have t0 := T.c0
 have t1 := T.c1
 have t2 := T.c2
 have t3 := T.c3
 have t4 := T.c4
 have t5 := T.c5
 have t6 := T.cell' (i := 6) rfl
 have t7 := T.cell' (i := 7) rfl
 have t8 := T.cell' (i := 8) rfl
 have t9 := T.cell' (i := 9) rfl
 have t10 := T.cell' (i := 10) rfl
 have t11 := T.cell' (i := 11) rfl
 have t12 := T.cell' (i := 12) rfl
 have r13 := R.cell' (i := 13) rfl
 have r14 := R.cell' (i := 14) rfl
 have r15 := R.cell' (i := 15) rfl
 have tf := T.frozen
 go_wp2_with fail
 have on1 := ((((((((((((((Only.refl [w.heap.size + 1 + 1] w1).set (p := ⟨w.heap.size + 1 + 1, 0, none⟩) (by simp) (.int .i64 p.session.setup.band)).set (p := ⟨w.heap.size + 1 + 1, 1, none⟩) (by simp) (.slice B0 p.session.setup.temps.length Bk0)).set (p := ⟨w.heap.size + 1 + 1, 2, none⟩) (by simp) (.int .i64 p.session.setup.points)).set (p := ⟨w.heap.size + 1 + 1, 3, none⟩) (by simp) (.int .i64 p.session.setup.most)).set (p := ⟨w.heap.size + 1 + 1, 4, none⟩) (by simp) (.int .i64 p.session.setup.pen)).set (p := ⟨w.heap.size + 1 + 1, 5, none⟩) (by simp) (.slice B1 p.session.setup.entries.length Bk1)).set (p := ⟨w.heap.size + 1 + 1, 6, none⟩) (by simp) (.int .i64 p.session.setup.dflt)).set (p := ⟨w.heap.size + 1 + 1, 7, none⟩) (by simp) (.slice B2 p.session.setup.bigrams.length Bk2)).set (p := ⟨w.heap.size + 1 + 1, 8, none⟩) (by simp) (.int .i64 p.session.setup.pause)).set (p := ⟨w.heap.size + 1 + 1, 9, none⟩) (by simp) (.slice B3 p.session.strokes.length Bk3)).set (p := ⟨w.heap.size + 1 + 1, 10, none⟩) (by simp) (.slice B4 p.session.opn.length Bk4)).set (p := ⟨w.heap.size + 1 + 1, 11, none⟩) (by simp) (.int .i64 p.session.time)).set (p := ⟨w.heap.size + 1 + 1, 12, none⟩) (by simp) (.slice B5 p.session.words.length Bk5))
 replace R := (((((((((((((R.far (p := ⟨w.heap.size + 1 + 1, 0, none⟩) (by simp <;> omega) (.int .i64 p.session.setup.band)).far (p := ⟨w.heap.size + 1 + 1, 1, none⟩) (by simp <;> omega) (.slice B0 p.session.setup.temps.length Bk0)).far (p := ⟨w.heap.size + 1 + 1, 2, none⟩) (by simp <;> omega) (.int .i64 p.session.setup.points)).far (p := ⟨w.heap.size + 1 + 1, 3, none⟩) (by simp <;> omega) (.int .i64 p.session.setup.most)).far (p := ⟨w.heap.size + 1 + 1, 4, none⟩) (by simp <;> omega) (.int .i64 p.session.setup.pen)).far (p := ⟨w.heap.size + 1 + 1, 5, none⟩) (by simp <;> omega) (.slice B1 p.session.setup.entries.length Bk1)).far (p := ⟨w.heap.size + 1 + 1, 6, none⟩) (by simp <;> omega) (.int .i64 p.session.setup.dflt)).far (p := ⟨w.heap.size + 1 + 1, 7, none⟩) (by simp <;> omega) (.slice B2 p.session.setup.bigrams.length Bk2)).far (p := ⟨w.heap.size + 1 + 1, 8, none⟩) (by simp <;> omega) (.int .i64 p.session.setup.pause)).far (p := ⟨w.heap.size + 1 + 1, 9, none⟩) (by simp <;> omega) (.slice B3 p.session.strokes.length Bk3)).far (p := ⟨w.heap.size + 1 + 1, 10, none⟩) (by simp <;> omega) (.slice B4 p.session.opn.length Bk4)).far (p := ⟨w.heap.size + 1 + 1, 11, none⟩) (by simp <;> omega) (.int .i64 p.session.time)).far (p := ⟨w.heap.size + 1 + 1, 12, none⟩) (by simp <;> omega) (.slice B5 p.session.words.length Bk5))
 replace O := (((((((((((((O.far (p := ⟨w.heap.size + 1 + 1, 0, none⟩) (by simp <;> omega) (.int .i64 p.session.setup.band)).far (p := ⟨w.heap.size + 1 + 1, 1, none⟩) (by simp <;> omega) (.slice B0 p.session.setup.temps.length Bk0)).far (p := ⟨w.heap.size + 1 + 1, 2, none⟩) (by simp <;> omega) (.int .i64 p.session.setup.points)).far (p := ⟨w.heap.size + 1 + 1, 3, none⟩) (by simp <;> omega) (.int .i64 p.session.setup.most)).far (p := ⟨w.heap.size + 1 + 1, 4, none⟩) (by simp <;> omega) (.int .i64 p.session.setup.pen)).far (p := ⟨w.heap.size + 1 + 1, 5, none⟩) (by simp <;> omega) (.slice B1 p.session.setup.entries.length Bk1)).far (p := ⟨w.heap.size + 1 + 1, 6, none⟩) (by simp <;> omega) (.int .i64 p.session.setup.dflt)).far (p := ⟨w.heap.size + 1 + 1, 7, none⟩) (by simp <;> omega) (.slice B2 p.session.setup.bigrams.length Bk2)).far (p := ⟨w.heap.size + 1 + 1, 8, none⟩) (by simp <;> omega) (.int .i64 p.session.setup.pause)).far (p := ⟨w.heap.size + 1 + 1, 9, none⟩) (by simp <;> omega) (.slice B3 p.session.strokes.length Bk3)).far (p := ⟨w.heap.size + 1 + 1, 10, none⟩) (by simp <;> omega) (.slice B4 p.session.opn.length Bk4)).far (p := ⟨w.heap.size + 1 + 1, 11, none⟩) (by simp <;> omega) (.int .i64 p.session.time)).far (p := ⟨w.heap.size + 1 + 1, 12, none⟩) (by simp <;> omega) (.slice B5 p.session.words.length Bk5))
 replace T := (((((((((((((T.set 0 (.int .i64 p.session.setup.band)).set 1 (.slice B0 p.session.setup.temps.length Bk0)).set 2 (.int .i64 p.session.setup.points)).set 3 (.int .i64 p.session.setup.most)).set 4 (.int .i64 p.session.setup.pen)).set 5 (.slice B1 p.session.setup.entries.length Bk1)).set 6 (.int .i64 p.session.setup.dflt)).set 7 (.slice B2 p.session.setup.bigrams.length Bk2)).set 8 (.int .i64 p.session.setup.pause)).set 9 (.slice B3 p.session.strokes.length Bk3)).set 10 (.slice B4 p.session.opn.length Bk4)).set 11 (.int .i64 p.session.time)).set 12 (.slice B5 p.session.words.length Bk5))
 replace hg := hg.only on1 nb
 replace s := s.only on1 (fun x hx hin => by have := fs.2 x hx; simp at hin; omega)
 replace bb := bb.trans (on1.below bb.size (fun x hx => by simp at hx; omega))
 have sb := s.blocks
 clear t0 t1 t2 t3 t4 t5 t6 t7 t8 t9 t10 t11 t12 r13 r14 r15 tf
 refine (toPage_c _ hg hp.p).mono ?_
 rintro e w2 ⟨ug, GG, rfl, g, fg, b2⟩
 obtain ⟨B6, Bk6, B7, Bk7, B8, Bk8, rfl⟩ := g.shape
 have FR := fresh_join (fs.mono (B' := w.heap.size) (by omega)) sb fg bb.size
 replace O := O.later b2
 replace T := T.later b2
 replace s := s.below b2
 replace bb := bt bb b2
 have z2 := b2.size
 have z0 := on1.size
 clear R hg
 have t13 := T.cell' (i := 13) rfl
 have t14 := T.cell' (i := 14) rfl
 have t15 := T.cell' (i := 15) rfl
 have tf := T.frozen
 go_upto_region 4 with fail
 have on2 := ((((Only.refl [w.heap.size + 1 + 1] w2).set (p := ⟨w.heap.size + 1 + 1, 13, none⟩) (by simp) (.slice B6 p.page.lines.length Bk6)).set (p := ⟨w.heap.size + 1 + 1, 14, none⟩) (by simp) (.slice B7 p.page.done.length Bk7)).set (p := ⟨w.heap.size + 1 + 1, 15, none⟩) (by simp) (.slice B8 p.page.undone.length Bk8))
 replace O := (((O.far (p := ⟨w.heap.size + 1 + 1, 13, none⟩) (by simp <;> omega) (.slice B6 p.page.lines.length Bk6)).far (p := ⟨w.heap.size + 1 + 1, 14, none⟩) (by simp <;> omega) (.slice B7 p.page.done.length Bk7)).far (p := ⟨w.heap.size + 1 + 1, 15, none⟩) (by simp <;> omega) (.slice B8 p.page.undone.length Bk8))
 replace T := (((T.set 13 (.slice B6 p.page.lines.length Bk6)).set 14 (.slice B7 p.page.done.length Bk7)).set 15 (.slice B8 p.page.undone.length Bk8))
 replace s := s.only on2 (fun x hx hin => by have := fs.2 x hx; simp at hin; omega)
 replace g := g.only on2 (fun x hx hin => by have := fg.2 x hx; simp at hin this; omega)
 replace bb := bb.trans (on2.below bb.size (fun x hx => by simp at hx; omega))
 clear t13 t14 t15 tf
 apply wp_region_lit
 refine wpList_load_mid rfl 73 (.tmp 3) rfl (w.heap.size + 1 + 1) 0 rfl _ _ (Row.range T) Tryz.underlying73 rfl (by kernel_rfl) ?_
 have oth := O.there
 refine wpList_store_mid rfl 73 (.tmp 2) (.tmp 12) rfl (w.heap.size + 1) 0 #[.int .i64 p.session.setup.band, .slice B0 p.session.setup.temps.length Bk0, .int .i64 p.session.setup.points, .int .i64 p.session.setup.most, .int .i64 p.session.setup.pen, .slice B1 p.session.setup.entries.length Bk1, .int .i64 p.session.setup.dflt, .slice B2 p.session.setup.bigrams.length Bk2, .int .i64 p.session.setup.pause, .slice B3 p.session.strokes.length Bk3, .slice B4 p.session.opn.length Bk4, .int .i64 p.session.time, .slice B5 p.session.words.length Bk5, .slice B6 p.page.lines.length Bk6, .slice B7 p.page.done.length Bk7, .slice B8 p.page.undone.length Bk8] rfl rfl oth (by kernel_rfl) (by simp [Value.oneCell']) ?_
 have onE := Only.setCells (b := w.heap.size + 1) (F := [w.heap.size + 1]) (by simp) [.int .i64 p.session.setup.band, .slice B0 p.session.setup.temps.length Bk0, .int .i64 p.session.setup.points, .int .i64 p.session.setup.most, .int .i64 p.session.setup.pen, .slice B1 p.session.setup.entries.length Bk1, .int .i64 p.session.setup.dflt, .slice B2 p.session.setup.bigrams.length Bk2, .int .i64 p.session.setup.pause, .slice B3 p.session.strokes.length Bk3, .slice B4 p.session.opn.length Bk4, .int .i64 p.session.time, .slice B5 p.session.words.length Bk5, .slice B6 p.page.lines.length Bk6, .slice B7 p.page.done.length Bk7, .slice B8 p.page.undone.length Bk8] 0 _ (onlyAt O)
 have TF := O.setCells (vs := [.int .i64 p.session.setup.band, .slice B0 p.session.setup.temps.length Bk0, .int .i64 p.session.setup.points, .int .i64 p.session.setup.most, .int .i64 p.session.setup.pen, .slice B1 p.session.setup.entries.length Bk1, .int .i64 p.session.setup.dflt, .slice B2 p.session.setup.bigrams.length Bk2, .int .i64 p.session.setup.pause, .slice B3 p.session.strokes.length Bk3, .slice B4 p.session.opn.length Bk4, .int .i64 p.session.time, .slice B5 p.session.words.length Bk5, .slice B6 p.page.lines.length Bk6, .slice B7 p.page.done.length Bk7, .slice B8 p.page.undone.length Bk8]) rfl
 have bE := bb.trans (onE.below bb.size (fun x hx => by simp at hx; omega))
 have q1 := s.only onE (fun x hx hin => by have := fs.2 x hx; simp at hin; omega)
 have q2 := g.only onE (fun x hx hin => by have := fg.2 x hx; simp at hin this; omega)
 simp only [Act.put, List.setIfInBounds_toArray, List.set_cons_zero, List.set_cons_succ]
 go_wp2_with fail
 exact bodyPost_ret (results_cell rfl rfl TF.range Tryz.underlying73 rfl (by kernel_rfl)) rfl ⟨_, _, rfl, DeskIs.join q1 q2, FR, bE⟩
set_option maxRecDepth 100000 in
set_option maxHeartbeats 8000000 in
theorem eqDesk_p {I J : DIds} {oa ob : Bool} {p q : PDesk} {v u : Value} {F G : List Nat} (w : World) (h : DeskIs I oa w p v F) (h' : DeskIs J ob w q u G) (hp : DkSmall p) (hq : DkSmall q) :
 Calls Tryz.prog 8 #[v, u] w fun e w' => e = .returned (.bool (sameDeskB p q)) ∧ Below w.heap.size w w' := by
 obtain ⟨A0, Ak0, A1, Ak1, A2, Ak2, A3, Ak3, A4, Ak4, A5, Ak5, A6, Ak6, A7, Ak7, A8, Ak8, rfl⟩ := h.shape
 obtain ⟨B0, Bk0, B1, Bk1, B2, Bk2, B3, Bk3, B4, Bk4, B5, Bk5, B6, Bk6, B7, Bk7, B8, Bk8, rfl⟩ := h'.shape
 have R := (Row.new w 73 #[.int .i64 p.session.setup.band, .slice A0 p.session.setup.temps.length Ak0, .int .i64 p.session.setup.points, .int .i64 p.session.setup.most, .int .i64 p.session.setup.pen, .slice A1 p.session.setup.entries.length Ak1, .int .i64 p.session.setup.dflt, .slice A2 p.session.setup.bigrams.length Ak2, .int .i64 p.session.setup.pause, .slice A3 p.session.strokes.length Ak3, .slice A4 p.session.opn.length Ak4, .int .i64 p.session.time, .slice A5 p.session.words.length Ak5, .slice A6 p.page.lines.length Ak6, .slice A7 p.page.done.length Ak7, .slice A8 p.page.undone.length Ak8]).alloc (.cells #[.int .i64 q.session.setup.band, .slice B0 q.session.setup.temps.length Bk0, .int .i64 q.session.setup.points, .int .i64 q.session.setup.most, .int .i64 q.session.setup.pen, .slice B1 q.session.setup.entries.length Bk1, .int .i64 q.session.setup.dflt, .slice B2 q.session.setup.bigrams.length Bk2, .int .i64 q.session.setup.pause, .slice B3 q.session.strokes.length Bk3, .slice B4 q.session.opn.length Bk4, .int .i64 q.session.time, .slice B5 q.session.words.length Bk5, .slice B6 q.page.lines.length Bk6, .slice B7 q.page.done.length Bk7, .slice B8 q.page.undone.length Bk8] 73)
 have Q := Row.new (w.alloc (.cells #[.int .i64 p.session.setup.band, .slice A0 p.session.setup.temps.length Ak0, .int .i64 p.session.setup.points, .int .i64 p.session.setup.most, .int .i64 p.session.setup.pen, .slice A1 p.session.setup.entries.length Ak1, .int .i64 p.session.setup.dflt, .slice A2 p.session.setup.bigrams.length Ak2, .int .i64 p.session.setup.pause, .slice A3 p.session.strokes.length Ak3, .slice A4 p.session.opn.length Ak4, .int .i64 p.session.time, .slice A5 p.session.words.length Ak5, .slice A6 p.page.lines.length Ak6, .slice A7 p.page.done.length Ak7, .slice A8 p.page.undone.length Ak8] 73)) 73 #[.int .i64 q.session.setup.band, .slice B0 q.session.setup.temps.length Bk0, .int .i64 q.session.setup.points, .int .i64 q.session.setup.most, .int .i64 q.session.setup.pen, .slice B1 q.session.setup.entries.length Bk1, .int .i64 q.session.setup.dflt, .slice B2 q.session.setup.bigrams.length Bk2, .int .i64 q.session.setup.pause, .slice B3 q.session.strokes.length Bk3, .slice B4 q.session.opn.length Bk4, .int .i64 q.session.time, .slice B5 q.session.words.length Bk5, .slice B6 q.page.lines.length Bk6, .slice B7 q.page.done.length Bk7, .slice B8 q.page.undone.length Bk8]
 simp only [World.size_alloc] at Q
 have bb : Below w.heap.size w ((w.alloc (.cells #[.int .i64 p.session.setup.band, .slice A0 p.session.setup.temps.length Ak0, .int .i64 p.session.setup.points, .int .i64 p.session.setup.most, .int .i64 p.session.setup.pen, .slice A1 p.session.setup.entries.length Ak1, .int .i64 p.session.setup.dflt, .slice A2 p.session.setup.bigrams.length Ak2, .int .i64 p.session.setup.pause, .slice A3 p.session.strokes.length Ak3, .slice A4 p.session.opn.length Ak4, .int .i64 p.session.time, .slice A5 p.session.words.length Ak5, .slice A6 p.page.lines.length Ak6, .slice A7 p.page.done.length Ak7, .slice A8 p.page.undone.length Ak8] 73)).alloc (.cells #[.int .i64 q.session.setup.band, .slice B0 q.session.setup.temps.length Bk0, .int .i64 q.session.setup.points, .int .i64 q.session.setup.most, .int .i64 q.session.setup.pen, .slice B1 q.session.setup.entries.length Bk1, .int .i64 q.session.setup.dflt, .slice B2 q.session.setup.bigrams.length Bk2, .int .i64 q.session.setup.pause, .slice B3 q.session.strokes.length Bk3, .slice B4 q.session.opn.length Bk4, .int .i64 q.session.time, .slice B5 q.session.words.length Bk5, .slice B6 q.page.lines.length Bk6, .slice B7 q.page.done.length Bk7, .slice B8 q.page.undone.length Bk8] 73)) := ((Below.refl _ _).alloc (Nat.le_refl _) _).alloc (by simp) _
 replace h := (h.alloc (.cells #[.int .i64 p.session.setup.band, .slice A0 p.session.setup.temps.length Ak0, .int .i64 p.session.setup.points, .int .i64 p.session.setup.most, .int .i64 p.session.setup.pen, .slice A1 p.session.setup.entries.length Ak1, .int .i64 p.session.setup.dflt, .slice A2 p.session.setup.bigrams.length Ak2, .int .i64 p.session.setup.pause, .slice A3 p.session.strokes.length Ak3, .slice A4 p.session.opn.length Ak4, .int .i64 p.session.time, .slice A5 p.session.words.length Ak5, .slice A6 p.page.lines.length Ak6, .slice A7 p.page.done.length Ak7, .slice A8 p.page.undone.length Ak8] 73)).alloc (.cells #[.int .i64 q.session.setup.band, .slice B0 q.session.setup.temps.length Bk0, .int .i64 q.session.setup.points, .int .i64 q.session.setup.most, .int .i64 q.session.setup.pen, .slice B1 q.session.setup.entries.length Bk1, .int .i64 q.session.setup.dflt, .slice B2 q.session.setup.bigrams.length Bk2, .int .i64 q.session.setup.pause, .slice B3 q.session.strokes.length Bk3, .slice B4 q.session.opn.length Bk4, .int .i64 q.session.time, .slice B5 q.session.words.length Bk5, .slice B6 q.page.lines.length Bk6, .slice B7 q.page.done.length Bk7, .slice B8 q.page.undone.length Bk8] 73)
 replace h' := (h'.alloc (.cells #[.int .i64 p.session.setup.band, .slice A0 p.session.setup.temps.length Ak0, .int .i64 p.session.setup.points, .int .i64 p.session.setup.most, .int .i64 p.session.setup.pen, .slice A1 p.session.setup.entries.length Ak1, .int .i64 p.session.setup.dflt, .slice A2 p.session.setup.bigrams.length Ak2, .int .i64 p.session.setup.pause, .slice A3 p.session.strokes.length Ak3, .slice A4 p.session.opn.length Ak4, .int .i64 p.session.time, .slice A5 p.session.words.length Ak5, .slice A6 p.page.lines.length Ak6, .slice A7 p.page.done.length Ak7, .slice A8 p.page.undone.length Ak8] 73)).alloc (.cells #[.int .i64 q.session.setup.band, .slice B0 q.session.setup.temps.length Bk0, .int .i64 q.session.setup.points, .int .i64 q.session.setup.most, .int .i64 q.session.setup.pen, .slice B1 q.session.setup.entries.length Bk1, .int .i64 q.session.setup.dflt, .slice B2 q.session.setup.bigrams.length Bk2, .int .i64 q.session.setup.pause, .slice B3 q.session.strokes.length Bk3, .slice B4 q.session.opn.length Bk4, .int .i64 q.session.time, .slice B5 q.session.words.length Bk5, .slice B6 q.page.lines.length Bk6, .slice B7 q.page.done.length Bk7, .slice B8 q.page.undone.length Bk8] 73)
 obtain ⟨F1, F2, -, hs, hg⟩ := h.split
 obtain ⟨G1, G2, -, ks, kg⟩ := h'.split
 clear h h'
 have CS := Lib.hid (fun w' (a : SessIs I.i oa w' p.session (.agg #[.int .i64 p.session.setup.band, .slice A0 p.session.setup.temps.length Ak0, .int .i64 p.session.setup.points, .int .i64 p.session.setup.most, .int .i64 p.session.setup.pen, .slice A1 p.session.setup.entries.length Ak1, .int .i64 p.session.setup.dflt, .slice A2 p.session.setup.bigrams.length Ak2, .int .i64 p.session.setup.pause, .slice A3 p.session.strokes.length Ak3, .slice A4 p.session.opn.length Ak4, .int .i64 p.session.time, .slice A5 p.session.words.length Ak5]) F1) (b : SessIs J.i ob w' q.session (.agg #[.int .i64 q.session.setup.band, .slice B0 q.session.setup.temps.length Bk0, .int .i64 q.session.setup.points, .int .i64 q.session.setup.most, .int .i64 q.session.setup.pen, .slice B1 q.session.setup.entries.length Bk1, .int .i64 q.session.setup.dflt, .slice B2 q.session.setup.bigrams.length Bk2, .int .i64 q.session.setup.pause, .slice B3 q.session.strokes.length Bk3, .slice B4 q.session.opn.length Bk4, .int .i64 q.session.time, .slice B5 q.session.words.length Bk5]) G1) => eqSession_p w' a b hp.s hq.s)
 have CG := Lib.hid (fun w' (a : PageIs I.ln I.sp oa w' p.page (.agg #[.slice A6 p.page.lines.length Ak6, .slice A7 p.page.done.length Ak7, .slice A8 p.page.undone.length Ak8]) F2) (b : PageIs J.ln J.sp ob w' q.page (.agg #[.slice B6 q.page.lines.length Bk6, .slice B7 q.page.done.length Bk7, .slice B8 q.page.undone.length Bk8]) G2) => eqPage_c w' a b hp.p hq.p)
 unfold sameDeskB
 generalize sameSessB p.session q.session = d0 at *
 generalize decide (p.page = q.page) = d1 at *
 go_enter Tryz.func8, Tryz.ntmps8
 go_wp2_with fail
 refine (CS.out _ hs ks).mono ?_
 rintro e w1 ⟨rfl, b1⟩
 replace bb := bt bb b1
 replace R := R.later b1
 replace Q := Q.later b1
 replace hg := hg.below b1
 replace kg := kg.below b1
 have qr13 := R.cell' (i := 13) rfl
 have qr14 := R.cell' (i := 14) rfl
 have qr15 := R.cell' (i := 15) rfl
 have qq13 := Q.cell' (i := 13) rfl
 have qq14 := Q.cell' (i := 14) rfl
 have qq15 := Q.cell' (i := 15) rfl
 cases d0
 · skip
   go_wp2_with fail
   go_ret
   first | exact ⟨rfl, bb⟩ | exact ⟨by simp, bb⟩
 go_wp2_with fail
 refine (CG.out _ hg kg).mono ?_
 rintro e w2 ⟨rfl, b2⟩
 replace bb := bt bb b2
 cases d1
 · skip
   go_wp2_with fail
   go_ret
   first | exact ⟨rfl, bb⟩ | exact ⟨by simp, bb⟩
 go_wp2_with fail
 go_ret
 first | exact ⟨rfl, bb⟩ | exact ⟨by simp, bb⟩
set_option maxRecDepth 100000 in
set_option maxHeartbeats 8000000 in
theorem szDesk_p {I : DIds} {o : Bool} {p : PDesk} {v : Value} {F : List Nat} (w : World) (h : DeskIs I o w p v F) (left : Int) (hl : 0 ≤ left ∧ left ≤ 1048576) :
 Calls Tryz.prog 4 #[v, .int .i64 left] w fun e w' => (∃ r : Int, e = .returned (.int .i64 r) ∧ r ≤ left ∧ (0 ≤ r → r + (szDk p : Nat) ≤ left)) ∧ Below w.heap.size w w' := by
 obtain ⟨A0, Ak0, A1, Ak1, A2, Ak2, A3, Ak3, A4, Ak4, A5, Ak5, A6, Ak6, A7, Ak7, A8, Ak8, rfl⟩ := h.shape
 have R := Row.new w 47 #[.int .i64 p.session.setup.band, .slice A0 p.session.setup.temps.length Ak0, .int .i64 p.session.setup.points, .int .i64 p.session.setup.most, .int .i64 p.session.setup.pen, .slice A1 p.session.setup.entries.length Ak1, .int .i64 p.session.setup.dflt, .slice A2 p.session.setup.bigrams.length Ak2, .int .i64 p.session.setup.pause, .slice A3 p.session.strokes.length Ak3, .slice A4 p.session.opn.length Ak4, .int .i64 p.session.time, .slice A5 p.session.words.length Ak5, .slice A6 p.page.lines.length Ak6, .slice A7 p.page.done.length Ak7, .slice A8 p.page.undone.length Ak8]
 have bb : Below w.heap.size w (w.alloc (.cells #[.int .i64 p.session.setup.band, .slice A0 p.session.setup.temps.length Ak0, .int .i64 p.session.setup.points, .int .i64 p.session.setup.most, .int .i64 p.session.setup.pen, .slice A1 p.session.setup.entries.length Ak1, .int .i64 p.session.setup.dflt, .slice A2 p.session.setup.bigrams.length Ak2, .int .i64 p.session.setup.pause, .slice A3 p.session.strokes.length Ak3, .slice A4 p.session.opn.length Ak4, .int .i64 p.session.time, .slice A5 p.session.words.length Ak5, .slice A6 p.page.lines.length Ak6, .slice A7 p.page.done.length Ak7, .slice A8 p.page.undone.length Ak8] 47)) := (Below.refl _ _).alloc (Nat.le_refl _) _
 replace h := h.alloc (.cells #[.int .i64 p.session.setup.band, .slice A0 p.session.setup.temps.length Ak0, .int .i64 p.session.setup.points, .int .i64 p.session.setup.most, .int .i64 p.session.setup.pen, .slice A1 p.session.setup.entries.length Ak1, .int .i64 p.session.setup.dflt, .slice A2 p.session.setup.bigrams.length Ak2, .int .i64 p.session.setup.pause, .slice A3 p.session.strokes.length Ak3, .slice A4 p.session.opn.length Ak4, .int .i64 p.session.time, .slice A5 p.session.words.length Ak5, .slice A6 p.page.lines.length Ak6, .slice A7 p.page.done.length Ak7, .slice A8 p.page.undone.length Ak8] 47)
 obtain ⟨F1, F2, -, hs, hg⟩ := h.split
 clear h
 unfold szDk
 go_enter Tryz.func4, Tryz.ntmps4
 go_wp2_with fail
 refine (szSession_p _ hs left hl).mono ?_
 rintro e w1 ⟨⟨l1, rfl, a1, c1⟩, b1⟩
 replace bb := bt bb b1
 replace R := R.later b1
 replace hg := hg.below b1
 by_cases n1 : l1 < 0
 · go_wp2_with fail
   go_ret
   exact ⟨⟨-1, rfl, by omega, by omega⟩, bb⟩
 have qr13 := R.cell' (i := 13) rfl
 have qr14 := R.cell' (i := 14) rfl
 have qr15 := R.cell' (i := 15) rfl
 go_wp2_with fail
 refine (szPage_c _ hg l1 (by omega)).mono ?_
 rintro e w2 ⟨⟨l2, rfl, a2, c2⟩, b2⟩
 replace bb := bt bb b2
 by_cases n2 : l2 < 0
 · go_wp2_with fail
   go_ret
   exact ⟨⟨-1, rfl, by omega, by omega⟩, bb⟩
 go_wp2_with fail
 go_ret
 exact ⟨⟨l2, rfl, by omega, by omega⟩, bb⟩
end Go.Proofs.YtboijogahclekaaGreatDoor
