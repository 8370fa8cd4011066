/- The walk of the law FnExactNewDesk. Conditions: none. -/
import Derived.Test.YtkfadfddhbpngaaGreatDkNewv
import Derived.Test.YtkfadfddhbpngaaGreatDkMkPv
namespace Go.Proofs.YtkfadfddhbpngaaGreat
open Go Go.RowKit

theorem newDesk_small : DkSmall newDesk ∧ marksDesk newDesk ≤ 5000000 := by
 refine ⟨⟨⟨newSetup_small.1, by simp [newDesk, newSess], by simp [newDesk, newSess], by simp [newDesk, newSess], by simp [newDesk, newSess]⟩, newPage_small⟩, ?_⟩
 have := newPage_marks
 simp [marksDesk, marksSession, marksSetup, tempsIn, pointsIn, newDesk, newSess, newSetup, this]
set_option maxRecDepth 100000 in
set_option maxHeartbeats 4000000 in
theorem law_NewDesk (w : World) : Calls Tryz.prog 4 #[] w fun e w' => e = .returned (.bool true) ∧ Below w.heap.size w w' := by
 obtain ⟨hq, hm⟩ := newDesk_small
 have HS := Lib.hid (fun w => spec_NewDesk_p w)
 have HI := Lib.hid (fun w => impl_NewDesk_p w)
 generalize newDesk = d at *
 have HQ := Lib.hid hq
 have HM := Lib.hid hm
 have sd := sameDeskB_refl d
 have z3 : (((1 + marksDesk d : Nat) : Int) < 0) = False := by simp only [eq_iff_iff, iff_false]; omega
 have z4 : ((((1 + marksDesk d : Nat) : Int)) != ((1 + marksDesk d : Nat) : Int)) = false := by simp
 clear hq hm
 go_enter Tryz.func4, Tryz.ntmps4
 go_wp2_with fail
 refine (HS.out _).mono ?_
 rintro e w1 ⟨us, GS, rfl, s, fs, c⟩
 have cz := c.size
 obtain ⟨S0, Sk0, S1, Sk1, S2, Sk2, S3, Sk3, S4, Sk4, S5, Sk5, S6, Sk6, S7, Sk7, S8, Sk8, rfl⟩ := s.shape
 have RS := Row.new w1 73 #[.int .i64 d.session.setup.band, .slice S0 d.session.setup.temps.length Sk0, .int .i64 d.session.setup.points, .int .i64 d.session.setup.most, .int .i64 d.session.setup.pen, .slice S1 d.session.setup.entries.length Sk1, .int .i64 d.session.setup.dflt, .slice S2 d.session.setup.bigrams.length Sk2, .int .i64 d.session.setup.pause, .slice S3 d.session.strokes.length Sk3, .slice S4 d.session.opn.length Sk4, .int .i64 d.session.time, .slice S5 d.session.words.length Sk5, .slice S6 d.page.lines.length Sk6, .slice S7 d.page.done.length Sk7, .slice S8 d.page.undone.length Sk8]
 replace s := s.alloc (.cells #[.int .i64 d.session.setup.band, .slice S0 d.session.setup.temps.length Sk0, .int .i64 d.session.setup.points, .int .i64 d.session.setup.most, .int .i64 d.session.setup.pen, .slice S1 d.session.setup.entries.length Sk1, .int .i64 d.session.setup.dflt, .slice S2 d.session.setup.bigrams.length Sk2, .int .i64 d.session.setup.pause, .slice S3 d.session.strokes.length Sk3, .slice S4 d.session.opn.length Sk4, .int .i64 d.session.time, .slice S5 d.session.words.length Sk5, .slice S6 d.page.lines.length Sk6, .slice S7 d.page.done.length Sk7, .slice S8 d.page.undone.length Sk8] 73)
 replace c := c.alloc c.size (.cells #[.int .i64 d.session.setup.band, .slice S0 d.session.setup.temps.length Sk0, .int .i64 d.session.setup.points, .int .i64 d.session.setup.most, .int .i64 d.session.setup.pen, .slice S1 d.session.setup.entries.length Sk1, .int .i64 d.session.setup.dflt, .slice S2 d.session.setup.bigrams.length Sk2, .int .i64 d.session.setup.pause, .slice S3 d.session.strokes.length Sk3, .slice S4 d.session.opn.length Sk4, .int .i64 d.session.time, .slice S5 d.session.words.length Sk5, .slice S6 d.page.lines.length Sk6, .slice S7 d.page.done.length Sk7, .slice S8 d.page.undone.length Sk8] 73)
 have sb := s.blocks
 go_upto_region 2 with fail
 generalize hwa : w1.alloc (.cells #[.int .i64 d.session.setup.band, .slice S0 d.session.setup.temps.length Sk0, .int .i64 d.session.setup.points, .int .i64 d.session.setup.most, .int .i64 d.session.setup.pen, .slice S1 d.session.setup.entries.length Sk1, .int .i64 d.session.setup.dflt, .slice S2 d.session.setup.bigrams.length Sk2, .int .i64 d.session.setup.pause, .slice S3 d.session.strokes.length Sk3, .slice S4 d.session.opn.length Sk4, .int .i64 d.session.time, .slice S5 d.session.words.length Sk5, .slice S6 d.page.lines.length Sk6, .slice S7 d.page.done.length Sk7, .slice S8 d.page.undone.length Sk8] 73) = wa at *
 have sz1 : wa.heap.size = w1.heap.size + 1 := by rw [← hwa]; simp
 clear hwa
 go_wp2_with fail
 refine (HI.out _).mono ?_
 rintro e w2 ⟨ug, GG, rfl, g, fg, b2⟩
 replace RS := RS.later b2
 replace s := s.below b2
 replace c := bt c b2
 have gb := g.blocks
 obtain ⟨G0, Gk0, G1, Gk1, G2, Gk2, G3, Gk3, G4, Gk4, G5, Gk5, G6, Gk6, G7, Gk7, G8, Gk8, rfl⟩ := g.shape
 have RG := Row.new w2 73 #[.int .i64 d.session.setup.band, .slice G0 d.session.setup.temps.length Gk0, .int .i64 d.session.setup.points, .int .i64 d.session.setup.most, .int .i64 d.session.setup.pen, .slice G1 d.session.setup.entries.length Gk1, .int .i64 d.session.setup.dflt, .slice G2 d.session.setup.bigrams.length Gk2, .int .i64 d.session.setup.pause, .slice G3 d.session.strokes.length Gk3, .slice G4 d.session.opn.length Gk4, .int .i64 d.session.time, .slice G5 d.session.words.length Gk5, .slice G6 d.page.lines.length Gk6, .slice G7 d.page.done.length Gk7, .slice G8 d.page.undone.length Gk8]
 have lz2 := b2.size
 replace RS := RS.alloc (.cells #[.int .i64 d.session.setup.band, .slice G0 d.session.setup.temps.length Gk0, .int .i64 d.session.setup.points, .int .i64 d.session.setup.most, .int .i64 d.session.setup.pen, .slice G1 d.session.setup.entries.length Gk1, .int .i64 d.session.setup.dflt, .slice G2 d.session.setup.bigrams.length Gk2, .int .i64 d.session.setup.pause, .slice G3 d.session.strokes.length Gk3, .slice G4 d.session.opn.length Gk4, .int .i64 d.session.time, .slice G5 d.session.words.length Gk5, .slice G6 d.page.lines.length Gk6, .slice G7 d.page.done.length Gk7, .slice G8 d.page.undone.length Gk8] 73)
 replace s := s.alloc (.cells #[.int .i64 d.session.setup.band, .slice G0 d.session.setup.temps.length Gk0, .int .i64 d.session.setup.points, .int .i64 d.session.setup.most, .int .i64 d.session.setup.pen, .slice G1 d.session.setup.entries.length Gk1, .int .i64 d.session.setup.dflt, .slice G2 d.session.setup.bigrams.length Gk2, .int .i64 d.session.setup.pause, .slice G3 d.session.strokes.length Gk3, .slice G4 d.session.opn.length Gk4, .int .i64 d.session.time, .slice G5 d.session.words.length Gk5, .slice G6 d.page.lines.length Gk6, .slice G7 d.page.done.length Gk7, .slice G8 d.page.undone.length Gk8] 73)
 replace g := g.alloc (.cells #[.int .i64 d.session.setup.band, .slice G0 d.session.setup.temps.length Gk0, .int .i64 d.session.setup.points, .int .i64 d.session.setup.most, .int .i64 d.session.setup.pen, .slice G1 d.session.setup.entries.length Gk1, .int .i64 d.session.setup.dflt, .slice G2 d.session.setup.bigrams.length Gk2, .int .i64 d.session.setup.pause, .slice G3 d.session.strokes.length Gk3, .slice G4 d.session.opn.length Gk4, .int .i64 d.session.time, .slice G5 d.session.words.length Gk5, .slice G6 d.page.lines.length Gk6, .slice G7 d.page.done.length Gk7, .slice G8 d.page.undone.length Gk8] 73)
 replace c := c.alloc c.size (.cells #[.int .i64 d.session.setup.band, .slice G0 d.session.setup.temps.length Gk0, .int .i64 d.session.setup.points, .int .i64 d.session.setup.most, .int .i64 d.session.setup.pen, .slice G1 d.session.setup.entries.length Gk1, .int .i64 d.session.setup.dflt, .slice G2 d.session.setup.bigrams.length Gk2, .int .i64 d.session.setup.pause, .slice G3 d.session.strokes.length Gk3, .slice G4 d.session.opn.length Gk4, .int .i64 d.session.time, .slice G5 d.session.words.length Gk5, .slice G6 d.page.lines.length Gk6, .slice G7 d.page.done.length Gk7, .slice G8 d.page.undone.length Gk8] 73)
 go_upto_region 3 with fail
 generalize hwb : w2.alloc (.cells #[.int .i64 d.session.setup.band, .slice G0 d.session.setup.temps.length Gk0, .int .i64 d.session.setup.points, .int .i64 d.session.setup.most, .int .i64 d.session.setup.pen, .slice G1 d.session.setup.entries.length Gk1, .int .i64 d.session.setup.dflt, .slice G2 d.session.setup.bigrams.length Gk2, .int .i64 d.session.setup.pause, .slice G3 d.session.strokes.length Gk3, .slice G4 d.session.opn.length Gk4, .int .i64 d.session.time, .slice G5 d.session.words.length Gk5, .slice G6 d.page.lines.length Gk6, .slice G7 d.page.done.length Gk7, .slice G8 d.page.undone.length Gk8] 73) = wb at *
 have sz2 : wb.heap.size = w2.heap.size + 1 := by rw [← hwb]; simp
 clear hwb
 apply wp_region_lit
 refine wpList_load_mid rfl 73 (.tmp 2) rfl (w2.heap.size) 0 rfl _ _ (Row.range RG) Tryz.underlying73 rfl (by kernel_rfl) ?_
 refine wpList_load_mid rfl 73 (.tmp 1) rfl (w1.heap.size) 0 rfl _ _ (Row.range RS) Tryz.underlying73 rfl (by kernel_rfl) ?_
 go_wp2_with fail
 refine (eqDesk_p _ g s HQ.out HQ.out).mono ?_
 rintro e w3 ⟨rfl, b3⟩
 replace RS := RS.later b3
 replace RG := RG.later b3
 replace s := s.below b3
 replace g := g.below b3
 replace c := bt c b3
 go_upto_region 6 with fail
 apply wp_region_lit
 refine wpList_load_mid rfl 73 (.tmp 2) rfl (w2.heap.size) 0 rfl _ _ (Row.range RG) Tryz.underlying73 rfl (by kernel_rfl) ?_
 go_wp2_with fail
 refine (markDesk_p _ g fg.1 HQ.out (by have := HM.out; omega)).mono ?_
 rintro e w4 ⟨rfl, g4, o4⟩
 have fg2 := fg.2
 replace RS := RS.onl o4 (fun hin => by have := fg2 _ hin; omega)
 replace RG := RG.onl o4 (fun hin => by have := gb _ hin; omega)
 replace s := s.only o4 (fun b hb hin => by have := sb _ hb; have := fg2 _ hin; omega)
 replace c := c.trans (o4.below c.size (fun b hin => by have := fg2 _ hin; have := c.size; omega))
 clear g
 go_upto_region 8 with fail
 apply wp_region_lit
 refine wpList_load_mid rfl 73 (.tmp 2) rfl (w2.heap.size) 0 rfl _ _ (Row.range RG) Tryz.underlying73 rfl (by kernel_rfl) ?_
 go_wp2_with fail
 refine (heldDesk_p _ g4 HQ.out (by have := HM.out; omega)).mono ?_
 rintro e w5 ⟨rfl, b5⟩
 replace RS := RS.later b5
 replace RG := RG.later b5
 replace s := s.below b5
 replace g4 := g4.below b5
 replace c := bt c b5
 go_upto_region 13 with fail
 go_wp2_with fail
 refine (HI.out _).mono ?_
 rintro e w6 ⟨ut, GT, rfl, t, ft, b6⟩
 replace RS := RS.later b6
 replace RG := RG.later b6
 replace s := s.below b6
 replace g4 := g4.below b6
 replace c := bt c b6
 obtain ⟨T0, Tk0, T1, Tk1, T2, Tk2, T3, Tk3, T4, Tk4, T5, Tk5, T6, Tk6, T7, Tk7, T8, Tk8, rfl⟩ := t.shape
 have RT := Row.new w6 73 #[.int .i64 d.session.setup.band, .slice T0 d.session.setup.temps.length Tk0, .int .i64 d.session.setup.points, .int .i64 d.session.setup.most, .int .i64 d.session.setup.pen, .slice T1 d.session.setup.entries.length Tk1, .int .i64 d.session.setup.dflt, .slice T2 d.session.setup.bigrams.length Tk2, .int .i64 d.session.setup.pause, .slice T3 d.session.strokes.length Tk3, .slice T4 d.session.opn.length Tk4, .int .i64 d.session.time, .slice T5 d.session.words.length Tk5, .slice T6 d.page.lines.length Tk6, .slice T7 d.page.done.length Tk7, .slice T8 d.page.undone.length Tk8]
 replace RS := RS.alloc (.cells #[.int .i64 d.session.setup.band, .slice T0 d.session.setup.temps.length Tk0, .int .i64 d.session.setup.points, .int .i64 d.session.setup.most, .int .i64 d.session.setup.pen, .slice T1 d.session.setup.entries.length Tk1, .int .i64 d.session.setup.dflt, .slice T2 d.session.setup.bigrams.length Tk2, .int .i64 d.session.setup.pause, .slice T3 d.session.strokes.length Tk3, .slice T4 d.session.opn.length Tk4, .int .i64 d.session.time, .slice T5 d.session.words.length Tk5, .slice T6 d.page.lines.length Tk6, .slice T7 d.page.done.length Tk7, .slice T8 d.page.undone.length Tk8] 73)
 replace RG := RG.alloc (.cells #[.int .i64 d.session.setup.band, .slice T0 d.session.setup.temps.length Tk0, .int .i64 d.session.setup.points, .int .i64 d.session.setup.most, .int .i64 d.session.setup.pen, .slice T1 d.session.setup.entries.length Tk1, .int .i64 d.session.setup.dflt, .slice T2 d.session.setup.bigrams.length Tk2, .int .i64 d.session.setup.pause, .slice T3 d.session.strokes.length Tk3, .slice T4 d.session.opn.length Tk4, .int .i64 d.session.time, .slice T5 d.session.words.length Tk5, .slice T6 d.page.lines.length Tk6, .slice T7 d.page.done.length Tk7, .slice T8 d.page.undone.length Tk8] 73)
 replace s := s.alloc (.cells #[.int .i64 d.session.setup.band, .slice T0 d.session.setup.temps.length Tk0, .int .i64 d.session.setup.points, .int .i64 d.session.setup.most, .int .i64 d.session.setup.pen, .slice T1 d.session.setup.entries.length Tk1, .int .i64 d.session.setup.dflt, .slice T2 d.session.setup.bigrams.length Tk2, .int .i64 d.session.setup.pause, .slice T3 d.session.strokes.length Tk3, .slice T4 d.session.opn.length Tk4, .int .i64 d.session.time, .slice T5 d.session.words.length Tk5, .slice T6 d.page.lines.length Tk6, .slice T7 d.page.done.length Tk7, .slice T8 d.page.undone.length Tk8] 73)
 replace g4 := g4.alloc (.cells #[.int .i64 d.session.setup.band, .slice T0 d.session.setup.temps.length Tk0, .int .i64 d.session.setup.points, .int .i64 d.session.setup.most, .int .i64 d.session.setup.pen, .slice T1 d.session.setup.entries.length Tk1, .int .i64 d.session.setup.dflt, .slice T2 d.session.setup.bigrams.length Tk2, .int .i64 d.session.setup.pause, .slice T3 d.session.strokes.length Tk3, .slice T4 d.session.opn.length Tk4, .int .i64 d.session.time, .slice T5 d.session.words.length Tk5, .slice T6 d.page.lines.length Tk6, .slice T7 d.page.done.length Tk7, .slice T8 d.page.undone.length Tk8] 73)
 replace t := t.alloc (.cells #[.int .i64 d.session.setup.band, .slice T0 d.session.setup.temps.length Tk0, .int .i64 d.session.setup.points, .int .i64 d.session.setup.most, .int .i64 d.session.setup.pen, .slice T1 d.session.setup.entries.length Tk1, .int .i64 d.session.setup.dflt, .slice T2 d.session.setup.bigrams.length Tk2, .int .i64 d.session.setup.pause, .slice T3 d.session.strokes.length Tk3, .slice T4 d.session.opn.length Tk4, .int .i64 d.session.time, .slice T5 d.session.words.length Tk5, .slice T6 d.page.lines.length Tk6, .slice T7 d.page.done.length Tk7, .slice T8 d.page.undone.length Tk8] 73)
 replace c := c.alloc c.size (.cells #[.int .i64 d.session.setup.band, .slice T0 d.session.setup.temps.length Tk0, .int .i64 d.session.setup.points, .int .i64 d.session.setup.most, .int .i64 d.session.setup.pen, .slice T1 d.session.setup.entries.length Tk1, .int .i64 d.session.setup.dflt, .slice T2 d.session.setup.bigrams.length Tk2, .int .i64 d.session.setup.pause, .slice T3 d.session.strokes.length Tk3, .slice T4 d.session.opn.length Tk4, .int .i64 d.session.time, .slice T5 d.session.words.length Tk5, .slice T6 d.page.lines.length Tk6, .slice T7 d.page.done.length Tk7, .slice T8 d.page.undone.length Tk8] 73)
 go_upto_region 14 with fail
 generalize w6.alloc (.cells #[.int .i64 d.session.setup.band, .slice T0 d.session.setup.temps.length Tk0, .int .i64 d.session.setup.points, .int .i64 d.session.setup.most, .int .i64 d.session.setup.pen, .slice T1 d.session.setup.entries.length Tk1, .int .i64 d.session.setup.dflt, .slice T2 d.session.setup.bigrams.length Tk2, .int .i64 d.session.setup.pause, .slice T3 d.session.strokes.length Tk3, .slice T4 d.session.opn.length Tk4, .int .i64 d.session.time, .slice T5 d.session.words.length Tk5, .slice T6 d.page.lines.length Tk6, .slice T7 d.page.done.length Tk7, .slice T8 d.page.undone.length Tk8] 73) = wc at *
 apply wp_region_lit
 refine wpList_load_mid rfl 73 (.tmp 5) rfl (w6.heap.size) 0 rfl _ _ (Row.range RT) Tryz.underlying73 rfl (by kernel_rfl) ?_
 refine wpList_load_mid rfl 73 (.tmp 1) rfl (w1.heap.size) 0 rfl _ _ (Row.range RS) Tryz.underlying73 rfl (by kernel_rfl) ?_
 go_wp2_with fail
 refine (eqDesk_p _ t s HQ.out HQ.out).mono ?_
 rintro e w7 ⟨rfl, b7⟩
 replace RS := RS.later b7
 replace RG := RG.later b7
 replace s := s.below b7
 replace g4 := g4.below b7
 replace c := bt c b7
 go_upto_region 17 with fail
 apply wp_region_lit
 refine wpList_load_mid rfl 73 (.tmp 2) rfl (w2.heap.size) 0 rfl _ _ (Row.range RG) Tryz.underlying73 rfl (by kernel_rfl) ?_
 go_wp2_with fail
 refine (heldDesk_p _ g4 HQ.out (by have := HM.out; omega)).mono ?_
 rintro e w8 ⟨rfl, b8⟩
 go_wp2_with fail
 go_ret
 exact ⟨rfl, bt c b8⟩
end Go.Proofs.YtkfadfddhbpngaaGreat
