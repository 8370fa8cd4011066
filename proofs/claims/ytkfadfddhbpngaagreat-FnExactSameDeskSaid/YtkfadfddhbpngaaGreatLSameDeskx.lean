/- The walk of the law FnExactSameDesk. Conditions: none. -/
import Derived.Test.YtkfadfddhbpngaaGreatTkx
import Derived.Test.YtkfadfddhbpngaaGreatWidex
import Derived.Test.YtkfadfddhbpngaaGreatDkSamex
import Derived.Test.YtkfadfddhbpngaaGreatTakeCallx
namespace Go.Proofs.YtkfadfddhbpngaaGreat
open Go Go.RowKit
abbrev zo3_8_1 : Oper := { dst := some 21, op := .call { callee := .value (.func 9), args := #[.tmp 20], argTypes := #[47] }, type := 73, pos := "exact.go:12543", after := #[{ on := 0, ground := .data }], guard := none }
abbrev zo3_8_3 : Oper := { dst := some 23, op := .call { callee := .value (.func 9), args := #[.tmp 22], argTypes := #[47] }, type := 73, pos := "exact.go:12543", after := #[{ on := 2, ground := .data }, { on := 1, ground := .chain }], guard := none }
abbrev zo3_8_4 : Oper := { dst := some 24, op := .call { callee := .value (.func 8), args := #[.tmp 21, .tmp 23], argTypes := #[73, 73] }, type := 4, pos := "exact.go:12543", after := #[{ on := 1, ground := .data }, { on := 3, ground := .data }, { on := 3, ground := .chain }], guard := none }
abbrev zo3_8_5 : Oper := { dst := some 6, op := .assign (.tmp 24), type := 4, pos := "exact.go:12543", after := #[{ on := 4, ground := .data }, { on := 4, ground := .chain }, { on := 0, ground := .phase }, { on := 1, ground := .phase }, { on := 2, ground := .phase }, { on := 3, ground := .phase }, { on := 4, ground := .phase }], guard := none }
abbrev zo3_14_2 : Oper := { dst := some 37, op := .call { callee := .value (.func 9), args := #[.tmp 36], argTypes := #[47] }, type := 73, pos := "exact.go:12550", after := #[{ on := 1, ground := .data }], guard := none }
abbrev zo3_14_3 : Oper := { dst := some 38, op := .call { callee := .value (.func 11), args := #[.tmp 35, .tmp 37], argTypes := #[73, 73] }, type := 4, pos := "exact.go:12550", after := #[{ on := 0, ground := .data }, { on := 2, ground := .data }, { on := 2, ground := .chain }], guard := none }
abbrev zo3_14_4 : Oper := { dst := some 39, op := .unOp .not 4 (.tmp 38), type := 4, pos := "exact.go:12550", after := #[{ on := 3, ground := .data }], guard := none }
abbrev zo3_16_2 : Oper := { dst := some 42, op := .call { callee := .value (.func 9), args := #[.tmp 41], argTypes := #[47] }, type := 73, pos := "exact.go:12553", after := #[{ on := 1, ground := .data }], guard := none }
abbrev zo3_16_3 : Oper := { dst := some 43, op := .call { callee := .value (.func 11), args := #[.tmp 40, .tmp 42], argTypes := #[73, 73] }, type := 4, pos := "exact.go:12553", after := #[{ on := 0, ground := .data }, { on := 2, ground := .data }, { on := 2, ground := .chain }], guard := none }
abbrev zo3_16_4 : Oper := { dst := some 44, op := .unOp .not 4 (.tmp 43), type := 4, pos := "exact.go:12553", after := #[{ on := 3, ground := .data }], guard := none }

set_option maxRecDepth 100000 in
set_option maxHeartbeats 8000000 in
theorem law_SameDesk {I J : DIds} {p q : PDesk} {v u : Value} {F G : List Nat} (w : World) (h : DeskIs I false w p v F) (h' : DeskIs J false w q u G) :
 Calls Tryz.prog 3 #[v, u] w fun e w' => e = .returned (.bool true) ∧ Below w.heap.size w w' := by
 obtain ⟨A0, Ak0, A1, Ak1, A2, Ak2, A3, Ak3, A4, Ak4, A5, Ak5, A6, Ak6, A7, Ak7, A8, Ak8, rfl⟩ := h.shape
 obtain ⟨B0, Bk0, B1, Bk1, B2, Bk2, B3, Bk3, B4, Bk4, B5, Bk5, B6, Bk6, B7, Bk7, B8, Bk8, rfl⟩ := h'.shape
 have R := (Row.new w 47 #[.int .i64 p.session.setup.band, .slice A0 p.session.setup.temps.length Ak0, .int .i64 p.session.setup.points, .int .i64 p.session.setup.most, .int .i64 p.session.setup.pen, .slice A1 p.session.setup.entries.length Ak1, .int .i64 p.session.setup.dflt, .slice A2 p.session.setup.bigrams.length Ak2, .int .i64 p.session.setup.pause, .slice A3 p.session.strokes.length Ak3, .slice A4 p.session.opn.length Ak4, .int .i64 p.session.time, .slice A5 p.session.words.length Ak5, .slice A6 p.page.lines.length Ak6, .slice A7 p.page.done.length Ak7, .slice A8 p.page.undone.length Ak8]).alloc (.cells #[.int .i64 q.session.setup.band, .slice B0 q.session.setup.temps.length Bk0, .int .i64 q.session.setup.points, .int .i64 q.session.setup.most, .int .i64 q.session.setup.pen, .slice B1 q.session.setup.entries.length Bk1, .int .i64 q.session.setup.dflt, .slice B2 q.session.setup.bigrams.length Bk2, .int .i64 q.session.setup.pause, .slice B3 q.session.strokes.length Bk3, .slice B4 q.session.opn.length Bk4, .int .i64 q.session.time, .slice B5 q.session.words.length Bk5, .slice B6 q.page.lines.length Bk6, .slice B7 q.page.done.length Bk7, .slice B8 q.page.undone.length Bk8] 47)
 have Q := Row.new (w.alloc (.cells #[.int .i64 p.session.setup.band, .slice A0 p.session.setup.temps.length Ak0, .int .i64 p.session.setup.points, .int .i64 p.session.setup.most, .int .i64 p.session.setup.pen, .slice A1 p.session.setup.entries.length Ak1, .int .i64 p.session.setup.dflt, .slice A2 p.session.setup.bigrams.length Ak2, .int .i64 p.session.setup.pause, .slice A3 p.session.strokes.length Ak3, .slice A4 p.session.opn.length Ak4, .int .i64 p.session.time, .slice A5 p.session.words.length Ak5, .slice A6 p.page.lines.length Ak6, .slice A7 p.page.done.length Ak7, .slice A8 p.page.undone.length Ak8] 47)) 47 #[.int .i64 q.session.setup.band, .slice B0 q.session.setup.temps.length Bk0, .int .i64 q.session.setup.points, .int .i64 q.session.setup.most, .int .i64 q.session.setup.pen, .slice B1 q.session.setup.entries.length Bk1, .int .i64 q.session.setup.dflt, .slice B2 q.session.setup.bigrams.length Bk2, .int .i64 q.session.setup.pause, .slice B3 q.session.strokes.length Bk3, .slice B4 q.session.opn.length Bk4, .int .i64 q.session.time, .slice B5 q.session.words.length Bk5, .slice B6 q.page.lines.length Bk6, .slice B7 q.page.done.length Bk7, .slice B8 q.page.undone.length Bk8]
 simp only [World.size_alloc] at Q
 have c : Below w.heap.size w ((w.alloc (.cells #[.int .i64 p.session.setup.band, .slice A0 p.session.setup.temps.length Ak0, .int .i64 p.session.setup.points, .int .i64 p.session.setup.most, .int .i64 p.session.setup.pen, .slice A1 p.session.setup.entries.length Ak1, .int .i64 p.session.setup.dflt, .slice A2 p.session.setup.bigrams.length Ak2, .int .i64 p.session.setup.pause, .slice A3 p.session.strokes.length Ak3, .slice A4 p.session.opn.length Ak4, .int .i64 p.session.time, .slice A5 p.session.words.length Ak5, .slice A6 p.page.lines.length Ak6, .slice A7 p.page.done.length Ak7, .slice A8 p.page.undone.length Ak8] 47)).alloc (.cells #[.int .i64 q.session.setup.band, .slice B0 q.session.setup.temps.length Bk0, .int .i64 q.session.setup.points, .int .i64 q.session.setup.most, .int .i64 q.session.setup.pen, .slice B1 q.session.setup.entries.length Bk1, .int .i64 q.session.setup.dflt, .slice B2 q.session.setup.bigrams.length Bk2, .int .i64 q.session.setup.pause, .slice B3 q.session.strokes.length Bk3, .slice B4 q.session.opn.length Bk4, .int .i64 q.session.time, .slice B5 q.session.words.length Bk5, .slice B6 q.page.lines.length Bk6, .slice B7 q.page.done.length Bk7, .slice B8 q.page.undone.length Bk8] 47)) := ((Below.refl _ _).alloc (Nat.le_refl _) _).alloc (by simp) _
 replace h := (h.alloc (.cells #[.int .i64 p.session.setup.band, .slice A0 p.session.setup.temps.length Ak0, .int .i64 p.session.setup.points, .int .i64 p.session.setup.most, .int .i64 p.session.setup.pen, .slice A1 p.session.setup.entries.length Ak1, .int .i64 p.session.setup.dflt, .slice A2 p.session.setup.bigrams.length Ak2, .int .i64 p.session.setup.pause, .slice A3 p.session.strokes.length Ak3, .slice A4 p.session.opn.length Ak4, .int .i64 p.session.time, .slice A5 p.session.words.length Ak5, .slice A6 p.page.lines.length Ak6, .slice A7 p.page.done.length Ak7, .slice A8 p.page.undone.length Ak8] 47)).alloc (.cells #[.int .i64 q.session.setup.band, .slice B0 q.session.setup.temps.length Bk0, .int .i64 q.session.setup.points, .int .i64 q.session.setup.most, .int .i64 q.session.setup.pen, .slice B1 q.session.setup.entries.length Bk1, .int .i64 q.session.setup.dflt, .slice B2 q.session.setup.bigrams.length Bk2, .int .i64 q.session.setup.pause, .slice B3 q.session.strokes.length Bk3, .slice B4 q.session.opn.length Bk4, .int .i64 q.session.time, .slice B5 q.session.words.length Bk5, .slice B6 q.page.lines.length Bk6, .slice B7 q.page.done.length Bk7, .slice B8 q.page.undone.length Bk8] 47)
 replace h' := (h'.alloc (.cells #[.int .i64 p.session.setup.band, .slice A0 p.session.setup.temps.length Ak0, .int .i64 p.session.setup.points, .int .i64 p.session.setup.most, .int .i64 p.session.setup.pen, .slice A1 p.session.setup.entries.length Ak1, .int .i64 p.session.setup.dflt, .slice A2 p.session.setup.bigrams.length Ak2, .int .i64 p.session.setup.pause, .slice A3 p.session.strokes.length Ak3, .slice A4 p.session.opn.length Ak4, .int .i64 p.session.time, .slice A5 p.session.words.length Ak5, .slice A6 p.page.lines.length Ak6, .slice A7 p.page.done.length Ak7, .slice A8 p.page.undone.length Ak8] 47)).alloc (.cells #[.int .i64 q.session.setup.band, .slice B0 q.session.setup.temps.length Bk0, .int .i64 q.session.setup.points, .int .i64 q.session.setup.most, .int .i64 q.session.setup.pen, .slice B1 q.session.setup.entries.length Bk1, .int .i64 q.session.setup.dflt, .slice B2 q.session.setup.bigrams.length Bk2, .int .i64 q.session.setup.pause, .slice B3 q.session.strokes.length Bk3, .slice B4 q.session.opn.length Bk4, .int .i64 q.session.time, .slice B5 q.session.words.length Bk5, .slice B6 q.page.lines.length Bk6, .slice B7 q.page.done.length Bk7, .slice B8 q.page.undone.length Bk8] 47)
 go_enter Tryz.func3, Tryz.ntmps3
 go_upto_region 2 with fail
 generalize (w.alloc (.cells #[.int .i64 p.session.setup.band, .slice A0 p.session.setup.temps.length Ak0, .int .i64 p.session.setup.points, .int .i64 p.session.setup.most, .int .i64 p.session.setup.pen, .slice A1 p.session.setup.entries.length Ak1, .int .i64 p.session.setup.dflt, .slice A2 p.session.setup.bigrams.length Ak2, .int .i64 p.session.setup.pause, .slice A3 p.session.strokes.length Ak3, .slice A4 p.session.opn.length Ak4, .int .i64 p.session.time, .slice A5 p.session.words.length Ak5, .slice A6 p.page.lines.length Ak6, .slice A7 p.page.done.length Ak7, .slice A8 p.page.undone.length Ak8] 47)).alloc (.cells #[.int .i64 q.session.setup.band, .slice B0 q.session.setup.temps.length Bk0, .int .i64 q.session.setup.points, .int .i64 q.session.setup.most, .int .i64 q.session.setup.pen, .slice B1 q.session.setup.entries.length Bk1, .int .i64 q.session.setup.dflt, .slice B2 q.session.setup.bigrams.length Bk2, .int .i64 q.session.setup.pause, .slice B3 q.session.strokes.length Bk3, .slice B4 q.session.opn.length Bk4, .int .i64 q.session.time, .slice B5 q.session.words.length Bk5, .slice B6 q.page.lines.length Bk6, .slice B7 q.page.done.length Bk7, .slice B8 q.page.undone.length Bk8] 47) = wa at *
 apply wp_region_lit
 refine wpList_load_mid rfl 47 (.tmp 2) rfl (w.heap.size) 0 rfl _ _ (Row.range R) Tryz.underlying47 rfl (by kernel_rfl) ?_
 go_wp2_with fail
 refine (szDesk_p _ h 1048576 (by omega)).mono ?_
 rintro e w0 ⟨⟨r, rfl, hr1, hr⟩, b0⟩
 replace R := R.later b0
 replace Q := Q.later b0
 replace h := h.below b0
 replace h' := h'.below b0
 replace c := bt c b0
 by_cases hz0 : r < 0
 · go_wp2_with fail
   go_ret
   exact ⟨rfl, c⟩
 go_upto_region 5 with fail
 apply wp_region_lit
 refine wpList_load_mid rfl 47 (.tmp 3) rfl (w.heap.size + 1) 0 rfl _ _ (Row.range Q) Tryz.underlying47 rfl (by kernel_rfl) ?_
 go_wp2_with fail
 refine (szDesk_p _ h' r (by omega)).mono ?_
 rintro e w1 ⟨⟨r2, rfl, hs1, hs⟩, b1⟩
 replace R := R.later b1
 replace Q := Q.later b1
 replace h := h.below b1
 replace h' := h'.below b1
 replace c := bt c b1
 by_cases hz1 : r2 < 0
 · go_wp2_with fail
   go_ret
   exact ⟨rfl, c⟩
 have hp := (DkSmall.of (q := p) (by have := hr (by omega); omega)).1
 have hq := (DkSmall.of (q := q) (by have := hr (by omega); have := hs (by omega); omega)).1
 have HS := Lib.hid (fun (w : World) (v u : Value) (F G : List Nat) (h : DeskIs didsI true w p v F) (h' : DeskIs didsI true w q u G) => spec_SameDesk_p w h h' hp hq)
 have HI := Lib.hid (fun (w : World) (v u : Value) (F G : List Nat) (h : DeskIs didsI true w p v F) (h' : DeskIs didsI true w q u G) => impl_SameDesk_p w h h' hp hq)
 have HP := Lib.hid hp
 have HQ := Lib.hid hq
 have sp := sameDeskB_refl p
 have sq := sameDeskB_refl q
 clear hr hs hp hq hr1 hs1
 generalize sameDeskB p q = d at HS HI
 have z1 : (d != d) = false := by simp
 go_upto_region 8 with fail
 have hS : (fun w' : World => w'.rangeAt w.heap.size 0 [.int .i64 p.session.setup.band, .slice A0 p.session.setup.temps.length Ak0, .int .i64 p.session.setup.points, .int .i64 p.session.setup.most, .int .i64 p.session.setup.pen, .slice A1 p.session.setup.entries.length Ak1, .int .i64 p.session.setup.dflt, .slice A2 p.session.setup.bigrams.length Ak2, .int .i64 p.session.setup.pause, .slice A3 p.session.strokes.length Ak3, .slice A4 p.session.opn.length Ak4, .int .i64 p.session.time, .slice A5 p.session.words.length Ak5, .slice A6 p.page.lines.length Ak6, .slice A7 p.page.done.length Ak7, .slice A8 p.page.undone.length Ak8] ∧ w'.rangeAt (w.heap.size + 1) 0 [.int .i64 q.session.setup.band, .slice B0 q.session.setup.temps.length Bk0, .int .i64 q.session.setup.points, .int .i64 q.session.setup.most, .int .i64 q.session.setup.pen, .slice B1 q.session.setup.entries.length Bk1, .int .i64 q.session.setup.dflt, .slice B2 q.session.setup.bigrams.length Bk2, .int .i64 q.session.setup.pause, .slice B3 q.session.strokes.length Bk3, .slice B4 q.session.opn.length Bk4, .int .i64 q.session.time, .slice B5 q.session.words.length Bk5, .slice B6 q.page.lines.length Bk6, .slice B7 q.page.done.length Bk7, .slice B8 q.page.undone.length Bk8]) w1.drew := ⟨R.drew.range, Q.drew.range⟩
 dsimp only at hS
 refine wp_region_held_drew (S := (fun w' : World => w'.rangeAt w.heap.size 0 [.int .i64 p.session.setup.band, .slice A0 p.session.setup.temps.length Ak0, .int .i64 p.session.setup.points, .int .i64 p.session.setup.most, .int .i64 p.session.setup.pen, .slice A1 p.session.setup.entries.length Ak1, .int .i64 p.session.setup.dflt, .slice A2 p.session.setup.bigrams.length Ak2, .int .i64 p.session.setup.pause, .slice A3 p.session.strokes.length Ak3, .slice A4 p.session.opn.length Ak4, .int .i64 p.session.time, .slice A5 p.session.words.length Ak5, .slice A6 p.page.lines.length Ak6, .slice A7 p.page.done.length Ak7, .slice A8 p.page.undone.length Ak8] ∧ w'.rangeAt (w.heap.size + 1) 0 [.int .i64 q.session.setup.band, .slice B0 q.session.setup.temps.length Bk0, .int .i64 q.session.setup.points, .int .i64 q.session.setup.most, .int .i64 q.session.setup.pen, .slice B1 q.session.setup.entries.length Bk1, .int .i64 q.session.setup.dflt, .slice B2 q.session.setup.bigrams.length Bk2, .int .i64 q.session.setup.pause, .slice B3 q.session.strokes.length Bk3, .slice B4 q.session.opn.length Bk4, .int .i64 q.session.time, .slice B5 q.session.words.length Bk5, .slice B6 q.page.lines.length Bk6, .slice B7 q.page.done.length Bk7, .slice B8 q.page.undone.length Bk8])) (by kernel_rfl) hS (fun _ => ?_)
 refine wpAnyH_take (i := 0) (oi := { dst := some 20, op := .load 47 (.tmp 2), type := 47, pos := "exact.go:12543", after := #[], guard := none }) (v := _) rfl (by kernel_rfl) (by kernel_rfl) (by kernel_rfl) (fun _ _ _ h => h) (yieldsIf_load_mid (by rfl) 47 (.tmp 2) rfl (w.heap.size) 0 rfl _ _ (fun w' h' => h'.1) Tryz.underlying47 rfl (by kernel_rfl)) hS ?_
 simp only [Act.put, pA, pB, pC]
 refine wpAnyH_take (i := 2) (oi := { dst := some 22, op := .load 47 (.tmp 3), type := 47, pos := "exact.go:12543", after := #[], guard := none }) (v := _) rfl (by kernel_rfl) (by kernel_rfl) (by kernel_rfl) (fun _ _ _ h => h) (yieldsIf_load_mid (by rfl) 47 (.tmp 3) rfl (w.heap.size + 1) 0 rfl _ _ (fun w' h' => h'.2) Tryz.underlying47 rfl (by kernel_rfl)) hS ?_
 simp only [Act.put, pA, pB, pC]
 refine wpAnyH_ready (rs := [1]) (by kernel_rfl) (by simp) ?_
 refine AllReadyH.cons (o := zo3_8_1) rfl (fun K hK => ?_) .nil
 refine step_call 9 #[.tmp 20] _ rfl rfl #[.agg #[.int .i64 p.session.setup.band, .slice A0 p.session.setup.temps.length Ak0, .int .i64 p.session.setup.points, .int .i64 p.session.setup.most, .int .i64 p.session.setup.pen, .slice A1 p.session.setup.entries.length Ak1, .int .i64 p.session.setup.dflt, .slice A2 p.session.setup.bigrams.length Ak2, .int .i64 p.session.setup.pause, .slice A3 p.session.strokes.length Ak3, .slice A4 p.session.opn.length Ak4, .int .i64 p.session.time, .slice A5 p.session.words.length Ak5, .slice A6 p.page.lines.length Ak6, .slice A7 p.page.done.length Ak7, .slice A8 p.page.undone.length Ak8]] Tryz.call9 (by go_simp) (toDesk_p _ h.drew HP.out) ?_
 rintro e w2 ⟨u2, G2, rfl, r2, f2, b2⟩
 refine ⟨_, rfl, ?_⟩
 replace R := R.drew.later b2
 replace Q := Q.drew.later b2
 replace h := h.drew.below b2
 replace h' := h'.drew.below b2
 replace c := bt c.drew b2
 replace hS : (fun w' : World => w'.rangeAt w.heap.size 0 [.int .i64 p.session.setup.band, .slice A0 p.session.setup.temps.length Ak0, .int .i64 p.session.setup.points, .int .i64 p.session.setup.most, .int .i64 p.session.setup.pen, .slice A1 p.session.setup.entries.length Ak1, .int .i64 p.session.setup.dflt, .slice A2 p.session.setup.bigrams.length Ak2, .int .i64 p.session.setup.pause, .slice A3 p.session.strokes.length Ak3, .slice A4 p.session.opn.length Ak4, .int .i64 p.session.time, .slice A5 p.session.words.length Ak5, .slice A6 p.page.lines.length Ak6, .slice A7 p.page.done.length Ak7, .slice A8 p.page.undone.length Ak8] ∧ w'.rangeAt (w.heap.size + 1) 0 [.int .i64 q.session.setup.band, .slice B0 q.session.setup.temps.length Bk0, .int .i64 q.session.setup.points, .int .i64 q.session.setup.most, .int .i64 q.session.setup.pen, .slice B1 q.session.setup.entries.length Bk1, .int .i64 q.session.setup.dflt, .slice B2 q.session.setup.bigrams.length Bk2, .int .i64 q.session.setup.pause, .slice B3 q.session.strokes.length Bk3, .slice B4 q.session.opn.length Bk4, .int .i64 q.session.time, .slice B5 q.session.words.length Bk5, .slice B6 q.page.lines.length Bk6, .slice B7 q.page.done.length Bk7, .slice B8 q.page.undone.length Bk8]) w2 := ⟨R.range, Q.range⟩
 dsimp only at hS
 refine hK.out _ _ ?_ (fun hHeld => ?_)
 · exact hS
 clear hK K hHeld
 simp only [Act.put, pA, pB, pC]
 refine wpAnyH_ready (rs := [3]) (by kernel_rfl) (by simp) ?_
 refine AllReadyH.cons (o := zo3_8_3) rfl (fun K hK => ?_) .nil
 refine step_call 9 #[.tmp 22] _ rfl rfl #[.agg #[.int .i64 q.session.setup.band, .slice B0 q.session.setup.temps.length Bk0, .int .i64 q.session.setup.points, .int .i64 q.session.setup.most, .int .i64 q.session.setup.pen, .slice B1 q.session.setup.entries.length Bk1, .int .i64 q.session.setup.dflt, .slice B2 q.session.setup.bigrams.length Bk2, .int .i64 q.session.setup.pause, .slice B3 q.session.strokes.length Bk3, .slice B4 q.session.opn.length Bk4, .int .i64 q.session.time, .slice B5 q.session.words.length Bk5, .slice B6 q.page.lines.length Bk6, .slice B7 q.page.done.length Bk7, .slice B8 q.page.undone.length Bk8]] Tryz.call9 (by go_simp) (toDesk_p _ h' HQ.out) ?_
 rintro e w3 ⟨u3, G3, rfl, r3, f3, b3⟩
 refine ⟨_, rfl, ?_⟩
 replace R := R.later b3
 replace Q := Q.later b3
 replace h := h.below b3
 replace h' := h'.below b3
 replace r2 := r2.below b3
 replace c := bt c b3
 replace hS : (fun w' : World => w'.rangeAt w.heap.size 0 [.int .i64 p.session.setup.band, .slice A0 p.session.setup.temps.length Ak0, .int .i64 p.session.setup.points, .int .i64 p.session.setup.most, .int .i64 p.session.setup.pen, .slice A1 p.session.setup.entries.length Ak1, .int .i64 p.session.setup.dflt, .slice A2 p.session.setup.bigrams.length Ak2, .int .i64 p.session.setup.pause, .slice A3 p.session.strokes.length Ak3, .slice A4 p.session.opn.length Ak4, .int .i64 p.session.time, .slice A5 p.session.words.length Ak5, .slice A6 p.page.lines.length Ak6, .slice A7 p.page.done.length Ak7, .slice A8 p.page.undone.length Ak8] ∧ w'.rangeAt (w.heap.size + 1) 0 [.int .i64 q.session.setup.band, .slice B0 q.session.setup.temps.length Bk0, .int .i64 q.session.setup.points, .int .i64 q.session.setup.most, .int .i64 q.session.setup.pen, .slice B1 q.session.setup.entries.length Bk1, .int .i64 q.session.setup.dflt, .slice B2 q.session.setup.bigrams.length Bk2, .int .i64 q.session.setup.pause, .slice B3 q.session.strokes.length Bk3, .slice B4 q.session.opn.length Bk4, .int .i64 q.session.time, .slice B5 q.session.words.length Bk5, .slice B6 q.page.lines.length Bk6, .slice B7 q.page.done.length Bk7, .slice B8 q.page.undone.length Bk8]) w3 := ⟨R.range, Q.range⟩
 dsimp only at hS
 refine hK.out _ _ ?_ (fun hHeld => ?_)
 · exact hS
 clear hK K hHeld
 simp only [Act.put, pA, pB, pC]
 refine wpAnyH_ready (rs := [4]) (by kernel_rfl) (by simp) ?_
 refine AllReadyH.cons (o := zo3_8_4) rfl (fun K hK => ?_) .nil
 refine step_call 8 #[.tmp 21, .tmp 23] _ rfl rfl #[u2, u3] Tryz.call8 (by go_simp) (HS.out _ _ _ _ _ r2 r3) ?_
 rintro e w4 ⟨rfl, b4⟩
 refine ⟨_, rfl, ?_⟩
 replace R := R.later b4
 replace Q := Q.later b4
 replace h := h.below b4
 replace h' := h'.below b4
 replace c := bt c b4
 replace hS : (fun w' : World => w'.rangeAt w.heap.size 0 [.int .i64 p.session.setup.band, .slice A0 p.session.setup.temps.length Ak0, .int .i64 p.session.setup.points, .int .i64 p.session.setup.most, .int .i64 p.session.setup.pen, .slice A1 p.session.setup.entries.length Ak1, .int .i64 p.session.setup.dflt, .slice A2 p.session.setup.bigrams.length Ak2, .int .i64 p.session.setup.pause, .slice A3 p.session.strokes.length Ak3, .slice A4 p.session.opn.length Ak4, .int .i64 p.session.time, .slice A5 p.session.words.length Ak5, .slice A6 p.page.lines.length Ak6, .slice A7 p.page.done.length Ak7, .slice A8 p.page.undone.length Ak8] ∧ w'.rangeAt (w.heap.size + 1) 0 [.int .i64 q.session.setup.band, .slice B0 q.session.setup.temps.length Bk0, .int .i64 q.session.setup.points, .int .i64 q.session.setup.most, .int .i64 q.session.setup.pen, .slice B1 q.session.setup.entries.length Bk1, .int .i64 q.session.setup.dflt, .slice B2 q.session.setup.bigrams.length Bk2, .int .i64 q.session.setup.pause, .slice B3 q.session.strokes.length Bk3, .slice B4 q.session.opn.length Bk4, .int .i64 q.session.time, .slice B5 q.session.words.length Bk5, .slice B6 q.page.lines.length Bk6, .slice B7 q.page.done.length Bk7, .slice B8 q.page.undone.length Bk8]) w4 := ⟨R.range, Q.range⟩
 dsimp only at hS
 refine hK.out _ _ ?_ (fun hHeld => ?_)
 · exact hS
 clear hK K hHeld
 simp only [Act.put, pA, pB, pC]
 refine tK (i := 5) (oi := zo3_8_5) (v := ?_) rfl (by kernel_rfl) (fun _ _ _ h => h) (Or.inl ⟨rfl, ?_⟩) hS ?_
 rotate_left
 · (intro w' hS'; (try dsimp only at hS'); dsimp only [zo3_8_5]; go_simp; try with_reducible rfl)
 simp only [Act.put, pA, pB, pC]
 refine wpAnyH_done (by kernel_rfl) ?_ _
 clear hS r2 r3
 go_upto_region 9 with fail
 apply wp_region_lit
 refine wpList_load_mid rfl 47 (.tmp 2) rfl (w.heap.size) 0 rfl _ _ (Row.range R) Tryz.underlying47 rfl (by kernel_rfl) ?_
 go_wp2_with fail
 refine (toDesk_p _ h HP.out).mono ?_
 rintro e w5 ⟨u5, G5, rfl, x, f5, b5⟩
 replace R := R.later b5
 replace Q := Q.later b5
 replace h := h.below b5
 replace h' := h'.below b5
 replace c := bt c b5
 obtain ⟨X0, Xk0, X1, Xk1, X2, Xk2, X3, Xk3, X4, Xk4, X5, Xk5, X6, Xk6, X7, Xk7, X8, Xk8, rfl⟩ := x.shape
 have X := Row.new w5 73 #[.int .i64 p.session.setup.band, .slice X0 p.session.setup.temps.length Xk0, .int .i64 p.session.setup.points, .int .i64 p.session.setup.most, .int .i64 p.session.setup.pen, .slice X1 p.session.setup.entries.length Xk1, .int .i64 p.session.setup.dflt, .slice X2 p.session.setup.bigrams.length Xk2, .int .i64 p.session.setup.pause, .slice X3 p.session.strokes.length Xk3, .slice X4 p.session.opn.length Xk4, .int .i64 p.session.time, .slice X5 p.session.words.length Xk5, .slice X6 p.page.lines.length Xk6, .slice X7 p.page.done.length Xk7, .slice X8 p.page.undone.length Xk8]
 replace R := R.alloc (.cells #[.int .i64 p.session.setup.band, .slice X0 p.session.setup.temps.length Xk0, .int .i64 p.session.setup.points, .int .i64 p.session.setup.most, .int .i64 p.session.setup.pen, .slice X1 p.session.setup.entries.length Xk1, .int .i64 p.session.setup.dflt, .slice X2 p.session.setup.bigrams.length Xk2, .int .i64 p.session.setup.pause, .slice X3 p.session.strokes.length Xk3, .slice X4 p.session.opn.length Xk4, .int .i64 p.session.time, .slice X5 p.session.words.length Xk5, .slice X6 p.page.lines.length Xk6, .slice X7 p.page.done.length Xk7, .slice X8 p.page.undone.length Xk8] 73)
 replace Q := Q.alloc (.cells #[.int .i64 p.session.setup.band, .slice X0 p.session.setup.temps.length Xk0, .int .i64 p.session.setup.points, .int .i64 p.session.setup.most, .int .i64 p.session.setup.pen, .slice X1 p.session.setup.entries.length Xk1, .int .i64 p.session.setup.dflt, .slice X2 p.session.setup.bigrams.length Xk2, .int .i64 p.session.setup.pause, .slice X3 p.session.strokes.length Xk3, .slice X4 p.session.opn.length Xk4, .int .i64 p.session.time, .slice X5 p.session.words.length Xk5, .slice X6 p.page.lines.length Xk6, .slice X7 p.page.done.length Xk7, .slice X8 p.page.undone.length Xk8] 73)
 replace h := h.alloc (.cells #[.int .i64 p.session.setup.band, .slice X0 p.session.setup.temps.length Xk0, .int .i64 p.session.setup.points, .int .i64 p.session.setup.most, .int .i64 p.session.setup.pen, .slice X1 p.session.setup.entries.length Xk1, .int .i64 p.session.setup.dflt, .slice X2 p.session.setup.bigrams.length Xk2, .int .i64 p.session.setup.pause, .slice X3 p.session.strokes.length Xk3, .slice X4 p.session.opn.length Xk4, .int .i64 p.session.time, .slice X5 p.session.words.length Xk5, .slice X6 p.page.lines.length Xk6, .slice X7 p.page.done.length Xk7, .slice X8 p.page.undone.length Xk8] 73)
 replace h' := h'.alloc (.cells #[.int .i64 p.session.setup.band, .slice X0 p.session.setup.temps.length Xk0, .int .i64 p.session.setup.points, .int .i64 p.session.setup.most, .int .i64 p.session.setup.pen, .slice X1 p.session.setup.entries.length Xk1, .int .i64 p.session.setup.dflt, .slice X2 p.session.setup.bigrams.length Xk2, .int .i64 p.session.setup.pause, .slice X3 p.session.strokes.length Xk3, .slice X4 p.session.opn.length Xk4, .int .i64 p.session.time, .slice X5 p.session.words.length Xk5, .slice X6 p.page.lines.length Xk6, .slice X7 p.page.done.length Xk7, .slice X8 p.page.undone.length Xk8] 73)
 replace x := x.alloc (.cells #[.int .i64 p.session.setup.band, .slice X0 p.session.setup.temps.length Xk0, .int .i64 p.session.setup.points, .int .i64 p.session.setup.most, .int .i64 p.session.setup.pen, .slice X1 p.session.setup.entries.length Xk1, .int .i64 p.session.setup.dflt, .slice X2 p.session.setup.bigrams.length Xk2, .int .i64 p.session.setup.pause, .slice X3 p.session.strokes.length Xk3, .slice X4 p.session.opn.length Xk4, .int .i64 p.session.time, .slice X5 p.session.words.length Xk5, .slice X6 p.page.lines.length Xk6, .slice X7 p.page.done.length Xk7, .slice X8 p.page.undone.length Xk8] 73)
 replace c := c.alloc c.size (.cells #[.int .i64 p.session.setup.band, .slice X0 p.session.setup.temps.length Xk0, .int .i64 p.session.setup.points, .int .i64 p.session.setup.most, .int .i64 p.session.setup.pen, .slice X1 p.session.setup.entries.length Xk1, .int .i64 p.session.setup.dflt, .slice X2 p.session.setup.bigrams.length Xk2, .int .i64 p.session.setup.pause, .slice X3 p.session.strokes.length Xk3, .slice X4 p.session.opn.length Xk4, .int .i64 p.session.time, .slice X5 p.session.words.length Xk5, .slice X6 p.page.lines.length Xk6, .slice X7 p.page.done.length Xk7, .slice X8 p.page.undone.length Xk8] 73)
 go_upto_region 10 with fail
 generalize w5.alloc (.cells #[.int .i64 p.session.setup.band, .slice X0 p.session.setup.temps.length Xk0, .int .i64 p.session.setup.points, .int .i64 p.session.setup.most, .int .i64 p.session.setup.pen, .slice X1 p.session.setup.entries.length Xk1, .int .i64 p.session.setup.dflt, .slice X2 p.session.setup.bigrams.length Xk2, .int .i64 p.session.setup.pause, .slice X3 p.session.strokes.length Xk3, .slice X4 p.session.opn.length Xk4, .int .i64 p.session.time, .slice X5 p.session.words.length Xk5, .slice X6 p.page.lines.length Xk6, .slice X7 p.page.done.length Xk7, .slice X8 p.page.undone.length Xk8] 73) = w6 at *
 apply wp_region_lit
 refine wpList_load_mid rfl 47 (.tmp 3) rfl (w.heap.size + 1) 0 rfl _ _ (Row.range Q) Tryz.underlying47 rfl (by kernel_rfl) ?_
 go_wp2_with fail
 refine (toDesk_p _ h' HQ.out).mono ?_
 rintro e w7 ⟨u7, G7, rfl, y, f7, b7⟩
 replace R := R.later b7
 replace Q := Q.later b7
 replace X := X.later b7
 replace h := h.below b7
 replace h' := h'.below b7
 replace x := x.below b7
 replace c := bt c b7
 obtain ⟨Y0, Yk0, Y1, Yk1, Y2, Yk2, Y3, Yk3, Y4, Yk4, Y5, Yk5, Y6, Yk6, Y7, Yk7, Y8, Yk8, rfl⟩ := y.shape
 have Y := Row.new w7 73 #[.int .i64 q.session.setup.band, .slice Y0 q.session.setup.temps.length Yk0, .int .i64 q.session.setup.points, .int .i64 q.session.setup.most, .int .i64 q.session.setup.pen, .slice Y1 q.session.setup.entries.length Yk1, .int .i64 q.session.setup.dflt, .slice Y2 q.session.setup.bigrams.length Yk2, .int .i64 q.session.setup.pause, .slice Y3 q.session.strokes.length Yk3, .slice Y4 q.session.opn.length Yk4, .int .i64 q.session.time, .slice Y5 q.session.words.length Yk5, .slice Y6 q.page.lines.length Yk6, .slice Y7 q.page.done.length Yk7, .slice Y8 q.page.undone.length Yk8]
 replace R := R.alloc (.cells #[.int .i64 q.session.setup.band, .slice Y0 q.session.setup.temps.length Yk0, .int .i64 q.session.setup.points, .int .i64 q.session.setup.most, .int .i64 q.session.setup.pen, .slice Y1 q.session.setup.entries.length Yk1, .int .i64 q.session.setup.dflt, .slice Y2 q.session.setup.bigrams.length Yk2, .int .i64 q.session.setup.pause, .slice Y3 q.session.strokes.length Yk3, .slice Y4 q.session.opn.length Yk4, .int .i64 q.session.time, .slice Y5 q.session.words.length Yk5, .slice Y6 q.page.lines.length Yk6, .slice Y7 q.page.done.length Yk7, .slice Y8 q.page.undone.length Yk8] 73)
 replace Q := Q.alloc (.cells #[.int .i64 q.session.setup.band, .slice Y0 q.session.setup.temps.length Yk0, .int .i64 q.session.setup.points, .int .i64 q.session.setup.most, .int .i64 q.session.setup.pen, .slice Y1 q.session.setup.entries.length Yk1, .int .i64 q.session.setup.dflt, .slice Y2 q.session.setup.bigrams.length Yk2, .int .i64 q.session.setup.pause, .slice Y3 q.session.strokes.length Yk3, .slice Y4 q.session.opn.length Yk4, .int .i64 q.session.time, .slice Y5 q.session.words.length Yk5, .slice Y6 q.page.lines.length Yk6, .slice Y7 q.page.done.length Yk7, .slice Y8 q.page.undone.length Yk8] 73)
 replace X := X.alloc (.cells #[.int .i64 q.session.setup.band, .slice Y0 q.session.setup.temps.length Yk0, .int .i64 q.session.setup.points, .int .i64 q.session.setup.most, .int .i64 q.session.setup.pen, .slice Y1 q.session.setup.entries.length Yk1, .int .i64 q.session.setup.dflt, .slice Y2 q.session.setup.bigrams.length Yk2, .int .i64 q.session.setup.pause, .slice Y3 q.session.strokes.length Yk3, .slice Y4 q.session.opn.length Yk4, .int .i64 q.session.time, .slice Y5 q.session.words.length Yk5, .slice Y6 q.page.lines.length Yk6, .slice Y7 q.page.done.length Yk7, .slice Y8 q.page.undone.length Yk8] 73)
 replace h := h.alloc (.cells #[.int .i64 q.session.setup.band, .slice Y0 q.session.setup.temps.length Yk0, .int .i64 q.session.setup.points, .int .i64 q.session.setup.most, .int .i64 q.session.setup.pen, .slice Y1 q.session.setup.entries.length Yk1, .int .i64 q.session.setup.dflt, .slice Y2 q.session.setup.bigrams.length Yk2, .int .i64 q.session.setup.pause, .slice Y3 q.session.strokes.length Yk3, .slice Y4 q.session.opn.length Yk4, .int .i64 q.session.time, .slice Y5 q.session.words.length Yk5, .slice Y6 q.page.lines.length Yk6, .slice Y7 q.page.done.length Yk7, .slice Y8 q.page.undone.length Yk8] 73)
 replace h' := h'.alloc (.cells #[.int .i64 q.session.setup.band, .slice Y0 q.session.setup.temps.length Yk0, .int .i64 q.session.setup.points, .int .i64 q.session.setup.most, .int .i64 q.session.setup.pen, .slice Y1 q.session.setup.entries.length Yk1, .int .i64 q.session.setup.dflt, .slice Y2 q.session.setup.bigrams.length Yk2, .int .i64 q.session.setup.pause, .slice Y3 q.session.strokes.length Yk3, .slice Y4 q.session.opn.length Yk4, .int .i64 q.session.time, .slice Y5 q.session.words.length Yk5, .slice Y6 q.page.lines.length Yk6, .slice Y7 q.page.done.length Yk7, .slice Y8 q.page.undone.length Yk8] 73)
 replace x := x.alloc (.cells #[.int .i64 q.session.setup.band, .slice Y0 q.session.setup.temps.length Yk0, .int .i64 q.session.setup.points, .int .i64 q.session.setup.most, .int .i64 q.session.setup.pen, .slice Y1 q.session.setup.entries.length Yk1, .int .i64 q.session.setup.dflt, .slice Y2 q.session.setup.bigrams.length Yk2, .int .i64 q.session.setup.pause, .slice Y3 q.session.strokes.length Yk3, .slice Y4 q.session.opn.length Yk4, .int .i64 q.session.time, .slice Y5 q.session.words.length Yk5, .slice Y6 q.page.lines.length Yk6, .slice Y7 q.page.done.length Yk7, .slice Y8 q.page.undone.length Yk8] 73)
 replace y := y.alloc (.cells #[.int .i64 q.session.setup.band, .slice Y0 q.session.setup.temps.length Yk0, .int .i64 q.session.setup.points, .int .i64 q.session.setup.most, .int .i64 q.session.setup.pen, .slice Y1 q.session.setup.entries.length Yk1, .int .i64 q.session.setup.dflt, .slice Y2 q.session.setup.bigrams.length Yk2, .int .i64 q.session.setup.pause, .slice Y3 q.session.strokes.length Yk3, .slice Y4 q.session.opn.length Yk4, .int .i64 q.session.time, .slice Y5 q.session.words.length Yk5, .slice Y6 q.page.lines.length Yk6, .slice Y7 q.page.done.length Yk7, .slice Y8 q.page.undone.length Yk8] 73)
 replace c := c.alloc c.size (.cells #[.int .i64 q.session.setup.band, .slice Y0 q.session.setup.temps.length Yk0, .int .i64 q.session.setup.points, .int .i64 q.session.setup.most, .int .i64 q.session.setup.pen, .slice Y1 q.session.setup.entries.length Yk1, .int .i64 q.session.setup.dflt, .slice Y2 q.session.setup.bigrams.length Yk2, .int .i64 q.session.setup.pause, .slice Y3 q.session.strokes.length Yk3, .slice Y4 q.session.opn.length Yk4, .int .i64 q.session.time, .slice Y5 q.session.words.length Yk5, .slice Y6 q.page.lines.length Yk6, .slice Y7 q.page.done.length Yk7, .slice Y8 q.page.undone.length Yk8] 73)
 go_upto_region 11 with fail
 generalize w7.alloc (.cells #[.int .i64 q.session.setup.band, .slice Y0 q.session.setup.temps.length Yk0, .int .i64 q.session.setup.points, .int .i64 q.session.setup.most, .int .i64 q.session.setup.pen, .slice Y1 q.session.setup.entries.length Yk1, .int .i64 q.session.setup.dflt, .slice Y2 q.session.setup.bigrams.length Yk2, .int .i64 q.session.setup.pause, .slice Y3 q.session.strokes.length Yk3, .slice Y4 q.session.opn.length Yk4, .int .i64 q.session.time, .slice Y5 q.session.words.length Yk5, .slice Y6 q.page.lines.length Yk6, .slice Y7 q.page.done.length Yk7, .slice Y8 q.page.undone.length Yk8] 73) = w8 at *
 apply wp_region_lit
 refine wpList_load_mid rfl 73 (.tmp 7) rfl (w5.heap.size) 0 rfl _ _ (Row.range X) Tryz.underlying73 rfl (by kernel_rfl) ?_
 refine wpList_load_mid rfl 73 (.tmp 8) rfl (w7.heap.size) 0 rfl _ _ (Row.range Y) Tryz.underlying73 rfl (by kernel_rfl) ?_
 go_wp2_with fail
 refine (HI.out _ _ _ _ _ x y).mono ?_
 rintro e w9 ⟨rfl, b9⟩
 replace R := R.later b9
 replace Q := Q.later b9
 replace X := X.later b9
 replace Y := Y.later b9
 replace h := h.below b9
 replace h' := h'.below b9
 replace x := x.below b9
 replace y := y.below b9
 replace c := bt c b9
 go_upto_region 14 with fail
 have hS : (fun w' : World => w'.rangeAt w5.heap.size 0 [.int .i64 p.session.setup.band, .slice X0 p.session.setup.temps.length Xk0, .int .i64 p.session.setup.points, .int .i64 p.session.setup.most, .int .i64 p.session.setup.pen, .slice X1 p.session.setup.entries.length Xk1, .int .i64 p.session.setup.dflt, .slice X2 p.session.setup.bigrams.length Xk2, .int .i64 p.session.setup.pause, .slice X3 p.session.strokes.length Xk3, .slice X4 p.session.opn.length Xk4, .int .i64 p.session.time, .slice X5 p.session.words.length Xk5, .slice X6 p.page.lines.length Xk6, .slice X7 p.page.done.length Xk7, .slice X8 p.page.undone.length Xk8] ∧ w'.rangeAt w.heap.size 0 [.int .i64 p.session.setup.band, .slice A0 p.session.setup.temps.length Ak0, .int .i64 p.session.setup.points, .int .i64 p.session.setup.most, .int .i64 p.session.setup.pen, .slice A1 p.session.setup.entries.length Ak1, .int .i64 p.session.setup.dflt, .slice A2 p.session.setup.bigrams.length Ak2, .int .i64 p.session.setup.pause, .slice A3 p.session.strokes.length Ak3, .slice A4 p.session.opn.length Ak4, .int .i64 p.session.time, .slice A5 p.session.words.length Ak5, .slice A6 p.page.lines.length Ak6, .slice A7 p.page.done.length Ak7, .slice A8 p.page.undone.length Ak8]) _ := ⟨X.drew.range, R.drew.range⟩
 dsimp only at hS
 refine wp_region_held_drew (S := (fun w' : World => w'.rangeAt w5.heap.size 0 [.int .i64 p.session.setup.band, .slice X0 p.session.setup.temps.length Xk0, .int .i64 p.session.setup.points, .int .i64 p.session.setup.most, .int .i64 p.session.setup.pen, .slice X1 p.session.setup.entries.length Xk1, .int .i64 p.session.setup.dflt, .slice X2 p.session.setup.bigrams.length Xk2, .int .i64 p.session.setup.pause, .slice X3 p.session.strokes.length Xk3, .slice X4 p.session.opn.length Xk4, .int .i64 p.session.time, .slice X5 p.session.words.length Xk5, .slice X6 p.page.lines.length Xk6, .slice X7 p.page.done.length Xk7, .slice X8 p.page.undone.length Xk8] ∧ w'.rangeAt w.heap.size 0 [.int .i64 p.session.setup.band, .slice A0 p.session.setup.temps.length Ak0, .int .i64 p.session.setup.points, .int .i64 p.session.setup.most, .int .i64 p.session.setup.pen, .slice A1 p.session.setup.entries.length Ak1, .int .i64 p.session.setup.dflt, .slice A2 p.session.setup.bigrams.length Ak2, .int .i64 p.session.setup.pause, .slice A3 p.session.strokes.length Ak3, .slice A4 p.session.opn.length Ak4, .int .i64 p.session.time, .slice A5 p.session.words.length Ak5, .slice A6 p.page.lines.length Ak6, .slice A7 p.page.done.length Ak7, .slice A8 p.page.undone.length Ak8])) (by kernel_rfl) hS (fun _ => ?_)
 refine wpAnyH_take (i := 0) (oi := { dst := some 35, op := .load 73 (.tmp 7), type := 73, pos := "exact.go:12550", after := #[], guard := none }) (v := _) rfl (by kernel_rfl) (by kernel_rfl) (by kernel_rfl) (fun _ _ _ h => h) (yieldsIf_load_mid (by rfl) 73 (.tmp 7) rfl (w5.heap.size) 0 rfl _ _ (fun w' h' => h'.1) Tryz.underlying73 rfl (by kernel_rfl)) hS ?_
 simp only [Act.put, pA, pB, pC]
 refine wpAnyH_take (i := 1) (oi := { dst := some 36, op := .load 47 (.tmp 2), type := 47, pos := "exact.go:12550", after := #[], guard := none }) (v := _) rfl (by kernel_rfl) (by kernel_rfl) (by kernel_rfl) (fun _ _ _ h => h) (yieldsIf_load_mid (by rfl) 47 (.tmp 2) rfl (w.heap.size) 0 rfl _ _ (fun w' h' => h'.2) Tryz.underlying47 rfl (by kernel_rfl)) hS ?_
 simp only [Act.put, pA, pB, pC]
 refine wpAnyH_ready (rs := [2]) (by kernel_rfl) (by simp) ?_
 refine AllReadyH.cons (o := zo3_14_2) rfl (fun K hK => ?_) .nil
 refine step_call 9 #[.tmp 36] _ rfl rfl #[.agg #[.int .i64 p.session.setup.band, .slice A0 p.session.setup.temps.length Ak0, .int .i64 p.session.setup.points, .int .i64 p.session.setup.most, .int .i64 p.session.setup.pen, .slice A1 p.session.setup.entries.length Ak1, .int .i64 p.session.setup.dflt, .slice A2 p.session.setup.bigrams.length Ak2, .int .i64 p.session.setup.pause, .slice A3 p.session.strokes.length Ak3, .slice A4 p.session.opn.length Ak4, .int .i64 p.session.time, .slice A5 p.session.words.length Ak5, .slice A6 p.page.lines.length Ak6, .slice A7 p.page.done.length Ak7, .slice A8 p.page.undone.length Ak8]] Tryz.call9 (by go_simp) (toDesk_p _ h.drew HP.out) ?_
 rintro e wa1 ⟨uwa1, Gwa1, rfl, rwa1, fwa1, bwa1⟩
 refine ⟨_, rfl, ?_⟩
 replace R := R.drew.later bwa1
 replace Q := Q.drew.later bwa1
 replace X := X.drew.later bwa1
 replace Y := Y.drew.later bwa1
 replace h := h.drew.below bwa1
 replace h' := h'.drew.below bwa1
 replace x := x.drew.below bwa1
 replace y := y.drew.below bwa1
 replace c := bt c.drew bwa1
 replace hS : (fun w' : World => w'.rangeAt w5.heap.size 0 [.int .i64 p.session.setup.band, .slice X0 p.session.setup.temps.length Xk0, .int .i64 p.session.setup.points, .int .i64 p.session.setup.most, .int .i64 p.session.setup.pen, .slice X1 p.session.setup.entries.length Xk1, .int .i64 p.session.setup.dflt, .slice X2 p.session.setup.bigrams.length Xk2, .int .i64 p.session.setup.pause, .slice X3 p.session.strokes.length Xk3, .slice X4 p.session.opn.length Xk4, .int .i64 p.session.time, .slice X5 p.session.words.length Xk5, .slice X6 p.page.lines.length Xk6, .slice X7 p.page.done.length Xk7, .slice X8 p.page.undone.length Xk8] ∧ w'.rangeAt w.heap.size 0 [.int .i64 p.session.setup.band, .slice A0 p.session.setup.temps.length Ak0, .int .i64 p.session.setup.points, .int .i64 p.session.setup.most, .int .i64 p.session.setup.pen, .slice A1 p.session.setup.entries.length Ak1, .int .i64 p.session.setup.dflt, .slice A2 p.session.setup.bigrams.length Ak2, .int .i64 p.session.setup.pause, .slice A3 p.session.strokes.length Ak3, .slice A4 p.session.opn.length Ak4, .int .i64 p.session.time, .slice A5 p.session.words.length Ak5, .slice A6 p.page.lines.length Ak6, .slice A7 p.page.done.length Ak7, .slice A8 p.page.undone.length Ak8]) wa1 := ⟨X.range, R.range⟩
 dsimp only at hS
 refine hK.out _ _ ?_ (fun hHeld => ?_)
 · exact hS
 clear hK K hHeld
 simp only [Act.put, pA, pB, pC]
 refine wpAnyH_ready (rs := [3]) (by kernel_rfl) (by simp) ?_
 refine AllReadyH.cons (o := zo3_14_3) rfl (fun K hK => ?_) .nil
 refine step_call 11 #[.tmp 35, .tmp 37] _ rfl rfl #[.agg #[.int .i64 p.session.setup.band, .slice X0 p.session.setup.temps.length Xk0, .int .i64 p.session.setup.points, .int .i64 p.session.setup.most, .int .i64 p.session.setup.pen, .slice X1 p.session.setup.entries.length Xk1, .int .i64 p.session.setup.dflt, .slice X2 p.session.setup.bigrams.length Xk2, .int .i64 p.session.setup.pause, .slice X3 p.session.strokes.length Xk3, .slice X4 p.session.opn.length Xk4, .int .i64 p.session.time, .slice X5 p.session.words.length Xk5, .slice X6 p.page.lines.length Xk6, .slice X7 p.page.done.length Xk7, .slice X8 p.page.undone.length Xk8], uwa1] Tryz.call11 (by go_simp) (eqDesk_p _ x rwa1 HP.out HP.out) ?_
 rintro e wa2 ⟨rfl, bwa2⟩
 refine ⟨_, rfl, ?_⟩
 replace R := R.later bwa2
 replace Q := Q.later bwa2
 replace X := X.later bwa2
 replace Y := Y.later bwa2
 replace h := h.below bwa2
 replace h' := h'.below bwa2
 replace x := x.below bwa2
 replace y := y.below bwa2
 replace c := bt c bwa2
 replace hS : (fun w' : World => w'.rangeAt w5.heap.size 0 [.int .i64 p.session.setup.band, .slice X0 p.session.setup.temps.length Xk0, .int .i64 p.session.setup.points, .int .i64 p.session.setup.most, .int .i64 p.session.setup.pen, .slice X1 p.session.setup.entries.length Xk1, .int .i64 p.session.setup.dflt, .slice X2 p.session.setup.bigrams.length Xk2, .int .i64 p.session.setup.pause, .slice X3 p.session.strokes.length Xk3, .slice X4 p.session.opn.length Xk4, .int .i64 p.session.time, .slice X5 p.session.words.length Xk5, .slice X6 p.page.lines.length Xk6, .slice X7 p.page.done.length Xk7, .slice X8 p.page.undone.length Xk8] ∧ w'.rangeAt w.heap.size 0 [.int .i64 p.session.setup.band, .slice A0 p.session.setup.temps.length Ak0, .int .i64 p.session.setup.points, .int .i64 p.session.setup.most, .int .i64 p.session.setup.pen, .slice A1 p.session.setup.entries.length Ak1, .int .i64 p.session.setup.dflt, .slice A2 p.session.setup.bigrams.length Ak2, .int .i64 p.session.setup.pause, .slice A3 p.session.strokes.length Ak3, .slice A4 p.session.opn.length Ak4, .int .i64 p.session.time, .slice A5 p.session.words.length Ak5, .slice A6 p.page.lines.length Ak6, .slice A7 p.page.done.length Ak7, .slice A8 p.page.undone.length Ak8]) wa2 := ⟨X.range, R.range⟩
 dsimp only at hS
 refine hK.out _ _ ?_ (fun hHeld => ?_)
 · exact hS
 clear hK K hHeld
 simp only [Act.put, pA, pB, pC]
 refine tK (i := 4) (oi := zo3_14_4) (v := ?_) rfl (by kernel_rfl) (fun _ _ _ h => h) (Or.inl ⟨rfl, ?_⟩) hS ?_
 rotate_left
 · (intro w' hS'; (try dsimp only at hS'); dsimp only [zo3_14_4]; go_simp; try with_reducible rfl)
 simp only [Act.put, pA, pB, pC]
 refine wpAnyH_done (by kernel_rfl) ?_ _
 clear hS rwa1
 go_upto_region 16 with fail
 have hS : (fun w' : World => w'.rangeAt w7.heap.size 0 [.int .i64 q.session.setup.band, .slice Y0 q.session.setup.temps.length Yk0, .int .i64 q.session.setup.points, .int .i64 q.session.setup.most, .int .i64 q.session.setup.pen, .slice Y1 q.session.setup.entries.length Yk1, .int .i64 q.session.setup.dflt, .slice Y2 q.session.setup.bigrams.length Yk2, .int .i64 q.session.setup.pause, .slice Y3 q.session.strokes.length Yk3, .slice Y4 q.session.opn.length Yk4, .int .i64 q.session.time, .slice Y5 q.session.words.length Yk5, .slice Y6 q.page.lines.length Yk6, .slice Y7 q.page.done.length Yk7, .slice Y8 q.page.undone.length Yk8] ∧ w'.rangeAt (w.heap.size + 1) 0 [.int .i64 q.session.setup.band, .slice B0 q.session.setup.temps.length Bk0, .int .i64 q.session.setup.points, .int .i64 q.session.setup.most, .int .i64 q.session.setup.pen, .slice B1 q.session.setup.entries.length Bk1, .int .i64 q.session.setup.dflt, .slice B2 q.session.setup.bigrams.length Bk2, .int .i64 q.session.setup.pause, .slice B3 q.session.strokes.length Bk3, .slice B4 q.session.opn.length Bk4, .int .i64 q.session.time, .slice B5 q.session.words.length Bk5, .slice B6 q.page.lines.length Bk6, .slice B7 q.page.done.length Bk7, .slice B8 q.page.undone.length Bk8]) _ := ⟨Y.drew.range, Q.drew.range⟩
 dsimp only at hS
 refine wp_region_held_drew (S := (fun w' : World => w'.rangeAt w7.heap.size 0 [.int .i64 q.session.setup.band, .slice Y0 q.session.setup.temps.length Yk0, .int .i64 q.session.setup.points, .int .i64 q.session.setup.most, .int .i64 q.session.setup.pen, .slice Y1 q.session.setup.entries.length Yk1, .int .i64 q.session.setup.dflt, .slice Y2 q.session.setup.bigrams.length Yk2, .int .i64 q.session.setup.pause, .slice Y3 q.session.strokes.length Yk3, .slice Y4 q.session.opn.length Yk4, .int .i64 q.session.time, .slice Y5 q.session.words.length Yk5, .slice Y6 q.page.lines.length Yk6, .slice Y7 q.page.done.length Yk7, .slice Y8 q.page.undone.length Yk8] ∧ w'.rangeAt (w.heap.size + 1) 0 [.int .i64 q.session.setup.band, .slice B0 q.session.setup.temps.length Bk0, .int .i64 q.session.setup.points, .int .i64 q.session.setup.most, .int .i64 q.session.setup.pen, .slice B1 q.session.setup.entries.length Bk1, .int .i64 q.session.setup.dflt, .slice B2 q.session.setup.bigrams.length Bk2, .int .i64 q.session.setup.pause, .slice B3 q.session.strokes.length Bk3, .slice B4 q.session.opn.length Bk4, .int .i64 q.session.time, .slice B5 q.session.words.length Bk5, .slice B6 q.page.lines.length Bk6, .slice B7 q.page.done.length Bk7, .slice B8 q.page.undone.length Bk8])) (by kernel_rfl) hS (fun _ => ?_)
 refine wpAnyH_take (i := 0) (oi := { dst := some 40, op := .load 73 (.tmp 8), type := 73, pos := "exact.go:12553", after := #[], guard := none }) (v := _) rfl (by kernel_rfl) (by kernel_rfl) (by kernel_rfl) (fun _ _ _ h => h) (yieldsIf_load_mid (by rfl) 73 (.tmp 8) rfl (w7.heap.size) 0 rfl _ _ (fun w' h' => h'.1) Tryz.underlying73 rfl (by kernel_rfl)) hS ?_
 simp only [Act.put, pA, pB, pC]
 refine wpAnyH_take (i := 1) (oi := { dst := some 41, op := .load 47 (.tmp 3), type := 47, pos := "exact.go:12553", after := #[], guard := none }) (v := _) rfl (by kernel_rfl) (by kernel_rfl) (by kernel_rfl) (fun _ _ _ h => h) (yieldsIf_load_mid (by rfl) 47 (.tmp 3) rfl ((w.heap.size + 1)) 0 rfl _ _ (fun w' h' => h'.2) Tryz.underlying47 rfl (by kernel_rfl)) hS ?_
 simp only [Act.put, pA, pB, pC]
 refine wpAnyH_ready (rs := [2]) (by kernel_rfl) (by simp) ?_
 refine AllReadyH.cons (o := zo3_16_2) rfl (fun K hK => ?_) .nil
 refine step_call 9 #[.tmp 41] _ rfl rfl #[.agg #[.int .i64 q.session.setup.band, .slice B0 q.session.setup.temps.length Bk0, .int .i64 q.session.setup.points, .int .i64 q.session.setup.most, .int .i64 q.session.setup.pen, .slice B1 q.session.setup.entries.length Bk1, .int .i64 q.session.setup.dflt, .slice B2 q.session.setup.bigrams.length Bk2, .int .i64 q.session.setup.pause, .slice B3 q.session.strokes.length Bk3, .slice B4 q.session.opn.length Bk4, .int .i64 q.session.time, .slice B5 q.session.words.length Bk5, .slice B6 q.page.lines.length Bk6, .slice B7 q.page.done.length Bk7, .slice B8 q.page.undone.length Bk8]] Tryz.call9 (by go_simp) (toDesk_p _ h'.drew HQ.out) ?_
 rintro e wb1 ⟨uwb1, Gwb1, rfl, rwb1, fwb1, bwb1⟩
 refine ⟨_, rfl, ?_⟩
 replace R := R.drew.later bwb1
 replace Q := Q.drew.later bwb1
 replace X := X.drew.later bwb1
 replace Y := Y.drew.later bwb1
 replace h := h.drew.below bwb1
 replace h' := h'.drew.below bwb1
 replace x := x.drew.below bwb1
 replace y := y.drew.below bwb1
 replace c := bt c.drew bwb1
 replace hS : (fun w' : World => w'.rangeAt w7.heap.size 0 [.int .i64 q.session.setup.band, .slice Y0 q.session.setup.temps.length Yk0, .int .i64 q.session.setup.points, .int .i64 q.session.setup.most, .int .i64 q.session.setup.pen, .slice Y1 q.session.setup.entries.length Yk1, .int .i64 q.session.setup.dflt, .slice Y2 q.session.setup.bigrams.length Yk2, .int .i64 q.session.setup.pause, .slice Y3 q.session.strokes.length Yk3, .slice Y4 q.session.opn.length Yk4, .int .i64 q.session.time, .slice Y5 q.session.words.length Yk5, .slice Y6 q.page.lines.length Yk6, .slice Y7 q.page.done.length Yk7, .slice Y8 q.page.undone.length Yk8] ∧ w'.rangeAt (w.heap.size + 1) 0 [.int .i64 q.session.setup.band, .slice B0 q.session.setup.temps.length Bk0, .int .i64 q.session.setup.points, .int .i64 q.session.setup.most, .int .i64 q.session.setup.pen, .slice B1 q.session.setup.entries.length Bk1, .int .i64 q.session.setup.dflt, .slice B2 q.session.setup.bigrams.length Bk2, .int .i64 q.session.setup.pause, .slice B3 q.session.strokes.length Bk3, .slice B4 q.session.opn.length Bk4, .int .i64 q.session.time, .slice B5 q.session.words.length Bk5, .slice B6 q.page.lines.length Bk6, .slice B7 q.page.done.length Bk7, .slice B8 q.page.undone.length Bk8]) wb1 := ⟨Y.range, Q.range⟩
 dsimp only at hS
 refine hK.out _ _ ?_ (fun hHeld => ?_)
 · exact hS
 clear hK K hHeld
 simp only [Act.put, pA, pB, pC]
 refine wpAnyH_ready (rs := [3]) (by kernel_rfl) (by simp) ?_
 refine AllReadyH.cons (o := zo3_16_3) rfl (fun K hK => ?_) .nil
 refine step_call 11 #[.tmp 40, .tmp 42] _ rfl rfl #[.agg #[.int .i64 q.session.setup.band, .slice Y0 q.session.setup.temps.length Yk0, .int .i64 q.session.setup.points, .int .i64 q.session.setup.most, .int .i64 q.session.setup.pen, .slice Y1 q.session.setup.entries.length Yk1, .int .i64 q.session.setup.dflt, .slice Y2 q.session.setup.bigrams.length Yk2, .int .i64 q.session.setup.pause, .slice Y3 q.session.strokes.length Yk3, .slice Y4 q.session.opn.length Yk4, .int .i64 q.session.time, .slice Y5 q.session.words.length Yk5, .slice Y6 q.page.lines.length Yk6, .slice Y7 q.page.done.length Yk7, .slice Y8 q.page.undone.length Yk8], uwb1] Tryz.call11 (by go_simp) (eqDesk_p _ y rwb1 HQ.out HQ.out) ?_
 rintro e wb2 ⟨rfl, bwb2⟩
 refine ⟨_, rfl, ?_⟩
 replace R := R.later bwb2
 replace Q := Q.later bwb2
 replace X := X.later bwb2
 replace Y := Y.later bwb2
 replace h := h.below bwb2
 replace h' := h'.below bwb2
 replace x := x.below bwb2
 replace y := y.below bwb2
 replace c := bt c bwb2
 replace hS : (fun w' : World => w'.rangeAt w7.heap.size 0 [.int .i64 q.session.setup.band, .slice Y0 q.session.setup.temps.length Yk0, .int .i64 q.session.setup.points, .int .i64 q.session.setup.most, .int .i64 q.session.setup.pen, .slice Y1 q.session.setup.entries.length Yk1, .int .i64 q.session.setup.dflt, .slice Y2 q.session.setup.bigrams.length Yk2, .int .i64 q.session.setup.pause, .slice Y3 q.session.strokes.length Yk3, .slice Y4 q.session.opn.length Yk4, .int .i64 q.session.time, .slice Y5 q.session.words.length Yk5, .slice Y6 q.page.lines.length Yk6, .slice Y7 q.page.done.length Yk7, .slice Y8 q.page.undone.length Yk8] ∧ w'.rangeAt (w.heap.size + 1) 0 [.int .i64 q.session.setup.band, .slice B0 q.session.setup.temps.length Bk0, .int .i64 q.session.setup.points, .int .i64 q.session.setup.most, .int .i64 q.session.setup.pen, .slice B1 q.session.setup.entries.length Bk1, .int .i64 q.session.setup.dflt, .slice B2 q.session.setup.bigrams.length Bk2, .int .i64 q.session.setup.pause, .slice B3 q.session.strokes.length Bk3, .slice B4 q.session.opn.length Bk4, .int .i64 q.session.time, .slice B5 q.session.words.length Bk5, .slice B6 q.page.lines.length Bk6, .slice B7 q.page.done.length Bk7, .slice B8 q.page.undone.length Bk8]) wb2 := ⟨Y.range, Q.range⟩
 dsimp only at hS
 refine hK.out _ _ ?_ (fun hHeld => ?_)
 · exact hS
 clear hK K hHeld
 simp only [Act.put, pA, pB, pC]
 refine tK (i := 4) (oi := zo3_16_4) (v := ?_) rfl (by kernel_rfl) (fun _ _ _ h => h) (Or.inl ⟨rfl, ?_⟩) hS ?_
 rotate_left
 · (intro w' hS'; (try dsimp only at hS'); dsimp only [zo3_16_4]; go_simp; try with_reducible rfl)
 simp only [Act.put, pA, pB, pC]
 refine wpAnyH_done (by kernel_rfl) ?_ _
 clear hS rwb1
 go_wp2_with fail
 go_ret
 exact ⟨rfl, c⟩
end Go.Proofs.YtkfadfddhbpngaaGreat
