/- The walk of the law FnExactDeskText. Conditions: none. -/
import Derived.Test.YtboijogahclekaaGreatDoorTkk
import Derived.Test.YtboijogahclekaaGreatDoorWidek
import Derived.Test.YtboijogahclekaaGreatDoorDkTextk
import Derived.Test.YtboijogahclekaaGreatDoorSeVk
import Derived.Laws.StructEq
import Derived.Test.YtboijogahclekaaGreatDoorRows
import Derived.Test.YtboijogahclekaaGreatDoorTyStrokek
import Derived.Test.YtboijogahclekaaGreatDoorSeSzk
import Derived.Test.YtboijogahclekaaGreatDoorTyLinek
import Derived.Test.YtboijogahclekaaGreatDoorDkIsk
namespace Go.Proofs.YtboijogahclekaaGreatDoor
open Go Go.RowKit
set_option maxRecDepth 100000 in
set_option maxHeartbeats 4000000 in
theorem law_DeskText {I : DIds} {p : PDesk} {v : Value} {F : List Nat} (w : World) (h : DeskIs I false w p v F) (hT : Tab w) :
 Calls Tryz.prog 3 #[v] w fun e w' => e = .returned (.bool true) ∧ Below w.heap.size w w' := by
 obtain ⟨A0, Ak0, A1, Ak1, A2, Ak2, A3, Ak3, A4, Ak4, A5, Ak5, A6, Ak6, A7, Ak7, A8, Ak8, rfl⟩ := h.shape
 have R := Row.new w 47 #[.int .i64 p.session.setup.band, .slice A0 p.session.setup.temps.length Ak0, .int .i64 p.session.setup.points, .int .i64 p.session.setup.most, .int .i64 p.session.setup.pen, .slice A1 p.session.setup.entries.length Ak1, .int .i64 p.session.setup.dflt, .slice A2 p.session.setup.bigrams.length Ak2, .int .i64 p.session.setup.pause, .slice A3 p.session.strokes.length Ak3, .slice A4 p.session.opn.length Ak4, .int .i64 p.session.time, .slice A5 p.session.words.length Ak5, .slice A6 p.page.lines.length Ak6, .slice A7 p.page.done.length Ak7, .slice A8 p.page.undone.length Ak8]
 go_enter Tryz.func3, Tryz.ntmps3
 go_upto_region 2 with fail
 apply wp_region_lit
 refine wpList_load_mid rfl 47 (.tmp 1) rfl (w.heap.size) 0 rfl _ _ (Row.range R) Tryz.underlying47 rfl (by kernel_rfl) ?_
 go_wp2_with fail
 refine (szDesk_p _ (h.alloc _) 1048576 (by omega)).mono ?_
 rintro e w1 ⟨⟨r, rfl, hr1, hr⟩, b1⟩
 have c1 : Below w.heap.size w w1 := ((Below.refl _ _).alloc (Nat.le_refl _) _).trans (b1.mono (by simp))
 by_cases h0 : r < 0
 · go_wp2_with fail
   go_ret
   exact ⟨rfl, c1⟩
 obtain ⟨hp, hpb⟩ := DkSmall.of (q := p) (by have := hr (by omega); omega)
 clear hr
 replace R := R.later b1
 replace h := (h.alloc _).below b1
 go_upto_region 5 with fail
 apply wp_region_lit
 refine wpList_load_mid rfl 47 (.tmp 1) rfl (w.heap.size) 0 rfl _ _ (Row.range R) Tryz.underlying47 rfl (by kernel_rfl) ?_
 go_wp2_with fail
 refine (toDesk_p _ h hp).mono ?_
 rintro e w2 ⟨u2, G2, rfl, r2, f2, b2⟩
 replace R := R.later b2
 replace h := h.below b2
 replace c1 := bt c1 b2
 obtain ⟨B0, Bk0, B1, Bk1, B2, Bk2, B3, Bk3, B4, Bk4, B5, Bk5, B6, Bk6, B7, Bk7, B8, Bk8, rfl⟩ := r2.shape
 go_wp2_with fail
 refine (spec_DeskText_p _ r2 hp hpb).mono ?_
 rintro e w3 ⟨rfl, b3⟩
 replace R := R.later b3
 replace h := h.below b3
 replace c1 := bt c1 b3
 clear r2
 have HI := Lib.hid (fun (w : World) (v : Value) (F : List Nat) (h : DeskIs didsI true w p v F) (t : Tab w) => impl_DeskText_p w h hp hpb t)
 have HP := Lib.hid hp
 generalize deskText p = d at *
 have hdd : (d != d) = false := by rw [bne, beq_toListBytes]; simp
 have hd2 : (d.toList == d.toList) = true := by simp
 have hss := sameDeskB_refl p
 clear hp hpb
 go_upto_region 6 with fail
 apply wp_region_lit
 refine wpList_load_mid rfl 47 (.tmp 1) rfl (w.heap.size) 0 rfl _ _ (Row.range R) Tryz.underlying47 rfl (by kernel_rfl) ?_
 go_wp2_with fail
 refine (toDesk_p _ h HP.out).mono ?_
 rintro e w4 ⟨u4, G4, rfl, x, f4, b4⟩
 obtain ⟨X0, Xk0, X1, Xk1, X2, Xk2, X3, Xk3, X4, Xk4, X5, Xk5, X6, Xk6, X7, Xk7, X8, Xk8, rfl⟩ := x.shape
 have X := Row.new w4 73 #[.int .i64 p.session.setup.band, .slice X0 p.session.setup.temps.length Xk0, .int .i64 p.session.setup.points, .int .i64 p.session.setup.most, .int .i64 p.session.setup.pen, .slice X1 p.session.setup.entries.length Xk1, .int .i64 p.session.setup.dflt, .slice X2 p.session.setup.bigrams.length Xk2, .int .i64 p.session.setup.pause, .slice X3 p.session.strokes.length Xk3, .slice X4 p.session.opn.length Xk4, .int .i64 p.session.time, .slice X5 p.session.words.length Xk5, .slice X6 p.page.lines.length Xk6, .slice X7 p.page.done.length Xk7, .slice X8 p.page.undone.length Xk8]
 replace R := (R.later b4).alloc (.cells #[.int .i64 p.session.setup.band, .slice X0 p.session.setup.temps.length Xk0, .int .i64 p.session.setup.points, .int .i64 p.session.setup.most, .int .i64 p.session.setup.pen, .slice X1 p.session.setup.entries.length Xk1, .int .i64 p.session.setup.dflt, .slice X2 p.session.setup.bigrams.length Xk2, .int .i64 p.session.setup.pause, .slice X3 p.session.strokes.length Xk3, .slice X4 p.session.opn.length Xk4, .int .i64 p.session.time, .slice X5 p.session.words.length Xk5, .slice X6 p.page.lines.length Xk6, .slice X7 p.page.done.length Xk7, .slice X8 p.page.undone.length Xk8] 73)
 replace h := (h.below b4).alloc (.cells #[.int .i64 p.session.setup.band, .slice X0 p.session.setup.temps.length Xk0, .int .i64 p.session.setup.points, .int .i64 p.session.setup.most, .int .i64 p.session.setup.pen, .slice X1 p.session.setup.entries.length Xk1, .int .i64 p.session.setup.dflt, .slice X2 p.session.setup.bigrams.length Xk2, .int .i64 p.session.setup.pause, .slice X3 p.session.strokes.length Xk3, .slice X4 p.session.opn.length Xk4, .int .i64 p.session.time, .slice X5 p.session.words.length Xk5, .slice X6 p.page.lines.length Xk6, .slice X7 p.page.done.length Xk7, .slice X8 p.page.undone.length Xk8] 73)
 replace x := x.alloc (.cells #[.int .i64 p.session.setup.band, .slice X0 p.session.setup.temps.length Xk0, .int .i64 p.session.setup.points, .int .i64 p.session.setup.most, .int .i64 p.session.setup.pen, .slice X1 p.session.setup.entries.length Xk1, .int .i64 p.session.setup.dflt, .slice X2 p.session.setup.bigrams.length Xk2, .int .i64 p.session.setup.pause, .slice X3 p.session.strokes.length Xk3, .slice X4 p.session.opn.length Xk4, .int .i64 p.session.time, .slice X5 p.session.words.length Xk5, .slice X6 p.page.lines.length Xk6, .slice X7 p.page.done.length Xk7, .slice X8 p.page.undone.length Xk8] 73)
 replace c1 := bt c1 b4
 replace c1 := c1.alloc c1.size (.cells #[.int .i64 p.session.setup.band, .slice X0 p.session.setup.temps.length Xk0, .int .i64 p.session.setup.points, .int .i64 p.session.setup.most, .int .i64 p.session.setup.pen, .slice X1 p.session.setup.entries.length Xk1, .int .i64 p.session.setup.dflt, .slice X2 p.session.setup.bigrams.length Xk2, .int .i64 p.session.setup.pause, .slice X3 p.session.strokes.length Xk3, .slice X4 p.session.opn.length Xk4, .int .i64 p.session.time, .slice X5 p.session.words.length Xk5, .slice X6 p.page.lines.length Xk6, .slice X7 p.page.done.length Xk7, .slice X8 p.page.undone.length Xk8] 73)
 go_upto_region 7 with fail
 generalize w4.alloc (.cells #[.int .i64 p.session.setup.band, .slice X0 p.session.setup.temps.length Xk0, .int .i64 p.session.setup.points, .int .i64 p.session.setup.most, .int .i64 p.session.setup.pen, .slice X1 p.session.setup.entries.length Xk1, .int .i64 p.session.setup.dflt, .slice X2 p.session.setup.bigrams.length Xk2, .int .i64 p.session.setup.pause, .slice X3 p.session.strokes.length Xk3, .slice X4 p.session.opn.length Xk4, .int .i64 p.session.time, .slice X5 p.session.words.length Xk5, .slice X6 p.page.lines.length Xk6, .slice X7 p.page.done.length Xk7, .slice X8 p.page.undone.length Xk8] 73) = w5 at *
 apply wp_region_lit
 refine wpList_load_mid rfl 73 (.tmp 5) rfl (w4.heap.size) 0 rfl _ _ (Row.range X) Tryz.underlying73 rfl (by kernel_rfl) ?_
 go_wp2_with fail
 refine (HI.out _ _ _ x (hT.below c1)).mono ?_
 rintro e w6 ⟨rfl, b6⟩
 replace R := (R.later b6).drew
 replace X := (X.later b6).drew
 replace h := (h.below b6).drew
 replace x := (x.below b6).drew
 replace c1 := (bt c1 b6).drew
 go_upto_region 10 with fail
 have hS : (fun w' : World => w'.rangeAt w4.heap.size 0 [.int .i64 p.session.setup.band, .slice X0 p.session.setup.temps.length Xk0, .int .i64 p.session.setup.points, .int .i64 p.session.setup.most, .int .i64 p.session.setup.pen, .slice X1 p.session.setup.entries.length Xk1, .int .i64 p.session.setup.dflt, .slice X2 p.session.setup.bigrams.length Xk2, .int .i64 p.session.setup.pause, .slice X3 p.session.strokes.length Xk3, .slice X4 p.session.opn.length Xk4, .int .i64 p.session.time, .slice X5 p.session.words.length Xk5, .slice X6 p.page.lines.length Xk6, .slice X7 p.page.done.length Xk7, .slice X8 p.page.undone.length Xk8] ∧ w'.rangeAt w.heap.size 0 [.int .i64 p.session.setup.band, .slice A0 p.session.setup.temps.length Ak0, .int .i64 p.session.setup.points, .int .i64 p.session.setup.most, .int .i64 p.session.setup.pen, .slice A1 p.session.setup.entries.length Ak1, .int .i64 p.session.setup.dflt, .slice A2 p.session.setup.bigrams.length Ak2, .int .i64 p.session.setup.pause, .slice A3 p.session.strokes.length Ak3, .slice A4 p.session.opn.length Ak4, .int .i64 p.session.time, .slice A5 p.session.words.length Ak5, .slice A6 p.page.lines.length Ak6, .slice A7 p.page.done.length Ak7, .slice A8 p.page.undone.length Ak8]) w6.drew := ⟨X.range, R.range⟩
 dsimp only at hS
 refine wp_region_held_drew (S := (fun w' : World => w'.rangeAt w4.heap.size 0 [.int .i64 p.session.setup.band, .slice X0 p.session.setup.temps.length Xk0, .int .i64 p.session.setup.points, .int .i64 p.session.setup.most, .int .i64 p.session.setup.pen, .slice X1 p.session.setup.entries.length Xk1, .int .i64 p.session.setup.dflt, .slice X2 p.session.setup.bigrams.length Xk2, .int .i64 p.session.setup.pause, .slice X3 p.session.strokes.length Xk3, .slice X4 p.session.opn.length Xk4, .int .i64 p.session.time, .slice X5 p.session.words.length Xk5, .slice X6 p.page.lines.length Xk6, .slice X7 p.page.done.length Xk7, .slice X8 p.page.undone.length Xk8] ∧ w'.rangeAt w.heap.size 0 [.int .i64 p.session.setup.band, .slice A0 p.session.setup.temps.length Ak0, .int .i64 p.session.setup.points, .int .i64 p.session.setup.most, .int .i64 p.session.setup.pen, .slice A1 p.session.setup.entries.length Ak1, .int .i64 p.session.setup.dflt, .slice A2 p.session.setup.bigrams.length Ak2, .int .i64 p.session.setup.pause, .slice A3 p.session.strokes.length Ak3, .slice A4 p.session.opn.length Ak4, .int .i64 p.session.time, .slice A5 p.session.words.length Ak5, .slice A6 p.page.lines.length Ak6, .slice A7 p.page.done.length Ak7, .slice A8 p.page.undone.length Ak8])) (by kernel_rfl) hS (fun _ => ?_)
 refine wpAnyH_take (i := 0) (oi := { dst := some 22, op := .load 73 (.tmp 5), type := 73, pos := "exact.go:12572", after := #[], guard := none }) (v := _) rfl (by kernel_rfl) (by kernel_rfl) (by kernel_rfl) (fun _ _ _ h => h) (yieldsIf_load_mid (by rfl) 73 (.tmp 5) rfl (w4.heap.size) 0 rfl _ _ (fun w' h' => h'.1) Tryz.underlying73 rfl (by kernel_rfl)) hS ?_
 simp only [Act.put, pA, pB, pC]
 refine wpAnyH_take (i := 1) (oi := { dst := some 23, op := .load 47 (.tmp 1), type := 47, pos := "exact.go:12572", after := #[], guard := none }) (v := _) rfl (by kernel_rfl) (by kernel_rfl) (by kernel_rfl) (fun _ _ _ h => h) (yieldsIf_load_mid (by rfl) 47 (.tmp 1) rfl (w.heap.size) 0 rfl _ _ (fun w' h' => h'.2) Tryz.underlying47 rfl (by kernel_rfl)) hS ?_
 simp only [Act.put, pA, pB, pC]
 refine rJ 2 fun K hK => ?_
 refine step_call 6 #[.tmp 23] _ rfl rfl #[.agg #[.int .i64 p.session.setup.band, .slice A0 p.session.setup.temps.length Ak0, .int .i64 p.session.setup.points, .int .i64 p.session.setup.most, .int .i64 p.session.setup.pen, .slice A1 p.session.setup.entries.length Ak1, .int .i64 p.session.setup.dflt, .slice A2 p.session.setup.bigrams.length Ak2, .int .i64 p.session.setup.pause, .slice A3 p.session.strokes.length Ak3, .slice A4 p.session.opn.length Ak4, .int .i64 p.session.time, .slice A5 p.session.words.length Ak5, .slice A6 p.page.lines.length Ak6, .slice A7 p.page.done.length Ak7, .slice A8 p.page.undone.length Ak8]] Tryz.call6 (by go_simp) (toDesk_p _ h HP.out) ?_
 rintro e w7 ⟨u7, G7, rfl, r7, f7, b7⟩
 refine ⟨_, rfl, ?_⟩
 replace R := R.later b7
 replace X := X.later b7
 replace x := x.below b7
 replace c1 := bt c1 b7
 replace hS : (fun w' : World => w'.rangeAt w4.heap.size 0 [.int .i64 p.session.setup.band, .slice X0 p.session.setup.temps.length Xk0, .int .i64 p.session.setup.points, .int .i64 p.session.setup.most, .int .i64 p.session.setup.pen, .slice X1 p.session.setup.entries.length Xk1, .int .i64 p.session.setup.dflt, .slice X2 p.session.setup.bigrams.length Xk2, .int .i64 p.session.setup.pause, .slice X3 p.session.strokes.length Xk3, .slice X4 p.session.opn.length Xk4, .int .i64 p.session.time, .slice X5 p.session.words.length Xk5, .slice X6 p.page.lines.length Xk6, .slice X7 p.page.done.length Xk7, .slice X8 p.page.undone.length Xk8] ∧ w'.rangeAt w.heap.size 0 [.int .i64 p.session.setup.band, .slice A0 p.session.setup.temps.length Ak0, .int .i64 p.session.setup.points, .int .i64 p.session.setup.most, .int .i64 p.session.setup.pen, .slice A1 p.session.setup.entries.length Ak1, .int .i64 p.session.setup.dflt, .slice A2 p.session.setup.bigrams.length Ak2, .int .i64 p.session.setup.pause, .slice A3 p.session.strokes.length Ak3, .slice A4 p.session.opn.length Ak4, .int .i64 p.session.time, .slice A5 p.session.words.length Ak5, .slice A6 p.page.lines.length Ak6, .slice A7 p.page.done.length Ak7, .slice A8 p.page.undone.length Ak8]) w7 := ⟨X.range, R.range⟩
 dsimp only at hS
 refine bJ hK hS ?_
 clear hK K
 simp only [Act.put, pA, pB, pC]
 refine rJ 3 fun K hK => ?_
 refine step_call 8 #[.tmp 22, .tmp 24] _ rfl rfl #[.agg #[.int .i64 p.session.setup.band, .slice X0 p.session.setup.temps.length Xk0, .int .i64 p.session.setup.points, .int .i64 p.session.setup.most, .int .i64 p.session.setup.pen, .slice X1 p.session.setup.entries.length Xk1, .int .i64 p.session.setup.dflt, .slice X2 p.session.setup.bigrams.length Xk2, .int .i64 p.session.setup.pause, .slice X3 p.session.strokes.length Xk3, .slice X4 p.session.opn.length Xk4, .int .i64 p.session.time, .slice X5 p.session.words.length Xk5, .slice X6 p.page.lines.length Xk6, .slice X7 p.page.done.length Xk7, .slice X8 p.page.undone.length Xk8], u7] Tryz.call8 (by go_simp) (eqDesk_p _ x r7 HP.out HP.out) ?_
 rintro e w8 ⟨rfl, b8⟩
 refine ⟨_, rfl, ?_⟩
 replace R := R.later b8
 replace X := X.later b8
 replace c1 := bt c1 b8
 replace hS : (fun w' : World => w'.rangeAt w4.heap.size 0 [.int .i64 p.session.setup.band, .slice X0 p.session.setup.temps.length Xk0, .int .i64 p.session.setup.points, .int .i64 p.session.setup.most, .int .i64 p.session.setup.pen, .slice X1 p.session.setup.entries.length Xk1, .int .i64 p.session.setup.dflt, .slice X2 p.session.setup.bigrams.length Xk2, .int .i64 p.session.setup.pause, .slice X3 p.session.strokes.length Xk3, .slice X4 p.session.opn.length Xk4, .int .i64 p.session.time, .slice X5 p.session.words.length Xk5, .slice X6 p.page.lines.length Xk6, .slice X7 p.page.done.length Xk7, .slice X8 p.page.undone.length Xk8] ∧ w'.rangeAt w.heap.size 0 [.int .i64 p.session.setup.band, .slice A0 p.session.setup.temps.length Ak0, .int .i64 p.session.setup.points, .int .i64 p.session.setup.most, .int .i64 p.session.setup.pen, .slice A1 p.session.setup.entries.length Ak1, .int .i64 p.session.setup.dflt, .slice A2 p.session.setup.bigrams.length Ak2, .int .i64 p.session.setup.pause, .slice A3 p.session.strokes.length Ak3, .slice A4 p.session.opn.length Ak4, .int .i64 p.session.time, .slice A5 p.session.words.length Ak5, .slice A6 p.page.lines.length Ak6, .slice A7 p.page.done.length Ak7, .slice A8 p.page.undone.length Ak8]) w8 := ⟨X.range, R.range⟩
 dsimp only at hS
 refine bJ hK hS ?_
 clear hK K
 simp only [Act.put, pA, pB, pC]
 refine tJ 4 hS ?_
 refine wpAnyH_done (by kernel_rfl) ?_ _
 go_wp2_with fail
 go_ret
 exact ⟨rfl, c1⟩
theorem opens_lpoint : Opens Tryz.prog 158 pPoint :=
 opens_via (opens_struct Tryz.underlying158 (by kernel_rfl) (fields_cons rfl (by kernel_rfl) (opens_int64 Tryz.underlying2) (fields_cons rfl (by kernel_rfl) (opens_int64 Tryz.underlying2) (fields_one rfl (by kernel_rfl) (opens_int64 Tryz.underlying2))))) _ (fun p => ⟨p.1, p.2.1, p.2.2⟩) (fun _ => rfl)
theorem opens_lpointS : Opens Tryz.prog 38 (pPoints 158) :=
 opens_slice Tryz.underlying38 (by kernel_rfl) (by decide) opens_lpoint
theorem opens_lstroke : Opens Tryz.prog 186 (pStroke 158) :=
 opens_struct Tryz.underlying186 (by kernel_rfl) (fields_one rfl (by kernel_rfl) opens_lpointS)
theorem opens_lstrokeS : Opens Tryz.prog 35 (pStrokes 158 186) :=
 opens_slice Tryz.underlying35 (by kernel_rfl) (by decide) opens_lstroke
theorem opens_link : Opens Tryz.prog 37 (pStrokes 158 186) :=
 opens_struct Tryz.underlying37 (by kernel_rfl) (fields_one rfl (by kernel_rfl) opens_lstrokeS)
abbrev idsL : Ids := ⟨284, 228, 231, 234, 158, 186⟩
def aStore : Ty (Int × List PTemp) := int64.prod (pTemps 284 228)
def aModel : Ty (Int × List PBigram) := int64.prod (pBigrams 234)
def aSetup : Ty PSetup := (aStore.prod (pSetting.prod ((pEntrys 231).prod (aModel.prod int64)))).via fun p => ((p.band, p.temps), (⟨p.points, p.most, p.pen⟩, (p.entries, ((p.dflt, p.bigrams), p.pause))))
def aSess : Ty PSess := (aSetup.prod ((pStrokes 158 186).prod ((pPoints 158).prod (int64.prod (strs 9))))).via fun p => (p.setup, (p.strokes, (p.opn, (p.time, p.words))))
theorem slice_one {α : Type} {T : Ty α} {e : TypeId} {o : Bool} {w : World} {xs : List α} {cs : List Value} {F : List Nat} (h : (T.slice e).rep o w xs cs F) : ∃ v, cs = [v] := by
 obtain ⟨A, c, ec, F0, F1, rfl, _⟩ := h
 exact ⟨_, rfl⟩
theorem setup_cells {o : Bool} {w : World} {p : PSetup} {cs : List Value} {F : List Nat} (h : aSetup.rep o w p cs F) : ∃ a b c F0 F1 F2, cs = [.int .i64 p.band, a, .int .i64 p.points, .int .i64 p.most, .int .i64 p.pen, b, .int .i64 p.dflt, c, .int .i64 p.pause] ∧ F = F0 ++ (F1 ++ F2) ∧ (pTemps 284 228).rep o w p.temps [a] F0 ∧ (pEntrys 231).rep o w p.entries [b] F1 ∧ (pBigrams 234).rep o w p.bigrams [c] F2 := by
 obtain ⟨_, _, _, _, rfl, rfl, ⟨_, _, _, _, rfl, rfl, ⟨rfl, rfl, -⟩, h1⟩, _, _, _, _, rfl, rfl, hs, _, _, _, _, rfl, rfl, h2, _, _, _, _, rfl, rfl, ⟨_, _, _, _, rfl, rfl, ⟨rfl, rfl, -⟩, h3⟩, rfl, rfl, -⟩ := h
 obtain ⟨rfl, rfl, -⟩ := pSetting_rep.1 hs
 obtain ⟨a, rfl⟩ := slice_one h1
 obtain ⟨b, rfl⟩ := slice_one h2
 obtain ⟨c, rfl⟩ := slice_one h3
 exact ⟨a, b, c, _, _, _, rfl, by simp, h1, h2, h3⟩
theorem SetupIs.of {o : Bool} {w : World} {p : PSetup} {cs : List Value} {F : List Nat} (h : aSetup.rep o w p cs F) : SetupIs idsL o w p (.agg cs.toArray) F := by
 obtain ⟨a, b, c, F0, F1, F2, rfl, rfl, h1, h2, h3⟩ := setup_cells h
 exact ⟨a, b, c, F0, F1, F2, rfl, rfl, h1, h2, h3⟩
theorem sess_cells {o : Bool} {w : World} {p : PSess} {cs : List Value} {F : List Nat} (h : aSess.rep o w p cs F) : ∃ a b c d g x F0 F1 F2 F3 F4 F5, cs = [.int .i64 p.setup.band, a, .int .i64 p.setup.points, .int .i64 p.setup.most, .int .i64 p.setup.pen, b, .int .i64 p.setup.dflt, c, .int .i64 p.setup.pause, d, g, .int .i64 p.time, x] ∧ F = F0 ++ (F1 ++ (F2 ++ (F3 ++ (F4 ++ F5)))) ∧ (pTemps 284 228).rep o w p.setup.temps [a] F0 ∧ (pEntrys 231).rep o w p.setup.entries [b] F1 ∧ (pBigrams 234).rep o w p.setup.bigrams [c] F2 ∧ (pStrokes 158 186).rep o w p.strokes [d] F3 ∧ (pPoints 158).rep o w p.opn [g] F4 ∧ (strs 9).rep o w p.words [x] F5 := by
 obtain ⟨_, _, _, _, rfl, rfl, hs, _, _, _, _, rfl, rfl, h4, _, _, _, _, rfl, rfl, h5, _, _, _, _, rfl, rfl, ⟨rfl, rfl, -⟩, h6⟩ := h
 obtain ⟨a, b, c, F0, F1, F2, rfl, rfl, h1, h2, h3⟩ := setup_cells hs
 obtain ⟨d, rfl⟩ := slice_one h4
 obtain ⟨g, rfl⟩ := slice_one h5
 obtain ⟨x, rfl⟩ := slice_one h6
 exact ⟨a, b, c, d, g, x, F0, F1, F2, _, _, _, rfl, by simp, h1, h2, h3, h4, h5, h6⟩
theorem SessIs.of {o : Bool} {w : World} {p : PSess} {cs : List Value} {F : List Nat} (h : aSess.rep o w p cs F) : SessIs idsL o w p (.agg cs.toArray) F := by
 obtain ⟨a, b, c, d, g, x, F0, F1, F2, F3, F4, F5, rfl, rfl, h1, h2, h3, h4, h5, h6⟩ := sess_cells h
 exact ⟨a, b, c, d, g, x, F0, F1, F2, F3, F4, F5, rfl, rfl, h1, h2, h3, h4, h5, h6⟩
theorem opens_lfeat : Opens Tryz.prog 284 pFeat :=
 opens_via (opens_struct Tryz.underlying284 (by kernel_rfl) (fields_cons rfl (by kernel_rfl) (opens_int64 Tryz.underlying2) (fields_cons rfl (by kernel_rfl) (opens_int64 Tryz.underlying2) (fields_one rfl (by kernel_rfl) (opens_int64 Tryz.underlying2))))) _ (fun p => ⟨p.1, p.2.1, p.2.2⟩) (fun _ => rfl)
theorem opens_lfeatS : Opens Tryz.prog 226 (pFeats 284) := opens_slice Tryz.underlying226 (by kernel_rfl) (by decide) opens_lfeat
theorem opens_ltemp : Opens Tryz.prog 228 (pTemp 284) :=
 opens_via (opens_struct Tryz.underlying228 (by kernel_rfl) (fields_cons rfl (by kernel_rfl) (opens_str Tryz.underlying9) (fields_one rfl (by kernel_rfl) opens_lfeatS))) _ (fun p => ⟨p.1, p.2⟩) (fun _ => rfl)
theorem opens_ltempS : Opens Tryz.prog 22 (pTemps 284 228) := opens_slice Tryz.underlying22 (by kernel_rfl) (by decide) opens_ltemp
theorem opens_lentry : Opens Tryz.prog 231 pEntry :=
 opens_via (opens_struct Tryz.underlying231 (by kernel_rfl) (fields_cons rfl (by kernel_rfl) (opens_str Tryz.underlying9) (fields_one rfl (by kernel_rfl) (opens_int64 Tryz.underlying2)))) _ (fun p => ⟨p.1, p.2⟩) (fun _ => rfl)
theorem opens_lentryS : Opens Tryz.prog 27 (pEntrys 231) := opens_slice Tryz.underlying27 (by kernel_rfl) (by decide) opens_lentry
theorem opens_lbigram : Opens Tryz.prog 234 pBigram :=
 opens_via (opens_struct Tryz.underlying234 (by kernel_rfl) (fields_cons rfl (by kernel_rfl) (opens_str Tryz.underlying9) (fields_cons rfl (by kernel_rfl) (opens_str Tryz.underlying9) (fields_one rfl (by kernel_rfl) (opens_int64 Tryz.underlying2))))) _ (fun p => ⟨p.1, p.2.1, p.2.2⟩) (fun _ => rfl)
theorem opens_lbigramS : Opens Tryz.prog 30 (pBigrams 234) := opens_slice Tryz.underlying30 (by kernel_rfl) (by decide) opens_lbigram
theorem opens_lstore : Opens Tryz.prog 24 aStore :=
 opens_struct Tryz.underlying24 (by kernel_rfl) (fields_cons rfl (by kernel_rfl) (opens_int64 Tryz.underlying2) (fields_one rfl (by kernel_rfl) opens_ltempS))
theorem opens_lsetting : Opens Tryz.prog 26 pSetting :=
 opens_via (opens_struct Tryz.underlying26 (by kernel_rfl) (fields_cons rfl (by kernel_rfl) (opens_int64 Tryz.underlying2) (fields_cons rfl (by kernel_rfl) (opens_int64 Tryz.underlying2) (fields_one rfl (by kernel_rfl) (opens_int64 Tryz.underlying2))))) _ (fun p => ⟨p.1, p.2.1, p.2.2⟩) (fun _ => rfl)
theorem opens_llex : Opens Tryz.prog 29 (pEntrys 231) := opens_struct Tryz.underlying29 (by kernel_rfl) (fields_one rfl (by kernel_rfl) opens_lentryS)
theorem opens_lmodel : Opens Tryz.prog 32 aModel :=
 opens_struct Tryz.underlying32 (by kernel_rfl) (fields_cons rfl (by kernel_rfl) (opens_int64 Tryz.underlying2) (fields_one rfl (by kernel_rfl) opens_lbigramS))
theorem opens_lsetup : Opens Tryz.prog 34 aSetup :=
 opens_via (opens_struct Tryz.underlying34 (by kernel_rfl) (fields_cons rfl (by kernel_rfl) opens_lstore (fields_cons rfl (by kernel_rfl) opens_lsetting (fields_cons rfl (by kernel_rfl) opens_llex (fields_cons rfl (by kernel_rfl) opens_lmodel (fields_one rfl (by kernel_rfl) (opens_int64 Tryz.underlying2))))))) _ (fun p => ⟨p.1.1, p.1.2, p.2.1.points, p.2.1.most, p.2.1.pen, p.2.2.1, p.2.2.2.1.1, p.2.2.2.1.2, p.2.2.2.2⟩) (fun _ => rfl)
theorem opens_lwords : Opens Tryz.prog 39 (strs 9) := opens_slice Tryz.underlying39 (by kernel_rfl) (by decide) (opens_str Tryz.underlying9)
theorem opens_lsess : Opens Tryz.prog 41 aSess :=
 opens_via (opens_struct Tryz.underlying41 (by kernel_rfl) (fields_cons rfl (by kernel_rfl) opens_lsetup (fields_cons rfl (by kernel_rfl) opens_link (fields_cons rfl (by kernel_rfl) opens_lpointS (fields_cons rfl (by kernel_rfl) (opens_int64 Tryz.underlying2) (fields_one rfl (by kernel_rfl) opens_lwords)))))) _ (fun p => ⟨p.1, p.2.1, p.2.2.1, p.2.2.2.1, p.2.2.2.2⟩) (fun _ => rfl)
def aPage (el es : TypeId) : Ty PPage := ((pLines el).prod ((pSteps es).prod (pSteps es))).via fun p => (p.lines, p.done, p.undone)
theorem PageIs.of {el es : TypeId} {o : Bool} {w : World} {p : PPage} {cs : List Value} {F : List Nat} (h : (aPage el es).rep o w p cs F) : PageIs el es o w p (.agg cs.toArray) F := by
 obtain ⟨c1, d1, F1, G1, rfl, rfl, h1, c2, d2, F2, G2, rfl, rfl, h2, h3⟩ := h
 obtain ⟨A1, k1, _, _, _, e1, _⟩ := id h1
 obtain ⟨A2, k2, _, _, _, e2, _⟩ := id h2
 obtain ⟨A3, k3, _, _, _, e3, _⟩ := id h3
 subst e1 e2 e3
 exact ⟨_, _, _, F1, F2, G2, rfl, rfl, h1, h2, h3⟩
theorem opens_lstep : Opens Tryz.prog 135 pStep :=
 opens_via (opens_struct Tryz.underlying135 (by kernel_rfl) (fields_cons rfl (by kernel_rfl) (opens_int64 Tryz.underlying2) (fields_cons rfl (by kernel_rfl) (opens_int64 Tryz.underlying2) (fields_cons rfl (by kernel_rfl) (opens_int64 Tryz.underlying2) (fields_cons rfl (by kernel_rfl) (opens_str Tryz.underlying9) (fields_one rfl (by kernel_rfl) (opens_str Tryz.underlying9))))))) _ (fun p => ⟨p.1, p.2.1, p.2.2.1, p.2.2.2.1, p.2.2.2.2⟩) (fun _ => rfl)
theorem opens_lstepS : Opens Tryz.prog 43 (pSteps 135) :=
 opens_slice Tryz.underlying43 (by kernel_rfl) (by decide) opens_lstep
theorem opens_lwordsP : Opens Tryz.prog 39 (strs 9) :=
 opens_slice Tryz.underlying39 (by kernel_rfl) (by decide) (opens_str Tryz.underlying9)
theorem opens_lline : Opens Tryz.prog 132 pLine :=
 opens_struct Tryz.underlying132 (by kernel_rfl) (fields_one rfl (by kernel_rfl) opens_lwordsP)
theorem opens_llineS : Opens Tryz.prog 42 (pLines 132) :=
 opens_slice Tryz.underlying42 (by kernel_rfl) (by decide) opens_lline
theorem opens_lpage : Opens Tryz.prog 45 (aPage 132 135) :=
 opens_via (opens_struct Tryz.underlying45 (by kernel_rfl) (fields_cons rfl (by kernel_rfl) opens_llineS (fields_cons rfl (by kernel_rfl) opens_lstepS (fields_one rfl (by kernel_rfl) opens_lstepS)))) _ (fun p => ⟨p.1, p.2.1, p.2.2⟩) (fun _ => rfl)
abbrev didsL : DIds := ⟨idsL, 132, 135⟩
def aDesk : Ty PDesk := (aSess.prod (aPage 132 135)).via fun p => (p.session, p.page)
theorem DeskIs.of {o : Bool} {w : World} {p : PDesk} {cs : List Value} {F : List Nat} (h : aDesk.rep o w p cs F) : DeskIs didsL o w p (.agg cs.toArray) F := by
 obtain ⟨_, _, _, _, rfl, rfl, hs, _, _, _, _, rfl, rfl, h7, _, _, _, _, rfl, rfl, h8, h9⟩ := h
 obtain ⟨a, b, c, d, g, x, F0, F1, F2, F3, F4, F5, rfl, rfl, h1, h2, h3, h4, h5, h6⟩ := sess_cells hs
 obtain ⟨l, rfl⟩ := slice_one h7
 obtain ⟨m, rfl⟩ := slice_one h8
 obtain ⟨n, rfl⟩ := slice_one h9
 exact ⟨a, b, c, d, g, x, l, m, n, F0, F1, F2, F3, F4, F5, _, _, _, rfl, by simp only [List.append_assoc], h1, h2, h3, h4, h5, h6, h7, h8, h9⟩
theorem opens_ldesk : Opens Tryz.prog 47 aDesk :=
 opens_via (opens_struct Tryz.underlying47 (by kernel_rfl) (fields_cons rfl (by kernel_rfl) opens_lsess (fields_one rfl (by kernel_rfl) opens_lpage))) _ (fun p => ⟨p.1, p.2⟩) (fun _ => rfl)
end Go.Proofs.YtboijogahclekaaGreatDoor
