/- NewDesk of the program and of the reference. Conditions: none. -/
import Derived.Test.YtkfadfddhbpngaaGreatTkv
import Derived.Test.YtkfadfddhbpngaaGreatWidev
import Derived.Test.YtkfadfddhbpngaaGreatSeStartv
import Derived.Test.YtkfadfddhbpngaaGreatDkIsv
import Derived.Test.YtkfadfddhbpngaaGreatPgNewv
namespace Go.Proofs.YtkfadfddhbpngaaGreat
open Go Go.RowKit
abbrev zo13_2_1 : Oper := { dst := some 12, op := .call { callee := .value (.func 37), args := #[], argTypes := #[] }, type := 71, pos := "l28_console.go:18", after := #[], guard := none }
abbrev zo13_2_2 : Oper := { dst := some 13, op := .build 73 #[(0, .tmp 11), (1, .tmp 12)], type := 73, pos := "l28_console.go:18", after := #[{ on := 0, ground := .data }, { on := 1, ground := .data }], guard := none }
abbrev zo13_2_3 : Oper := { dst := none, op := .store 73 (.tmp 0) (.tmp 13), type := 0, pos := "l28_console.go:18", after := #[{ on := 2, ground := .data }, { on := 1, ground := .chain }, { on := 0, ground := .phase }, { on := 1, ground := .phase }, { on := 2, ground := .phase }], guard := none }
abbrev zo36_2_1 : Oper := { dst := some 7, op := .build 67 #[(0, .tmp 6)], type := 67, pos := "l28_console.go:7", after := #[{ on := 0, ground := .data }], guard := none }
abbrev zo36_2_2 : Oper := { dst := some 8, op := .call { callee := .value (.func 99), args := #[], argTypes := #[] }, type := 71, pos := "l28_console.go:7", after := #[], guard := none }
abbrev zo36_2_3 : Oper := { dst := some 9, op := .build 73 #[(0, .tmp 7), (1, .tmp 8)], type := 73, pos := "l28_console.go:7", after := #[{ on := 1, ground := .data }, { on := 2, ground := .data }], guard := none }
abbrev zo36_2_4 : Oper := { dst := none, op := .store 73 (.tmp 0) (.tmp 9), type := 0, pos := "l28_console.go:7", after := #[{ on := 3, ground := .data }, { on := 2, ground := .chain }, { on := 0, ground := .phase }, { on := 1, ground := .phase }, { on := 2, ground := .phase }, { on := 3, ground := .phase }], guard := none }

theorem rangeAt_only {w w' : World} {F : List Nat} {b : Nat} {cs : List Value} (h : w.rangeAt b 0 cs) (ho : Only F w w') (hb : b ∉ F) : w'.rangeAt b 0 cs := fun j v hv => by
 have h1 := h j v hv
 have hl := World.block_lt_of_cell? w _ h1
 exact (World.cell?_of_block (ho.block b hl hb)).trans h1
def newSetup : PSetup := ⟨8, [], 4, 3, 20, [], 10, [], 500⟩
def newSess : PSess := ⟨newSetup, [], [], 0, []⟩
def newDesk : PDesk := ⟨newSess, newPage⟩
theorem newSetup_is (I : Ids) (o : Bool) (w : World) : SetupIs I o w newSetup (.agg #[.int .i64 8, .slice none 0 0, .int .i64 4, .int .i64 3, .int .i64 20, .slice none 0 0, .int .i64 10, .slice none 0 0, .int .i64 500]) [] :=
 ⟨_, _, _, [], [], [], rfl, rfl, slice_nil _ _ _ _, slice_nil _ _ _ _, slice_nil _ _ _ _⟩
theorem newSetup_small : SeSmall newSetup ∧ SeBytes newSetup := ⟨⟨by simp [newSetup], by simp [newSetup], by simp [newSetup], by simp [newSetup]⟩, ⟨by simp [newSetup], by simp [newSetup], by simp [newSetup]⟩⟩
theorem newSetup_ok : setupB newSetup = true := by decide +kernel
theorem start_new : startR newSetup = (newSess, 0) := by rw [startR, if_pos newSetup_ok]; rfl

set_option maxRecDepth 100000 in
set_option maxHeartbeats 4000000 in
theorem impl_NewDesk_p (w : World) : Calls Tryz.prog 13 #[] w (GivesDesk newDesk w) := by
 have O := Row.new w 73 #[.int .i64 0, .slice none 0 0, .int .i64 0, .int .i64 0, .int .i64 0, .slice none 0 0, .int .i64 0, .slice none 0 0, .int .i64 0, .slice none 0 0, .slice none 0 0, .int .i64 0, .slice none 0 0, .slice none 0 0, .slice none 0 0, .slice none 0 0]
 have bb : Below w.heap.size w (w.alloc (.cells #[.int .i64 0, .slice none 0 0, .int .i64 0, .int .i64 0, .int .i64 0, .slice none 0 0, .int .i64 0, .slice none 0 0, .int .i64 0, .slice none 0 0, .slice none 0 0, .int .i64 0, .slice none 0 0, .slice none 0 0, .slice none 0 0, .slice none 0 0] 73)) := (Below.refl _ _).alloc (Nat.le_refl _) _
 have HS := Lib.hid (start_new ▸ impl_StartSession_p (w.alloc (.cells #[.int .i64 0, .slice none 0 0, .int .i64 0, .int .i64 0, .int .i64 0, .slice none 0 0, .int .i64 0, .slice none 0 0, .int .i64 0, .slice none 0 0, .slice none 0 0, .int .i64 0, .slice none 0 0, .slice none 0 0, .slice none 0 0, .slice none 0 0] 73)) (newSetup_is idsI true _) newSetup_small.1 newSetup_small.2)
 have HP := Lib.hid (fun w => impl_NewPage_c w)
 show Calls _ _ _ _ (GivesDesk ⟨newSess, newPage⟩ w)
 generalize newSess = q at HS ⊢
 generalize newPage = g0 at HP ⊢
 go_enter Tryz.func13, Tryz.ntmps13
 go_wp2_with fail
 refine HS.out.mono ?_
 rintro e w1 ⟨u, G, rfl, r, f, b1⟩
 dsimp only at r
 obtain ⟨B0, j0, B1, j1, B2, j2, B3, j3, B4, j4, B5, j5, rfl⟩ := r.shape
 replace O := O.later b1
 replace bb := bt bb b1
 clear HS
 have lt := O.lt
 have T1 := Row.new w1 67 #[.int .i64 q.setup.band, .slice B0 q.setup.temps.length j0, .int .i64 q.setup.points, .int .i64 q.setup.most, .int .i64 q.setup.pen, .slice B1 q.setup.entries.length j1, .int .i64 q.setup.dflt, .slice B2 q.setup.bigrams.length j2, .int .i64 q.setup.pause, .slice B3 q.strokes.length j3, .slice B4 q.opn.length j4, .int .i64 q.time, .slice B5 q.words.length j5]
 replace O := O.alloc (.cells #[.int .i64 q.setup.band, .slice B0 q.setup.temps.length j0, .int .i64 q.setup.points, .int .i64 q.setup.most, .int .i64 q.setup.pen, .slice B1 q.setup.entries.length j1, .int .i64 q.setup.dflt, .slice B2 q.setup.bigrams.length j2, .int .i64 q.setup.pause, .slice B3 q.strokes.length j3, .slice B4 q.opn.length j4, .int .i64 q.time, .slice B5 q.words.length j5] 67)
 replace r := r.alloc (.cells #[.int .i64 q.setup.band, .slice B0 q.setup.temps.length j0, .int .i64 q.setup.points, .int .i64 q.setup.most, .int .i64 q.setup.pen, .slice B1 q.setup.entries.length j1, .int .i64 q.setup.dflt, .slice B2 q.setup.bigrams.length j2, .int .i64 q.setup.pause, .slice B3 q.strokes.length j3, .slice B4 q.opn.length j4, .int .i64 q.time, .slice B5 q.words.length j5] 67)
 replace bb := bb.alloc bb.size (.cells #[.int .i64 q.setup.band, .slice B0 q.setup.temps.length j0, .int .i64 q.setup.points, .int .i64 q.setup.most, .int .i64 q.setup.pen, .slice B1 q.setup.entries.length j1, .int .i64 q.setup.dflt, .slice B2 q.setup.bigrams.length j2, .int .i64 q.setup.pause, .slice B3 q.strokes.length j3, .slice B4 q.opn.length j4, .int .i64 q.time, .slice B5 q.words.length j5] 67)
 have sz : (w1.alloc (.cells #[.int .i64 q.setup.band, .slice B0 q.setup.temps.length j0, .int .i64 q.setup.points, .int .i64 q.setup.most, .int .i64 q.setup.pen, .slice B1 q.setup.entries.length j1, .int .i64 q.setup.dflt, .slice B2 q.setup.bigrams.length j2, .int .i64 q.setup.pause, .slice B3 q.strokes.length j3, .slice B4 q.opn.length j4, .int .i64 q.time, .slice B5 q.words.length j5] 67)).heap.size = w1.heap.size + 1 := by simp
 go_upto_region 2 with fail
 generalize w1.alloc (.cells #[.int .i64 q.setup.band, .slice B0 q.setup.temps.length j0, .int .i64 q.setup.points, .int .i64 q.setup.most, .int .i64 q.setup.pen, .slice B1 q.setup.entries.length j1, .int .i64 q.setup.dflt, .slice B2 q.setup.bigrams.length j2, .int .i64 q.setup.pause, .slice B3 q.strokes.length j3, .slice B4 q.opn.length j4, .int .i64 q.time, .slice B5 q.words.length j5] 67) = wa at *
 have hS : (fun w' : World => w'.rangeAt w1.heap.size 0 [.int .i64 q.setup.band, .slice B0 q.setup.temps.length j0, .int .i64 q.setup.points, .int .i64 q.setup.most, .int .i64 q.setup.pen, .slice B1 q.setup.entries.length j1, .int .i64 q.setup.dflt, .slice B2 q.setup.bigrams.length j2, .int .i64 q.setup.pause, .slice B3 q.strokes.length j3, .slice B4 q.opn.length j4, .int .i64 q.time, .slice B5 q.words.length j5]) wa.drew := T1.drew.range
 dsimp only at hS
 refine wp_region_held_drew (S := (fun w' : World => w'.rangeAt w1.heap.size 0 [.int .i64 q.setup.band, .slice B0 q.setup.temps.length j0, .int .i64 q.setup.points, .int .i64 q.setup.most, .int .i64 q.setup.pen, .slice B1 q.setup.entries.length j1, .int .i64 q.setup.dflt, .slice B2 q.setup.bigrams.length j2, .int .i64 q.setup.pause, .slice B3 q.strokes.length j3, .slice B4 q.opn.length j4, .int .i64 q.time, .slice B5 q.words.length j5])) (by kernel_rfl) hS (fun _ => ?_)
 refine wpAnyH_take (i := 0) (oi := { dst := some 11, op := .load 67 (.tmp 1), type := 67, pos := "l28_console.go:18", after := #[], guard := none }) (v := _) rfl (by kernel_rfl) (by kernel_rfl) (by kernel_rfl) (fun _ _ _ h => h) (yieldsIf_load_mid (by rfl) 67 (.tmp 1) rfl (w1.heap.size) 0 rfl _ _ (fun w' h' => h') Tryz.underlying67 rfl (by kernel_rfl)) hS ?_
 simp only [Act.put, pA, pB, pC]
 refine wpAnyH_ready (rs := [1]) (by kernel_rfl) (by simp) ?_
 refine AllReadyH.cons (o := zo13_2_1) rfl (fun K hK => ?_) .nil
 refine step_call 37 #[] _ rfl rfl #[] Tryz.call37 (by go_simp) (HP.out _) ?_
 rintro e w2 ⟨gv, GG, rfl, pg, fg, b2⟩
 obtain ⟨C0, i0, C1, i1, C2, i2, rfl⟩ := pg.shape
 refine ⟨_, rfl, ?_⟩
 have rb := r.drew.blocks
 replace T1 := T1.drew.later b2
 replace O := O.drew.later b2
 replace r := r.drew.below b2
 replace bb := bt bb.drew b2
 have lt2 := b2.size
 replace hS : (fun w' : World => w'.rangeAt w1.heap.size 0 [.int .i64 q.setup.band, .slice B0 q.setup.temps.length j0, .int .i64 q.setup.points, .int .i64 q.setup.most, .int .i64 q.setup.pen, .slice B1 q.setup.entries.length j1, .int .i64 q.setup.dflt, .slice B2 q.setup.bigrams.length j2, .int .i64 q.setup.pause, .slice B3 q.strokes.length j3, .slice B4 q.opn.length j4, .int .i64 q.time, .slice B5 q.words.length j5]) w2 := T1.range
 dsimp only at hS
 refine hK.out _ _ ?_ (fun hHeld => ?_)
 · exact hS
 clear hK K hHeld
 simp only [Act.put, pA, pB, pC]
 refine tK (i := 2) (oi := zo13_2_2) (v := ?_) rfl (by kernel_rfl) (fun _ _ _ h => h) (Or.inl ⟨rfl, ?_⟩) hS ?_
 rotate_left
 · (intro w' hS'; (try dsimp only at hS'); dsimp only [zo13_2_2]; go_simp; try with_reducible rfl)
 simp only [Act.put, pA, pB, pC]
 refine wpAnyH_ready (rs := [3]) (by kernel_rfl) (by simp) ?_
 refine AllReadyH.cons (o := zo13_2_3) rfl (fun K hK => ?_) .nil
 rw [if_pos (by rfl)]
 have oth := O.there
 refine wp_store_mid 73 (.tmp 0) (.tmp 13) rfl w.heap.size 0 #[.int .i64 q.setup.band, .slice B0 q.setup.temps.length j0, .int .i64 q.setup.points, .int .i64 q.setup.most, .int .i64 q.setup.pen, .slice B1 q.setup.entries.length j1, .int .i64 q.setup.dflt, .slice B2 q.setup.bigrams.length j2, .int .i64 q.setup.pause, .slice B3 q.strokes.length j3, .slice B4 q.opn.length j4, .int .i64 q.time, .slice B5 q.words.length j5, .slice C0 g0.lines.length i0, .slice C1 g0.done.length i1, .slice C2 g0.undone.length i2] rfl rfl oth (by kernel_rfl) (by simp [Value.oneCell']) ?_
 have onE := Only.setCells (b := w.heap.size) (F := [w.heap.size]) (by simp) [.int .i64 q.setup.band, .slice B0 q.setup.temps.length j0, .int .i64 q.setup.points, .int .i64 q.setup.most, .int .i64 q.setup.pen, .slice B1 q.setup.entries.length j1, .int .i64 q.setup.dflt, .slice B2 q.setup.bigrams.length j2, .int .i64 q.setup.pause, .slice B3 q.strokes.length j3, .slice B4 q.opn.length j4, .int .i64 q.time, .slice B5 q.words.length j5, .slice C0 g0.lines.length i0, .slice C1 g0.done.length i1, .slice C2 g0.undone.length i2] 0 _ (Only.refl [w.heap.size] w2)
 have TF := O.setCells (vs := [.int .i64 q.setup.band, .slice B0 q.setup.temps.length j0, .int .i64 q.setup.points, .int .i64 q.setup.most, .int .i64 q.setup.pen, .slice B1 q.setup.entries.length j1, .int .i64 q.setup.dflt, .slice B2 q.setup.bigrams.length j2, .int .i64 q.setup.pause, .slice B3 q.strokes.length j3, .slice B4 q.opn.length j4, .int .i64 q.time, .slice B5 q.words.length j5, .slice C0 g0.lines.length i0, .slice C1 g0.done.length i1, .slice C2 g0.undone.length i2]) rfl
 have bE := bb.trans (onE.below bb.size (fun x hx => by simp at hx; omega))
 refine hK.out _ _ (rangeAt_only T1.range onE (by simp; omega)) (fun _ => ?_)
 clear hK K
 refine wpAnyH_done (by kernel_rfl) ?_ _
 have q1 := r.only onE (fun x hx hin => by have := f.2 x hx; simp at hin this; omega)
 have q2 := pg.only onE (fun x hx hin => by have := fg.2 x hx; simp at hin lt2 this; omega)
 have FR := fresh_app (f.mono (B' := w.heap.size) (by simp)) rb fg (by simp at lt2 ⊢; omega)
 go_wp2_with fail
 exact bodyPost_ret (results_cell rfl rfl TF.range Tryz.underlying73 rfl (by kernel_rfl)) rfl ⟨_, _, rfl, DeskIs.join q1 q2, FR, bE⟩
theorem newSess_is (I : Ids) (o : Bool) (w : World) : SessIs I o w newSess (.agg #[.int .i64 8, .slice none 0 0, .int .i64 4, .int .i64 3, .int .i64 20, .slice none 0 0, .int .i64 10, .slice none 0 0, .int .i64 500, .slice none 0 0, .slice none 0 0, .int .i64 0, .slice none 0 0]) [] := (newSetup_is I o w).start
set_option maxRecDepth 100000 in
set_option maxHeartbeats 4000000 in
theorem spec_l28New_p (w : World) : Calls Tryz.prog 36 #[] w (GivesDesk newDesk w) := by
 have O := (Row.new w 73 #[.int .i64 0, .slice none 0 0, .int .i64 0, .int .i64 0, .int .i64 0, .slice none 0 0, .int .i64 0, .slice none 0 0, .int .i64 0, .slice none 0 0, .slice none 0 0, .int .i64 0, .slice none 0 0, .slice none 0 0, .slice none 0 0, .slice none 0 0]).alloc (.cells #[.int .i64 8, .slice none 0 0, .int .i64 4, .int .i64 3, .int .i64 20, .slice none 0 0, .int .i64 10, .slice none 0 0, .int .i64 500] 61)
 have T1 := Row.new (w.alloc (.cells #[.int .i64 0, .slice none 0 0, .int .i64 0, .int .i64 0, .int .i64 0, .slice none 0 0, .int .i64 0, .slice none 0 0, .int .i64 0, .slice none 0 0, .slice none 0 0, .int .i64 0, .slice none 0 0, .slice none 0 0, .slice none 0 0, .slice none 0 0] 73)) 61 #[.int .i64 8, .slice none 0 0, .int .i64 4, .int .i64 3, .int .i64 20, .slice none 0 0, .int .i64 10, .slice none 0 0, .int .i64 500]
 simp only [World.size_alloc] at T1
 have bb : Below w.heap.size w ((w.alloc (.cells #[.int .i64 0, .slice none 0 0, .int .i64 0, .int .i64 0, .int .i64 0, .slice none 0 0, .int .i64 0, .slice none 0 0, .int .i64 0, .slice none 0 0, .slice none 0 0, .int .i64 0, .slice none 0 0, .slice none 0 0, .slice none 0 0, .slice none 0 0] 73)).alloc (.cells #[.int .i64 8, .slice none 0 0, .int .i64 4, .int .i64 3, .int .i64 20, .slice none 0 0, .int .i64 10, .slice none 0 0, .int .i64 500] 61)) := ((Below.refl _ _).alloc (Nat.le_refl _) _).alloc (by simp) _
 have HP := Lib.hid (fun w => spec_NewPage_c w)
 show Calls _ _ _ _ (GivesDesk ⟨newSess, newPage⟩ w)
 generalize newPage = g0 at HP ⊢
 go_enter Tryz.func36, Tryz.ntmps36
 go_upto_region 2 with fail
 generalize (w.alloc (.cells #[.int .i64 0, .slice none 0 0, .int .i64 0, .int .i64 0, .int .i64 0, .slice none 0 0, .int .i64 0, .slice none 0 0, .int .i64 0, .slice none 0 0, .slice none 0 0, .int .i64 0, .slice none 0 0, .slice none 0 0, .slice none 0 0, .slice none 0 0] 73)).alloc (.cells #[.int .i64 8, .slice none 0 0, .int .i64 4, .int .i64 3, .int .i64 20, .slice none 0 0, .int .i64 10, .slice none 0 0, .int .i64 500] 61) = wa at *
 have ol := O.lt
 have tl := T1.lt
 have hS : (fun w' : World => w'.rangeAt (w.heap.size + 1) 0 [.int .i64 8, .slice none 0 0, .int .i64 4, .int .i64 3, .int .i64 20, .slice none 0 0, .int .i64 10, .slice none 0 0, .int .i64 500]) wa.drew := T1.drew.range
 dsimp only at hS
 refine wp_region_held_drew (S := (fun w' : World => w'.rangeAt (w.heap.size + 1) 0 [.int .i64 8, .slice none 0 0, .int .i64 4, .int .i64 3, .int .i64 20, .slice none 0 0, .int .i64 10, .slice none 0 0, .int .i64 500])) (by kernel_rfl) hS (fun _ => ?_)
 refine wpAnyH_take (i := 0) (oi := { dst := some 6, op := .load 61 (.tmp 1), type := 61, pos := "l28_console.go:7", after := #[], guard := none }) (v := _) rfl (by kernel_rfl) (by kernel_rfl) (by kernel_rfl) (fun _ _ _ h => h) (yieldsIf_load_mid (by rfl) 61 (.tmp 1) rfl (w.heap.size + 1) 0 rfl _ _ (fun w' h' => h') Tryz.underlying61 rfl (by kernel_rfl)) hS ?_
 simp only [Act.put, pA, pB, pC]
 refine tK (i := 1) (oi := zo36_2_1) (v := ?_) rfl (by kernel_rfl) (fun _ _ _ h => h) (Or.inl ⟨rfl, ?_⟩) hS ?_
 rotate_left
 · (intro w' hS'; (try dsimp only at hS'); dsimp only [zo36_2_1]; go_simp; try with_reducible rfl)
 simp only [Act.put, pA, pB, pC]
 refine wpAnyH_ready (rs := [2]) (by kernel_rfl) (by simp) ?_
 refine AllReadyH.cons (o := zo36_2_2) rfl (fun K hK => ?_) .nil
 refine step_call 99 #[] _ rfl rfl #[] Tryz.call99 (by go_simp) (HP.out _) ?_
 rintro e w2 ⟨gv, GG, rfl, pg, fg, b2⟩
 obtain ⟨C0, i0, C1, i1, C2, i2, rfl⟩ := pg.shape
 refine ⟨_, rfl, ?_⟩
 replace T1 := T1.drew.later b2
 replace O := O.drew.later b2
 replace bb := bt bb.drew b2
 have lt2 := b2.size
 replace hS : (fun w' : World => w'.rangeAt (w.heap.size + 1) 0 [.int .i64 8, .slice none 0 0, .int .i64 4, .int .i64 3, .int .i64 20, .slice none 0 0, .int .i64 10, .slice none 0 0, .int .i64 500]) w2 := T1.range
 dsimp only at hS
 refine hK.out _ _ ?_ (fun hHeld => ?_)
 · exact hS
 clear hK K hHeld
 simp only [Act.put, pA, pB, pC]
 refine tK (i := 3) (oi := zo36_2_3) (v := ?_) rfl (by kernel_rfl) (fun _ _ _ h => h) (Or.inl ⟨rfl, ?_⟩) hS ?_
 rotate_left
 · (intro w' hS'; (try dsimp only at hS'); dsimp only [zo36_2_3]; go_simp; try with_reducible rfl)
 simp only [Act.put, pA, pB, pC]
 refine wpAnyH_ready (rs := [4]) (by kernel_rfl) (by simp) ?_
 refine AllReadyH.cons (o := zo36_2_4) rfl (fun K hK => ?_) .nil
 rw [if_pos (by rfl)]
 have oth := O.there
 refine wp_store_mid 73 (.tmp 0) (.tmp 9) rfl w.heap.size 0 #[.int .i64 8, .slice none 0 0, .int .i64 4, .int .i64 3, .int .i64 20, .slice none 0 0, .int .i64 10, .slice none 0 0, .int .i64 500, .slice none 0 0, .slice none 0 0, .int .i64 0, .slice none 0 0, .slice C0 g0.lines.length i0, .slice C1 g0.done.length i1, .slice C2 g0.undone.length i2] rfl rfl oth (by kernel_rfl) (by simp [Value.oneCell']) ?_
 have onE := Only.setCells (b := w.heap.size) (F := [w.heap.size]) (by simp) [.int .i64 8, .slice none 0 0, .int .i64 4, .int .i64 3, .int .i64 20, .slice none 0 0, .int .i64 10, .slice none 0 0, .int .i64 500, .slice none 0 0, .slice none 0 0, .int .i64 0, .slice none 0 0, .slice C0 g0.lines.length i0, .slice C1 g0.done.length i1, .slice C2 g0.undone.length i2] 0 _ (Only.refl [w.heap.size] w2)
 have TF := O.setCells (vs := [.int .i64 8, .slice none 0 0, .int .i64 4, .int .i64 3, .int .i64 20, .slice none 0 0, .int .i64 10, .slice none 0 0, .int .i64 500, .slice none 0 0, .slice none 0 0, .int .i64 0, .slice none 0 0, .slice C0 g0.lines.length i0, .slice C1 g0.done.length i1, .slice C2 g0.undone.length i2]) rfl
 have bE := bb.trans (onE.below bb.size (fun x hx => by simp at hx; omega))
 refine hK.out _ _ (rangeAt_only T1.range onE (by simp)) (fun _ => ?_)
 clear hK K
 refine wpAnyH_done (by kernel_rfl) ?_ _
 have q2 := pg.only onE (fun x hx hin => by have := fg.2 x hx; simp at hin lt2 this; omega)
 go_wp2_with fail
 exact bodyPost_ret (results_cell rfl rfl TF.range Tryz.underlying73 rfl (by kernel_rfl)) rfl ⟨_, _, rfl, DeskIs.join (newSess_is _ _ _) q2, fg.mono (by simp at lt2 ⊢; omega), bE⟩

set_option maxRecDepth 100000 in
set_option maxHeartbeats 4000000 in
theorem spec_NewDesk_p (w : World) : Calls Tryz.prog 12 #[] w (GivesDesk newDesk w) := by
 have O := Row.new w 73 #[.int .i64 0, .slice none 0 0, .int .i64 0, .int .i64 0, .int .i64 0, .slice none 0 0, .int .i64 0, .slice none 0 0, .int .i64 0, .slice none 0 0, .slice none 0 0, .int .i64 0, .slice none 0 0, .slice none 0 0, .slice none 0 0, .slice none 0 0]
 have bb : Below w.heap.size w (w.alloc (.cells #[.int .i64 0, .slice none 0 0, .int .i64 0, .int .i64 0, .int .i64 0, .slice none 0 0, .int .i64 0, .slice none 0 0, .int .i64 0, .slice none 0 0, .slice none 0 0, .int .i64 0, .slice none 0 0, .slice none 0 0, .slice none 0 0, .slice none 0 0] 73)) := (Below.refl _ _).alloc (Nat.le_refl _) _
 have HS := Lib.hid (spec_l28New_p (w.alloc (.cells #[.int .i64 0, .slice none 0 0, .int .i64 0, .int .i64 0, .int .i64 0, .slice none 0 0, .int .i64 0, .slice none 0 0, .int .i64 0, .slice none 0 0, .slice none 0 0, .int .i64 0, .slice none 0 0, .slice none 0 0, .slice none 0 0, .slice none 0 0] 73)))
 generalize newDesk = d at HS ⊢
 go_enter Tryz.func12, Tryz.ntmps12
 go_wp2_with fail
 refine HS.out.mono ?_
 rintro e w1 ⟨u, G, rfl, r, f, b1⟩
 obtain ⟨B0, Bk0, B1, Bk1, B2, Bk2, B3, Bk3, B4, Bk4, B5, Bk5, B6, Bk6, B7, Bk7, B8, Bk8, rfl⟩ := r.shape
 replace O := O.later b1
 replace bb := bt bb b1
 have lt := O.lt
 have o0 := O.cell' (i := 0) rfl
 have o1 := O.cell' (i := 1) rfl
 have o2 := O.cell' (i := 2) rfl
 have o3 := O.cell' (i := 3) rfl
 have o4 := O.cell' (i := 4) rfl
 have o5 := O.cell' (i := 5) rfl
 have o6 := O.cell' (i := 6) rfl
 have o7 := O.cell' (i := 7) rfl
 have o8 := O.cell' (i := 8) rfl
 have o9 := O.cell' (i := 9) rfl
 have o10 := O.cell' (i := 10) rfl
 have o11 := O.cell' (i := 11) rfl
 have o12 := O.cell' (i := 12) rfl
 have o13 := O.cell' (i := 13) rfl
 have o14 := O.cell' (i := 14) rfl
 have o15 := O.cell' (i := 15) rfl
 have of := O.frozen
 go_wp2_with fail
 have onE := (((((((((((((((((Only.refl [w.heap.size] w1).set (p := ⟨w.heap.size, 0, none⟩) (by simp) (.int .i64 d.session.setup.band)).set (p := ⟨w.heap.size, 1, none⟩) (by simp) (.slice B0 d.session.setup.temps.length Bk0)).set (p := ⟨w.heap.size, 2, none⟩) (by simp) (.int .i64 d.session.setup.points)).set (p := ⟨w.heap.size, 3, none⟩) (by simp) (.int .i64 d.session.setup.most)).set (p := ⟨w.heap.size, 4, none⟩) (by simp) (.int .i64 d.session.setup.pen)).set (p := ⟨w.heap.size, 5, none⟩) (by simp) (.slice B1 d.session.setup.entries.length Bk1)).set (p := ⟨w.heap.size, 6, none⟩) (by simp) (.int .i64 d.session.setup.dflt)).set (p := ⟨w.heap.size, 7, none⟩) (by simp) (.slice B2 d.session.setup.bigrams.length Bk2)).set (p := ⟨w.heap.size, 8, none⟩) (by simp) (.int .i64 d.session.setup.pause)).set (p := ⟨w.heap.size, 9, none⟩) (by simp) (.slice B3 d.session.strokes.length Bk3)).set (p := ⟨w.heap.size, 10, none⟩) (by simp) (.slice B4 d.session.opn.length Bk4)).set (p := ⟨w.heap.size, 11, none⟩) (by simp) (.int .i64 d.session.time)).set (p := ⟨w.heap.size, 12, none⟩) (by simp) (.slice B5 d.session.words.length Bk5)).set (p := ⟨w.heap.size, 13, none⟩) (by simp) (.slice B6 d.page.lines.length Bk6)).set (p := ⟨w.heap.size, 14, none⟩) (by simp) (.slice B7 d.page.done.length Bk7)).set (p := ⟨w.heap.size, 15, none⟩) (by simp) (.slice B8 d.page.undone.length Bk8))
 have TF := ((((((((((((((((O.set 0 (.int .i64 d.session.setup.band)).set 1 (.slice B0 d.session.setup.temps.length Bk0)).set 2 (.int .i64 d.session.setup.points)).set 3 (.int .i64 d.session.setup.most)).set 4 (.int .i64 d.session.setup.pen)).set 5 (.slice B1 d.session.setup.entries.length Bk1)).set 6 (.int .i64 d.session.setup.dflt)).set 7 (.slice B2 d.session.setup.bigrams.length Bk2)).set 8 (.int .i64 d.session.setup.pause)).set 9 (.slice B3 d.session.strokes.length Bk3)).set 10 (.slice B4 d.session.opn.length Bk4)).set 11 (.int .i64 d.session.time)).set 12 (.slice B5 d.session.words.length Bk5)).set 13 (.slice B6 d.page.lines.length Bk6)).set 14 (.slice B7 d.page.done.length Bk7)).set 15 (.slice B8 d.page.undone.length Bk8))
 have bE := bb.trans (onE.below bb.size (fun x hx => by simp at hx; omega))
 have q := r.only onE (fun x hx hin => by have := f.2 x hx; simp at hin this; omega)
 exact bodyPost_ret (results_cell rfl rfl TF.range Tryz.underlying73 rfl (by kernel_rfl)) rfl ⟨_, _, rfl, q, f.mono (by simp), bE⟩
end Go.Proofs.YtkfadfddhbpngaaGreat
