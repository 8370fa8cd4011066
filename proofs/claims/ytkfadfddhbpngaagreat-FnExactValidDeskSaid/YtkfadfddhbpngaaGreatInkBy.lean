/- Ink: the program's ValidStroke. Conditions: none. -/
import Derived.Test.YtkfadfddhbpngaaGreatTky
import Derived.Test.YtkfadfddhbpngaaGreatConfy
import Derived.Test.YtkfadfddhbpngaaGreatPgFollowy
namespace Go.Proofs.YtkfadfddhbpngaaGreat
open Go Go.RowKit
abbrev zo142_4_0 : Oper := { dst := some 13, op := .load 155 (.tmp 4), type := 155, pos := "l02_strokes.go:43", after := #[], guard := none }
abbrev zo142_4_1 : Oper := { dst := some 14, op := .call { callee := .value (.func 201), args := #[.tmp 13], argTypes := #[155] }, type := 4, pos := "l02_strokes.go:43", after := #[{ on := 0, ground := .data }], guard := none }
abbrev zo142_4_2 : Oper := { dst := some 15, op := .unOp .not 4 (.tmp 14), type := 4, pos := "l02_strokes.go:43", after := #[{ on := 1, ground := .data }], guard := none }
abbrev zo142_4_3 : Oper := { dst := some 16, op := .move (.tmp 15), type := 4, pos := "l02_strokes.go:43", after := #[{ on := 2, ground := .data }, { on := 1, ground := .chain }], guard := none }
abbrev zo142_4_4 : Oper := { dst := some 17, op := .move (.tmp 3), type := 3, pos := "l02_strokes.go:43", after := #[{ on := 3, ground := .guard }], guard := some (3, false) }
abbrev zo142_4_5 : Oper := { dst := some 18, op := .binOp .gtr 3 (.tmp 17) (.const (.int .i64 0)) 3, type := 4, pos := "l02_strokes.go:43", after := #[{ on := 4, ground := .data }, { on := 3, ground := .guard }], guard := some (3, false) }
abbrev zo142_4_6 : Oper := { dst := some 19, op := .move (.tmp 18), type := 4, pos := "l02_strokes.go:43", after := #[{ on := 5, ground := .data }, { on := 3, ground := .chain }, { on := 3, ground := .guard }], guard := some (3, false) }
abbrev zo142_4_7 : Oper := { dst := some 20, op := .fieldAddr 155 (.tmp 4) 2, type := 0, pos := "l02_strokes.go:43", after := #[{ on := 6, ground := .guard }], guard := some (6, true) }
abbrev zo142_4_8 : Oper := { dst := some 21, op := .load 2 (.tmp 20), type := 2, pos := "l02_strokes.go:43", after := #[{ on := 7, ground := .data }, { on := 6, ground := .guard }], guard := some (6, true) }
abbrev zo142_4_9 : Oper := { dst := some 22, op := .fieldAddr 141 (.tmp 1) 0, type := 0, pos := "l02_strokes.go:43", after := #[{ on := 6, ground := .guard }], guard := some (6, true) }
abbrev zo142_4_10 : Oper := { dst := some 23, op := .load 65 (.tmp 22), type := 65, pos := "l02_strokes.go:43", after := #[{ on := 9, ground := .data }, { on := 6, ground := .guard }], guard := some (6, true) }
abbrev zo142_4_11 : Oper := { dst := some 24, op := .move (.tmp 3), type := 3, pos := "l02_strokes.go:43", after := #[{ on := 6, ground := .guard }], guard := some (6, true) }
abbrev zo142_4_12 : Oper := { dst := some 25, op := .binOp .sub 3 (.tmp 24) (.const (.int .i64 1)) 3, type := 3, pos := "l02_strokes.go:43", after := #[{ on := 11, ground := .data }, { on := 6, ground := .guard }], guard := some (6, true) }
abbrev zo142_4_13 : Oper := { dst := some 26, op := .indexAddr 65 (.tmp 23) (.tmp 25), type := 0, pos := "l02_strokes.go:43", after := #[{ on := 10, ground := .data }, { on := 12, ground := .data }, { on := 6, ground := .guard }], guard := some (6, true) }
abbrev zo142_4_14 : Oper := { dst := some 27, op := .fieldAddr 155 (.tmp 26) 2, type := 0, pos := "l02_strokes.go:43", after := #[{ on := 13, ground := .data }, { on := 6, ground := .guard }], guard := some (6, true) }
abbrev zo142_4_15 : Oper := { dst := some 28, op := .load 2 (.tmp 27), type := 2, pos := "l02_strokes.go:43", after := #[{ on := 14, ground := .data }, { on := 6, ground := .guard }], guard := some (6, true) }
abbrev zo142_4_16 : Oper := { dst := some 29, op := .binOp .leq 2 (.tmp 21) (.tmp 28) 2, type := 4, pos := "l02_strokes.go:43", after := #[{ on := 8, ground := .data }, { on := 15, ground := .data }, { on := 6, ground := .guard }], guard := some (6, true) }
abbrev zo142_4_17 : Oper := { dst := some 30, op := .pick (.tmp 19) (.tmp 29) (.const (.bool false)), type := 4, pos := "l02_strokes.go:43", after := #[{ on := 6, ground := .data }, { on := 16, ground := .data }, { on := 3, ground := .guard }], guard := some (3, false) }
abbrev zo142_4_18 : Oper := { dst := some 31, op := .pick (.tmp 16) (.const (.bool true)) (.tmp 30), type := 4, pos := "l02_strokes.go:43", after := #[{ on := 3, ground := .data }, { on := 17, ground := .data }], guard := none }

theorem ptOk_step {s : PStroke} {k : Nat} (hk : k < s.length) (h : pointB s[k] = true) (h' : k = 0 ∨ ∃ j, k = j + 1 ∧ ∀ hj : j < s.length, s[j].t < s[k].t) : ptOk s k = true := by
 unfold ptOk
 rw [pt_get hk, h]
 rcases h' with rfl | ⟨j, rfl, h2⟩
 · simp
 · rw [show j + 1 - 1 = j from rfl, pt_get (show j < s.length by omega)]
   simp [h2 (by omega)]
theorem ptOk_bad {s : PStroke} {k : Nat} (hk : k < s.length) (h : pointB s[k] = false) : ptOk s k = false := by
 unfold ptOk
 rw [pt_get hk, h]
 rfl
theorem ptOk_late {s : PStroke} {j : Nat} (hk : j + 1 < s.length) (h : s[j + 1].t ≤ s[j].t) : ptOk s (j + 1) = false := by
 unfold ptOk
 rw [pt_get hk, show j + 1 - 1 = j from rfl, pt_get (show j < s.length by omega)]
 have : ¬ (s[j].t < s[j + 1].t) := by omega
 simp [this]
set_option maxRecDepth 100000 in
set_option maxHeartbeats 1000000 in
theorem impl_ValidStroke_c {o : Bool} {e : TypeId} {xs : PStroke} {v : Value} {F : List Nat} (w : World) (h : (pPoints e).rep o w xs [v] F) (hx : xs.length ≤ 1048576) :
 Calls Tryz.prog 142 #[.agg #[v]] w fun e w' => e = .returned (.bool (strokeB xs)) ∧ Below w.heap.size w w' := by
 obtain ⟨A, c, rfl, hc1, hc2, hr⟩ := pPoints_open h
 clear h
 go_enter Tryz.func142, Tryz.ntmps142
 go_wp2_with fail
 go_loopw [8] (fun i wr => ∃ k : Nat, k ≤ xs.length ∧ i = .int .i64 k ∧ Hid (ptsOk xs k = true) ∧ wr.cell? ⟨w.heap.size, 0, none⟩ = some (.slice A xs.length c) ∧ w.heap.size < wr.heap.size ∧ Below w.heap.size w wr) (fun i _ => xs.length - (intOf i).toNat)
 case atStart => exact ⟨0, Nat.zero_le _, rfl, rfl, by simp, by simp, (Below.refl _ _).alloc (Nat.le_refl _) _⟩
 case round =>
  obtain ⟨k, hk, rfl, hok, hself, hsl, hb⟩ := hrel
  have hbs := hb.size
  by_cases hlt : k < xs.length
  · obtain ⟨b, off, rfl, hbb, _, h0, h1, h2, _⟩ := hr k hlt
    rw [← hb.cell (p := ⟨b, _, none⟩) hbb] at h0 h1 h2
    have HC := Lib.hid (impl_validPoint_c xs[k])
    have RN := (Row.new wr 155 #[.int .i64 xs[k].x, .int .i64 xs[k].y, .int .i64 xs[k].t]).drew
    have RM := RN.alloc (.cells #[.int .i64 xs[k].x, .int .i64 xs[k].y, .int .i64 xs[k].t] 155)
    have al : Below w.heap.size w ((wr.alloc (.cells #[.int .i64 xs[k].x, .int .i64 xs[k].y, .int .i64 xs[k].t] 155)).drew.alloc (.cells #[.int .i64 xs[k].x, .int .i64 xs[k].y, .int .i64 xs[k].t] 155)) := ((hb.alloc hbs _).drew).alloc (by simp; omega) _
    have kp : ∀ (g i : Nat) (u : Value), g < wr.heap.size → wr.cell? ⟨g, i, none⟩ = some u → (wr.alloc (.cells #[.int .i64 xs[k].x, .int .i64 xs[k].y, .int .i64 xs[k].t] 155)).drew.cell? ⟨g, i, none⟩ = some u ∧ ((wr.alloc (.cells #[.int .i64 xs[k].x, .int .i64 xs[k].y, .int .i64 xs[k].t] 155)).drew.alloc (.cells #[.int .i64 xs[k].x, .int .i64 xs[k].y, .int .i64 xs[k].t] 155)).cell? ⟨g, i, none⟩ = some u := by
     intro g i u hg hc
     have x1 : (wr.alloc (.cells #[.int .i64 xs[k].x, .int .i64 xs[k].y, .int .i64 xs[k].t] 155)).drew.cell? ⟨g, i, none⟩ = some u := (World.cell?_alloc_past (w := wr) _ _ _ hg).trans hc
     exact ⟨x1, (World.cell?_alloc_past _ _ _ (by simp; omega)).trans x1⟩
    have hsz : w.heap.size < ((wr.alloc (.cells #[.int .i64 xs[k].x, .int .i64 xs[k].y, .int .i64 xs[k].t] 155)).drew.alloc (.cells #[.int .i64 xs[k].x, .int .i64 xs[k].y, .int .i64 xs[k].t] 155)).heap.size := by simp; omega
    have hself2 := kp _ _ _ hsl hself
    cases hp : pointB xs[k]
    · have HF := Lib.hid (strokeB_false hlt (ptOk_bad hlt hp))
      simp only [hp] at HC
      clear hr hp
      go_wp2_with fail
      have hS : (fun w' => w'.cell? ⟨wr.heap.size, 0, none⟩ = some (.int .i64 xs[k].x) ∧ w'.cell? ⟨wr.heap.size, 1, none⟩ = some (.int .i64 xs[k].y) ∧ w'.cell? ⟨wr.heap.size, 2, none⟩ = some (.int .i64 xs[k].t)) (wr.alloc (.cells #[.int .i64 xs[k].x, .int .i64 xs[k].y, .int .i64 xs[k].t] 155)).drew := ⟨RN.cell' (i := 0) rfl, RN.cell' (i := 1) rfl, RN.cell' (i := 2) rfl⟩
      dsimp only at hS
      refine wp_region_held_drew (S := (fun w' => w'.cell? ⟨wr.heap.size, 0, none⟩ = some (.int .i64 xs[k].x) ∧ w'.cell? ⟨wr.heap.size, 1, none⟩ = some (.int .i64 xs[k].y) ∧ w'.cell? ⟨wr.heap.size, 2, none⟩ = some (.int .i64 xs[k].t))) (by kernel_rfl) hS (fun _ => ?_)
      refine tK (i := 0) (oi := zo142_4_0) (v := ?_) rfl (by kernel_rfl) (fun _ _ _ h => h) (Or.inl ⟨rfl, ?_⟩) hS ?_
      rotate_left
      · (intro w' hS'; (try dsimp only at hS'); dsimp only [zo142_4_0]; go_simp; try with_reducible rfl)
      simp only [Act.put, pA, pB, pC]
      refine wpAnyH_ready (rs := [1]) (by kernel_rfl) (by simp) ?_
      refine AllReadyH.cons (o := zo142_4_1) rfl (fun K hK => ?_) .nil
      refine step_call 201 #[.tmp 13] _ rfl rfl #[.agg #[.int .i64 xs[k].x, .int .i64 xs[k].y, .int .i64 xs[k].t]] Tryz.call201 (by go_simp) (HC.out _) ?_
      rintro e w1 ⟨rfl, rfl⟩
      refine ⟨_, rfl, ?_⟩
      replace hS : (fun w' => w'.cell? ⟨wr.heap.size, 0, none⟩ = some (.int .i64 xs[k].x) ∧ w'.cell? ⟨wr.heap.size, 1, none⟩ = some (.int .i64 xs[k].y) ∧ w'.cell? ⟨wr.heap.size, 2, none⟩ = some (.int .i64 xs[k].t)) ((wr.alloc (.cells #[.int .i64 xs[k].x, .int .i64 xs[k].y, .int .i64 xs[k].t] 155)).drew.alloc (.cells #[.int .i64 xs[k].x, .int .i64 xs[k].y, .int .i64 xs[k].t] 155)) := ⟨RM.cell' (i := 0) rfl, RM.cell' (i := 1) rfl, RM.cell' (i := 2) rfl⟩
      dsimp only at hS
      refine hK.out _ _ ?_ (fun hHeld => ?_)
      · exact hS
      clear hK K hHeld
      simp only [Act.put, pA, pB, pC]
      refine tK (i := 2) (oi := zo142_4_2) (v := ?_) rfl (by kernel_rfl) (fun _ _ _ h => h) (Or.inl ⟨rfl, ?_⟩) hS ?_
      rotate_left
      · (intro w' hS'; (try dsimp only at hS'); dsimp only [zo142_4_2]; go_simp; try with_reducible rfl)
      simp only [Act.put, pA, pB, pC]
      refine tK (i := 3) (oi := zo142_4_3) (v := ?_) rfl (by kernel_rfl) (fun _ _ _ h => h) (Or.inl ⟨rfl, ?_⟩) hS ?_
      rotate_left
      · (intro w' hS'; (try dsimp only at hS'); dsimp only [zo142_4_3]; go_simp; try with_reducible rfl)
      simp only [Act.put, pA, pB, pC]
      refine tK (i := 4) (oi := zo142_4_4) rfl (by kernel_rfl) (fun _ _ _ h => h) (Or.inr ⟨rfl, rfl⟩) hS ?_
      simp only [Act.put, pA, pB, pC]
      refine tK (i := 5) (oi := zo142_4_5) rfl (by kernel_rfl) (fun _ _ _ h => h) (Or.inr ⟨rfl, rfl⟩) hS ?_
      simp only [Act.put, pA, pB, pC]
      refine tK (i := 6) (oi := zo142_4_6) rfl (by kernel_rfl) (fun _ _ _ h => h) (Or.inr ⟨rfl, rfl⟩) hS ?_
      simp only [Act.put, pA, pB, pC]
      refine tK (i := 7) (oi := zo142_4_7) rfl (by kernel_rfl) (fun _ _ _ h => h) (Or.inr ⟨rfl, rfl⟩) hS ?_
      simp only [Act.put, pA, pB, pC]
      refine tK (i := 8) (oi := zo142_4_8) rfl (by kernel_rfl) (fun _ _ _ h => h) (Or.inr ⟨rfl, rfl⟩) hS ?_
      simp only [Act.put, pA, pB, pC]
      refine tK (i := 9) (oi := zo142_4_9) rfl (by kernel_rfl) (fun _ _ _ h => h) (Or.inr ⟨rfl, rfl⟩) hS ?_
      simp only [Act.put, pA, pB, pC]
      refine tK (i := 10) (oi := zo142_4_10) rfl (by kernel_rfl) (fun _ _ _ h => h) (Or.inr ⟨rfl, rfl⟩) hS ?_
      simp only [Act.put, pA, pB, pC]
      refine tK (i := 11) (oi := zo142_4_11) rfl (by kernel_rfl) (fun _ _ _ h => h) (Or.inr ⟨rfl, rfl⟩) hS ?_
      simp only [Act.put, pA, pB, pC]
      refine tK (i := 12) (oi := zo142_4_12) rfl (by kernel_rfl) (fun _ _ _ h => h) (Or.inr ⟨rfl, rfl⟩) hS ?_
      simp only [Act.put, pA, pB, pC]
      refine tK (i := 13) (oi := zo142_4_13) rfl (by kernel_rfl) (fun _ _ _ h => h) (Or.inr ⟨rfl, rfl⟩) hS ?_
      simp only [Act.put, pA, pB, pC]
      refine tK (i := 14) (oi := zo142_4_14) rfl (by kernel_rfl) (fun _ _ _ h => h) (Or.inr ⟨rfl, rfl⟩) hS ?_
      simp only [Act.put, pA, pB, pC]
      refine tK (i := 15) (oi := zo142_4_15) rfl (by kernel_rfl) (fun _ _ _ h => h) (Or.inr ⟨rfl, rfl⟩) hS ?_
      simp only [Act.put, pA, pB, pC]
      refine tK (i := 16) (oi := zo142_4_16) rfl (by kernel_rfl) (fun _ _ _ h => h) (Or.inr ⟨rfl, rfl⟩) hS ?_
      simp only [Act.put, pA, pB, pC]
      refine tK (i := 17) (oi := zo142_4_17) rfl (by kernel_rfl) (fun _ _ _ h => h) (Or.inr ⟨rfl, rfl⟩) hS ?_
      simp only [Act.put, pA, pB, pC]
      refine tK (i := 18) (oi := zo142_4_18) (v := ?_) rfl (by kernel_rfl) (fun _ _ _ h => h) (Or.inl ⟨rfl, ?_⟩) hS ?_
      rotate_left
      · (intro w' hS'; (try dsimp only at hS'); dsimp only [zo142_4_18]; go_simp; try with_reducible rfl)
      simp only [Act.put, pA, pB, pC]
      refine wpAnyH_done (by kernel_rfl) ?_ _
      go_wp2_with fail
      go_ret
      exact ⟨ret_boolI HF.out.symm, al⟩
    · have HP := Lib.hid hp
      simp only [hp] at HC
      clear hp
      by_cases hz : k = 0
      · have HK : Hid (ptsOk xs (k + 1) = true) := by show _ = _; rw [ptsOk, hok.out, ptOk_step hlt HP.out (.inl hz)]; rfl
        have g0 : (0 < k) = False := eq_false (by omega)
        clear hr hz
        go_wp2_with fail
        have hS : (fun w' => w'.cell? ⟨wr.heap.size, 0, none⟩ = some (.int .i64 xs[k].x) ∧ w'.cell? ⟨wr.heap.size, 1, none⟩ = some (.int .i64 xs[k].y) ∧ w'.cell? ⟨wr.heap.size, 2, none⟩ = some (.int .i64 xs[k].t)) (wr.alloc (.cells #[.int .i64 xs[k].x, .int .i64 xs[k].y, .int .i64 xs[k].t] 155)).drew := ⟨RN.cell' (i := 0) rfl, RN.cell' (i := 1) rfl, RN.cell' (i := 2) rfl⟩
        dsimp only at hS
        refine wp_region_held_drew (S := (fun w' => w'.cell? ⟨wr.heap.size, 0, none⟩ = some (.int .i64 xs[k].x) ∧ w'.cell? ⟨wr.heap.size, 1, none⟩ = some (.int .i64 xs[k].y) ∧ w'.cell? ⟨wr.heap.size, 2, none⟩ = some (.int .i64 xs[k].t))) (by kernel_rfl) hS (fun _ => ?_)
        refine tK (i := 0) (oi := zo142_4_0) (v := ?_) rfl (by kernel_rfl) (fun _ _ _ h => h) (Or.inl ⟨rfl, ?_⟩) hS ?_
        rotate_left
        · (intro w' hS'; (try dsimp only at hS'); dsimp only [zo142_4_0]; go_simp; try with_reducible rfl)
        simp only [Act.put, pA, pB, pC]
        refine wpAnyH_ready (rs := [1]) (by kernel_rfl) (by simp) ?_
        refine AllReadyH.cons (o := zo142_4_1) rfl (fun K hK => ?_) .nil
        refine step_call 201 #[.tmp 13] _ rfl rfl #[.agg #[.int .i64 xs[k].x, .int .i64 xs[k].y, .int .i64 xs[k].t]] Tryz.call201 (by go_simp) (HC.out _) ?_
        rintro e w1 ⟨rfl, rfl⟩
        refine ⟨_, rfl, ?_⟩
        replace hS : (fun w' => w'.cell? ⟨wr.heap.size, 0, none⟩ = some (.int .i64 xs[k].x) ∧ w'.cell? ⟨wr.heap.size, 1, none⟩ = some (.int .i64 xs[k].y) ∧ w'.cell? ⟨wr.heap.size, 2, none⟩ = some (.int .i64 xs[k].t)) ((wr.alloc (.cells #[.int .i64 xs[k].x, .int .i64 xs[k].y, .int .i64 xs[k].t] 155)).drew.alloc (.cells #[.int .i64 xs[k].x, .int .i64 xs[k].y, .int .i64 xs[k].t] 155)) := ⟨RM.cell' (i := 0) rfl, RM.cell' (i := 1) rfl, RM.cell' (i := 2) rfl⟩
        dsimp only at hS
        refine hK.out _ _ ?_ (fun hHeld => ?_)
        · exact hS
        clear hK K hHeld
        simp only [Act.put, pA, pB, pC]
        refine tK (i := 2) (oi := zo142_4_2) (v := ?_) rfl (by kernel_rfl) (fun _ _ _ h => h) (Or.inl ⟨rfl, ?_⟩) hS ?_
        rotate_left
        · (intro w' hS'; (try dsimp only at hS'); dsimp only [zo142_4_2]; go_simp; try with_reducible rfl)
        simp only [Act.put, pA, pB, pC]
        refine tK (i := 3) (oi := zo142_4_3) (v := ?_) rfl (by kernel_rfl) (fun _ _ _ h => h) (Or.inl ⟨rfl, ?_⟩) hS ?_
        rotate_left
        · (intro w' hS'; (try dsimp only at hS'); dsimp only [zo142_4_3]; go_simp; try with_reducible rfl)
        simp only [Act.put, pA, pB, pC]
        refine tK (i := 4) (oi := zo142_4_4) (v := ?_) rfl (by kernel_rfl) (fun _ _ _ h => h) (Or.inl ⟨rfl, ?_⟩) hS ?_
        rotate_left
        · (intro w' hS'; (try dsimp only at hS'); dsimp only [zo142_4_4]; go_simp; try with_reducible rfl)
        simp only [Act.put, pA, pB, pC]
        refine tK (i := 5) (oi := zo142_4_5) (v := ?_) rfl (by kernel_rfl) (fun _ _ _ h => h) (Or.inl ⟨rfl, ?_⟩) hS ?_
        rotate_left
        · (intro w' hS'; (try dsimp only at hS'); dsimp only [zo142_4_5]; go_simp; try with_reducible rfl)
        simp only [Act.put, pA, pB, pC]
        refine tK (i := 6) (oi := zo142_4_6) (v := ?_) rfl (by kernel_rfl) (fun _ _ _ h => h) (Or.inl ⟨rfl, ?_⟩) hS ?_
        rotate_left
        · (intro w' hS'; (try dsimp only at hS'); dsimp only [zo142_4_6]; go_simp; try with_reducible rfl)
        simp only [Act.put, pA, pB, pC]
        refine tK (i := 7) (oi := zo142_4_7) rfl (by kernel_rfl) (fun _ _ _ h => h) (Or.inr ⟨rfl, rfl⟩) hS ?_
        simp only [Act.put, pA, pB, pC]
        refine tK (i := 8) (oi := zo142_4_8) rfl (by kernel_rfl) (fun _ _ _ h => h) (Or.inr ⟨rfl, rfl⟩) hS ?_
        simp only [Act.put, pA, pB, pC]
        refine tK (i := 9) (oi := zo142_4_9) rfl (by kernel_rfl) (fun _ _ _ h => h) (Or.inr ⟨rfl, rfl⟩) hS ?_
        simp only [Act.put, pA, pB, pC]
        refine tK (i := 10) (oi := zo142_4_10) rfl (by kernel_rfl) (fun _ _ _ h => h) (Or.inr ⟨rfl, rfl⟩) hS ?_
        simp only [Act.put, pA, pB, pC]
        refine tK (i := 11) (oi := zo142_4_11) rfl (by kernel_rfl) (fun _ _ _ h => h) (Or.inr ⟨rfl, rfl⟩) hS ?_
        simp only [Act.put, pA, pB, pC]
        refine tK (i := 12) (oi := zo142_4_12) rfl (by kernel_rfl) (fun _ _ _ h => h) (Or.inr ⟨rfl, rfl⟩) hS ?_
        simp only [Act.put, pA, pB, pC]
        refine tK (i := 13) (oi := zo142_4_13) rfl (by kernel_rfl) (fun _ _ _ h => h) (Or.inr ⟨rfl, rfl⟩) hS ?_
        simp only [Act.put, pA, pB, pC]
        refine tK (i := 14) (oi := zo142_4_14) rfl (by kernel_rfl) (fun _ _ _ h => h) (Or.inr ⟨rfl, rfl⟩) hS ?_
        simp only [Act.put, pA, pB, pC]
        refine tK (i := 15) (oi := zo142_4_15) rfl (by kernel_rfl) (fun _ _ _ h => h) (Or.inr ⟨rfl, rfl⟩) hS ?_
        simp only [Act.put, pA, pB, pC]
        refine tK (i := 16) (oi := zo142_4_16) rfl (by kernel_rfl) (fun _ _ _ h => h) (Or.inr ⟨rfl, rfl⟩) hS ?_
        simp only [Act.put, pA, pB, pC]
        refine tK (i := 17) (oi := zo142_4_17) (v := ?_) rfl (by kernel_rfl) (fun _ _ _ h => h) (Or.inl ⟨rfl, ?_⟩) hS ?_
        rotate_left
        · (intro w' hS'; (try dsimp only at hS'); dsimp only [zo142_4_17]; go_simp; try with_reducible rfl)
        simp only [Act.put, pA, pB, pC]
        refine tK (i := 18) (oi := zo142_4_18) (v := ?_) rfl (by kernel_rfl) (fun _ _ _ h => h) (Or.inl ⟨rfl, ?_⟩) hS ?_
        rotate_left
        · (intro w' hS'; (try dsimp only at hS'); dsimp only [zo142_4_18]; go_simp; try with_reducible rfl)
        simp only [Act.put, pA, pB, pC]
        refine wpAnyH_done (by kernel_rfl) ?_ _
        go_wp2_with fail
        go_roundw
        case rel => exact ⟨k + 1, by omega, by go_num, HK, hself2.2, hsz, al⟩
        case measure => simp [intOf]; omega
      · obtain ⟨j, hj⟩ : ∃ j, k = j + 1 := ⟨k - 1, by omega⟩
        have jl : j < xs.length := by omega
        obtain ⟨b', off', e', hbb', _, _, _, h3, _⟩ := hr j jl
        injection e' with e'
        injection e' with e1 e2 _
        subst e1; subst e2
        rw [← hb.cell (p := ⟨b, _, none⟩) hbb] at h3
        have h32 := kp _ _ _ (by omega) h3
        have g0 : (0 < k) = True := eq_true (by omega)
        have gj : IntKind.i64.wrap ((k : Int) - 1) = (j : Int) := (IntWalk.i64_in _ (by omega)).trans (by omega)
        have jl' : (j : Int) < (xs.length : Int) := by omega
        have j0 : (0 : Int) ≤ (j : Int) := by omega
        clear hr h3
        by_cases ht : xs[k].t ≤ xs[j].t
        · have HF : Hid (strokeB xs = false) := strokeB_false hlt (by subst hj; exact ptOk_late hlt ht)
          have gt : (xs[k].t ≤ xs[j].t) = True := eq_true ht
          have HJ := Lib.hid hj
          clear hj ht hz
          go_wp2_with fail
          have hS : (fun w' => w'.cell? ⟨wr.heap.size, 0, none⟩ = some (.int .i64 xs[k].x) ∧ w'.cell? ⟨wr.heap.size, 1, none⟩ = some (.int .i64 xs[k].y) ∧ w'.cell? ⟨wr.heap.size, 2, none⟩ = some (.int .i64 xs[k].t) ∧ w'.cell? ⟨w.heap.size, 0, none⟩ = some (.slice (some ⟨b, off, none⟩) xs.length c) ∧ w'.cell? ⟨b, off + j * 3 + 2, none⟩ = some (.int .i64 xs[j].t)) (wr.alloc (.cells #[.int .i64 xs[k].x, .int .i64 xs[k].y, .int .i64 xs[k].t] 155)).drew := ⟨RN.cell' (i := 0) rfl, RN.cell' (i := 1) rfl, RN.cell' (i := 2) rfl, hself2.1, h32.1⟩
          dsimp only at hS
          refine wp_region_held_drew (S := (fun w' => w'.cell? ⟨wr.heap.size, 0, none⟩ = some (.int .i64 xs[k].x) ∧ w'.cell? ⟨wr.heap.size, 1, none⟩ = some (.int .i64 xs[k].y) ∧ w'.cell? ⟨wr.heap.size, 2, none⟩ = some (.int .i64 xs[k].t) ∧ w'.cell? ⟨w.heap.size, 0, none⟩ = some (.slice (some ⟨b, off, none⟩) xs.length c) ∧ w'.cell? ⟨b, off + j * 3 + 2, none⟩ = some (.int .i64 xs[j].t))) (by kernel_rfl) hS (fun _ => ?_)
          refine tK (i := 0) (oi := zo142_4_0) (v := ?_) rfl (by kernel_rfl) (fun _ _ _ h => h) (Or.inl ⟨rfl, ?_⟩) hS ?_
          rotate_left
          · (intro w' hS'; (try dsimp only at hS'); dsimp only [zo142_4_0]; go_simp; try with_reducible rfl)
          simp only [Act.put, pA, pB, pC]
          refine wpAnyH_ready (rs := [1]) (by kernel_rfl) (by simp) ?_
          refine AllReadyH.cons (o := zo142_4_1) rfl (fun K hK => ?_) .nil
          refine step_call 201 #[.tmp 13] _ rfl rfl #[.agg #[.int .i64 xs[k].x, .int .i64 xs[k].y, .int .i64 xs[k].t]] Tryz.call201 (by go_simp) (HC.out _) ?_
          rintro e w1 ⟨rfl, rfl⟩
          refine ⟨_, rfl, ?_⟩
          replace hS : (fun w' => w'.cell? ⟨wr.heap.size, 0, none⟩ = some (.int .i64 xs[k].x) ∧ w'.cell? ⟨wr.heap.size, 1, none⟩ = some (.int .i64 xs[k].y) ∧ w'.cell? ⟨wr.heap.size, 2, none⟩ = some (.int .i64 xs[k].t) ∧ w'.cell? ⟨w.heap.size, 0, none⟩ = some (.slice (some ⟨b, off, none⟩) xs.length c) ∧ w'.cell? ⟨b, off + j * 3 + 2, none⟩ = some (.int .i64 xs[j].t)) ((wr.alloc (.cells #[.int .i64 xs[k].x, .int .i64 xs[k].y, .int .i64 xs[k].t] 155)).drew.alloc (.cells #[.int .i64 xs[k].x, .int .i64 xs[k].y, .int .i64 xs[k].t] 155)) := ⟨RM.cell' (i := 0) rfl, RM.cell' (i := 1) rfl, RM.cell' (i := 2) rfl, hself2.2, h32.2⟩
          dsimp only at hS
          refine hK.out _ _ ?_ (fun hHeld => ?_)
          · exact hS
          clear hK K hHeld
          simp only [Act.put, pA, pB, pC]
          refine tK (i := 2) (oi := zo142_4_2) (v := ?_) rfl (by kernel_rfl) (fun _ _ _ h => h) (Or.inl ⟨rfl, ?_⟩) hS ?_
          rotate_left
          · (intro w' hS'; (try dsimp only at hS'); dsimp only [zo142_4_2]; go_simp; try with_reducible rfl)
          simp only [Act.put, pA, pB, pC]
          refine tK (i := 3) (oi := zo142_4_3) (v := ?_) rfl (by kernel_rfl) (fun _ _ _ h => h) (Or.inl ⟨rfl, ?_⟩) hS ?_
          rotate_left
          · (intro w' hS'; (try dsimp only at hS'); dsimp only [zo142_4_3]; go_simp; try with_reducible rfl)
          simp only [Act.put, pA, pB, pC]
          refine tK (i := 4) (oi := zo142_4_4) (v := ?_) rfl (by kernel_rfl) (fun _ _ _ h => h) (Or.inl ⟨rfl, ?_⟩) hS ?_
          rotate_left
          · (intro w' hS'; (try dsimp only at hS'); dsimp only [zo142_4_4]; go_simp; try with_reducible rfl)
          simp only [Act.put, pA, pB, pC]
          refine tK (i := 5) (oi := zo142_4_5) (v := ?_) rfl (by kernel_rfl) (fun _ _ _ h => h) (Or.inl ⟨rfl, ?_⟩) hS ?_
          rotate_left
          · (intro w' hS'; (try dsimp only at hS'); dsimp only [zo142_4_5]; go_simp; try with_reducible rfl)
          simp only [Act.put, pA, pB, pC]
          refine tK (i := 6) (oi := zo142_4_6) (v := ?_) rfl (by kernel_rfl) (fun _ _ _ h => h) (Or.inl ⟨rfl, ?_⟩) hS ?_
          rotate_left
          · (intro w' hS'; (try dsimp only at hS'); dsimp only [zo142_4_6]; go_simp; try with_reducible rfl)
          simp only [Act.put, pA, pB, pC]
          refine tK (i := 7) (oi := zo142_4_7) (v := ?_) rfl (by kernel_rfl) (fun _ _ _ h => h) (Or.inl ⟨rfl, ?_⟩) hS ?_
          rotate_left
          · (intro w' hS'; (try dsimp only at hS'); dsimp only [zo142_4_7]; go_simp; try with_reducible rfl)
          simp only [Act.put, pA, pB, pC]
          refine tK (i := 8) (oi := zo142_4_8) (v := ?_) rfl (by kernel_rfl) (fun _ _ _ h => h) (Or.inl ⟨rfl, ?_⟩) hS ?_
          rotate_left
          · (intro w' hS'; (try dsimp only at hS'); dsimp only [zo142_4_8]; go_simp; try with_reducible rfl)
          simp only [Act.put, pA, pB, pC]
          refine tK (i := 9) (oi := zo142_4_9) (v := ?_) rfl (by kernel_rfl) (fun _ _ _ h => h) (Or.inl ⟨rfl, ?_⟩) hS ?_
          rotate_left
          · (intro w' hS'; (try dsimp only at hS'); dsimp only [zo142_4_9]; go_simp; try with_reducible rfl)
          simp only [Act.put, pA, pB, pC]
          refine tK (i := 10) (oi := zo142_4_10) (v := ?_) rfl (by kernel_rfl) (fun _ _ _ h => h) (Or.inl ⟨rfl, ?_⟩) hS ?_
          rotate_left
          · (intro w' hS'; (try dsimp only at hS'); dsimp only [zo142_4_10]; go_simp; try with_reducible rfl)
          simp only [Act.put, pA, pB, pC]
          refine tK (i := 11) (oi := zo142_4_11) (v := ?_) rfl (by kernel_rfl) (fun _ _ _ h => h) (Or.inl ⟨rfl, ?_⟩) hS ?_
          rotate_left
          · (intro w' hS'; (try dsimp only at hS'); dsimp only [zo142_4_11]; go_simp; try with_reducible rfl)
          simp only [Act.put, pA, pB, pC]
          refine tK (i := 12) (oi := zo142_4_12) (v := ?_) rfl (by kernel_rfl) (fun _ _ _ h => h) (Or.inl ⟨rfl, ?_⟩) hS ?_
          rotate_left
          · (intro w' hS'; (try dsimp only at hS'); dsimp only [zo142_4_12]; go_simp; try with_reducible rfl)
          simp only [Act.put, pA, pB, pC]
          refine tK (i := 13) (oi := zo142_4_13) (v := ?_) rfl (by kernel_rfl) (fun _ _ _ h => h) (Or.inl ⟨rfl, ?_⟩) hS ?_
          rotate_left
          · (intro w' hS'; (try dsimp only at hS'); dsimp only [zo142_4_13]; go_simp; try with_reducible rfl)
          simp only [Act.put, pA, pB, pC]
          refine tK (i := 14) (oi := zo142_4_14) (v := ?_) rfl (by kernel_rfl) (fun _ _ _ h => h) (Or.inl ⟨rfl, ?_⟩) hS ?_
          rotate_left
          · (intro w' hS'; (try dsimp only at hS'); dsimp only [zo142_4_14]; go_simp; try with_reducible rfl)
          simp only [Act.put, pA, pB, pC]
          refine tK (i := 15) (oi := zo142_4_15) (v := ?_) rfl (by kernel_rfl) (fun _ _ _ h => h) (Or.inl ⟨rfl, ?_⟩) hS ?_
          rotate_left
          · (intro w' hS'; (try dsimp only at hS'); dsimp only [zo142_4_15]; go_simp; try with_reducible rfl)
          simp only [Act.put, pA, pB, pC]
          refine tK (i := 16) (oi := zo142_4_16) (v := ?_) rfl (by kernel_rfl) (fun _ _ _ h => h) (Or.inl ⟨rfl, ?_⟩) hS ?_
          rotate_left
          · (intro w' hS'; (try dsimp only at hS'); dsimp only [zo142_4_16]; go_simp; try with_reducible rfl)
          simp only [Act.put, pA, pB, pC]
          refine tK (i := 17) (oi := zo142_4_17) (v := ?_) rfl (by kernel_rfl) (fun _ _ _ h => h) (Or.inl ⟨rfl, ?_⟩) hS ?_
          rotate_left
          · (intro w' hS'; (try dsimp only at hS'); dsimp only [zo142_4_17]; go_simp; try with_reducible rfl)
          simp only [Act.put, pA, pB, pC]
          refine tK (i := 18) (oi := zo142_4_18) (v := ?_) rfl (by kernel_rfl) (fun _ _ _ h => h) (Or.inl ⟨rfl, ?_⟩) hS ?_
          rotate_left
          · (intro w' hS'; (try dsimp only at hS'); dsimp only [zo142_4_18]; go_simp; try with_reducible rfl)
          simp only [Act.put, pA, pB, pC]
          refine wpAnyH_done (by kernel_rfl) ?_ _
          go_wp2_with fail
          go_ret
          exact ⟨ret_boolI HF.out.symm, al⟩
        · have HK : Hid (ptsOk xs (k + 1) = true) := by
           show _ = _
           rw [ptsOk, hok.out, ptOk_step hlt HP.out (.inr ⟨j, hj, fun _ => by omega⟩)]; rfl
          have gt : (xs[k].t ≤ xs[j].t) = False := eq_false ht
          have HJ := Lib.hid hj
          clear hj ht hz
          go_wp2_with fail
          have hS : (fun w' => w'.cell? ⟨wr.heap.size, 0, none⟩ = some (.int .i64 xs[k].x) ∧ w'.cell? ⟨wr.heap.size, 1, none⟩ = some (.int .i64 xs[k].y) ∧ w'.cell? ⟨wr.heap.size, 2, none⟩ = some (.int .i64 xs[k].t) ∧ w'.cell? ⟨w.heap.size, 0, none⟩ = some (.slice (some ⟨b, off, none⟩) xs.length c) ∧ w'.cell? ⟨b, off + j * 3 + 2, none⟩ = some (.int .i64 xs[j].t)) (wr.alloc (.cells #[.int .i64 xs[k].x, .int .i64 xs[k].y, .int .i64 xs[k].t] 155)).drew := ⟨RN.cell' (i := 0) rfl, RN.cell' (i := 1) rfl, RN.cell' (i := 2) rfl, hself2.1, h32.1⟩
          dsimp only at hS
          refine wp_region_held_drew (S := (fun w' => w'.cell? ⟨wr.heap.size, 0, none⟩ = some (.int .i64 xs[k].x) ∧ w'.cell? ⟨wr.heap.size, 1, none⟩ = some (.int .i64 xs[k].y) ∧ w'.cell? ⟨wr.heap.size, 2, none⟩ = some (.int .i64 xs[k].t) ∧ w'.cell? ⟨w.heap.size, 0, none⟩ = some (.slice (some ⟨b, off, none⟩) xs.length c) ∧ w'.cell? ⟨b, off + j * 3 + 2, none⟩ = some (.int .i64 xs[j].t))) (by kernel_rfl) hS (fun _ => ?_)
          refine tK (i := 0) (oi := zo142_4_0) (v := ?_) rfl (by kernel_rfl) (fun _ _ _ h => h) (Or.inl ⟨rfl, ?_⟩) hS ?_
          rotate_left
          · (intro w' hS'; (try dsimp only at hS'); dsimp only [zo142_4_0]; go_simp; try with_reducible rfl)
          simp only [Act.put, pA, pB, pC]
          refine wpAnyH_ready (rs := [1]) (by kernel_rfl) (by simp) ?_
          refine AllReadyH.cons (o := zo142_4_1) rfl (fun K hK => ?_) .nil
          refine step_call 201 #[.tmp 13] _ rfl rfl #[.agg #[.int .i64 xs[k].x, .int .i64 xs[k].y, .int .i64 xs[k].t]] Tryz.call201 (by go_simp) (HC.out _) ?_
          rintro e w1 ⟨rfl, rfl⟩
          refine ⟨_, rfl, ?_⟩
          replace hS : (fun w' => w'.cell? ⟨wr.heap.size, 0, none⟩ = some (.int .i64 xs[k].x) ∧ w'.cell? ⟨wr.heap.size, 1, none⟩ = some (.int .i64 xs[k].y) ∧ w'.cell? ⟨wr.heap.size, 2, none⟩ = some (.int .i64 xs[k].t) ∧ w'.cell? ⟨w.heap.size, 0, none⟩ = some (.slice (some ⟨b, off, none⟩) xs.length c) ∧ w'.cell? ⟨b, off + j * 3 + 2, none⟩ = some (.int .i64 xs[j].t)) ((wr.alloc (.cells #[.int .i64 xs[k].x, .int .i64 xs[k].y, .int .i64 xs[k].t] 155)).drew.alloc (.cells #[.int .i64 xs[k].x, .int .i64 xs[k].y, .int .i64 xs[k].t] 155)) := ⟨RM.cell' (i := 0) rfl, RM.cell' (i := 1) rfl, RM.cell' (i := 2) rfl, hself2.2, h32.2⟩
          dsimp only at hS
          refine hK.out _ _ ?_ (fun hHeld => ?_)
          · exact hS
          clear hK K hHeld
          simp only [Act.put, pA, pB, pC]
          refine tK (i := 2) (oi := zo142_4_2) (v := ?_) rfl (by kernel_rfl) (fun _ _ _ h => h) (Or.inl ⟨rfl, ?_⟩) hS ?_
          rotate_left
          · (intro w' hS'; (try dsimp only at hS'); dsimp only [zo142_4_2]; go_simp; try with_reducible rfl)
          simp only [Act.put, pA, pB, pC]
          refine tK (i := 3) (oi := zo142_4_3) (v := ?_) rfl (by kernel_rfl) (fun _ _ _ h => h) (Or.inl ⟨rfl, ?_⟩) hS ?_
          rotate_left
          · (intro w' hS'; (try dsimp only at hS'); dsimp only [zo142_4_3]; go_simp; try with_reducible rfl)
          simp only [Act.put, pA, pB, pC]
          refine tK (i := 4) (oi := zo142_4_4) (v := ?_) rfl (by kernel_rfl) (fun _ _ _ h => h) (Or.inl ⟨rfl, ?_⟩) hS ?_
          rotate_left
          · (intro w' hS'; (try dsimp only at hS'); dsimp only [zo142_4_4]; go_simp; try with_reducible rfl)
          simp only [Act.put, pA, pB, pC]
          refine tK (i := 5) (oi := zo142_4_5) (v := ?_) rfl (by kernel_rfl) (fun _ _ _ h => h) (Or.inl ⟨rfl, ?_⟩) hS ?_
          rotate_left
          · (intro w' hS'; (try dsimp only at hS'); dsimp only [zo142_4_5]; go_simp; try with_reducible rfl)
          simp only [Act.put, pA, pB, pC]
          refine tK (i := 6) (oi := zo142_4_6) (v := ?_) rfl (by kernel_rfl) (fun _ _ _ h => h) (Or.inl ⟨rfl, ?_⟩) hS ?_
          rotate_left
          · (intro w' hS'; (try dsimp only at hS'); dsimp only [zo142_4_6]; go_simp; try with_reducible rfl)
          simp only [Act.put, pA, pB, pC]
          refine tK (i := 7) (oi := zo142_4_7) (v := ?_) rfl (by kernel_rfl) (fun _ _ _ h => h) (Or.inl ⟨rfl, ?_⟩) hS ?_
          rotate_left
          · (intro w' hS'; (try dsimp only at hS'); dsimp only [zo142_4_7]; go_simp; try with_reducible rfl)
          simp only [Act.put, pA, pB, pC]
          refine tK (i := 8) (oi := zo142_4_8) (v := ?_) rfl (by kernel_rfl) (fun _ _ _ h => h) (Or.inl ⟨rfl, ?_⟩) hS ?_
          rotate_left
          · (intro w' hS'; (try dsimp only at hS'); dsimp only [zo142_4_8]; go_simp; try with_reducible rfl)
          simp only [Act.put, pA, pB, pC]
          refine tK (i := 9) (oi := zo142_4_9) (v := ?_) rfl (by kernel_rfl) (fun _ _ _ h => h) (Or.inl ⟨rfl, ?_⟩) hS ?_
          rotate_left
          · (intro w' hS'; (try dsimp only at hS'); dsimp only [zo142_4_9]; go_simp; try with_reducible rfl)
          simp only [Act.put, pA, pB, pC]
          refine tK (i := 10) (oi := zo142_4_10) (v := ?_) rfl (by kernel_rfl) (fun _ _ _ h => h) (Or.inl ⟨rfl, ?_⟩) hS ?_
          rotate_left
          · (intro w' hS'; (try dsimp only at hS'); dsimp only [zo142_4_10]; go_simp; try with_reducible rfl)
          simp only [Act.put, pA, pB, pC]
          refine tK (i := 11) (oi := zo142_4_11) (v := ?_) rfl (by kernel_rfl) (fun _ _ _ h => h) (Or.inl ⟨rfl, ?_⟩) hS ?_
          rotate_left
          · (intro w' hS'; (try dsimp only at hS'); dsimp only [zo142_4_11]; go_simp; try with_reducible rfl)
          simp only [Act.put, pA, pB, pC]
          refine tK (i := 12) (oi := zo142_4_12) (v := ?_) rfl (by kernel_rfl) (fun _ _ _ h => h) (Or.inl ⟨rfl, ?_⟩) hS ?_
          rotate_left
          · (intro w' hS'; (try dsimp only at hS'); dsimp only [zo142_4_12]; go_simp; try with_reducible rfl)
          simp only [Act.put, pA, pB, pC]
          refine tK (i := 13) (oi := zo142_4_13) (v := ?_) rfl (by kernel_rfl) (fun _ _ _ h => h) (Or.inl ⟨rfl, ?_⟩) hS ?_
          rotate_left
          · (intro w' hS'; (try dsimp only at hS'); dsimp only [zo142_4_13]; go_simp; try with_reducible rfl)
          simp only [Act.put, pA, pB, pC]
          refine tK (i := 14) (oi := zo142_4_14) (v := ?_) rfl (by kernel_rfl) (fun _ _ _ h => h) (Or.inl ⟨rfl, ?_⟩) hS ?_
          rotate_left
          · (intro w' hS'; (try dsimp only at hS'); dsimp only [zo142_4_14]; go_simp; try with_reducible rfl)
          simp only [Act.put, pA, pB, pC]
          refine tK (i := 15) (oi := zo142_4_15) (v := ?_) rfl (by kernel_rfl) (fun _ _ _ h => h) (Or.inl ⟨rfl, ?_⟩) hS ?_
          rotate_left
          · (intro w' hS'; (try dsimp only at hS'); dsimp only [zo142_4_15]; go_simp; try with_reducible rfl)
          simp only [Act.put, pA, pB, pC]
          refine tK (i := 16) (oi := zo142_4_16) (v := ?_) rfl (by kernel_rfl) (fun _ _ _ h => h) (Or.inl ⟨rfl, ?_⟩) hS ?_
          rotate_left
          · (intro w' hS'; (try dsimp only at hS'); dsimp only [zo142_4_16]; go_simp; try with_reducible rfl)
          simp only [Act.put, pA, pB, pC]
          refine tK (i := 17) (oi := zo142_4_17) (v := ?_) rfl (by kernel_rfl) (fun _ _ _ h => h) (Or.inl ⟨rfl, ?_⟩) hS ?_
          rotate_left
          · (intro w' hS'; (try dsimp only at hS'); dsimp only [zo142_4_17]; go_simp; try with_reducible rfl)
          simp only [Act.put, pA, pB, pC]
          refine tK (i := 18) (oi := zo142_4_18) (v := ?_) rfl (by kernel_rfl) (fun _ _ _ h => h) (Or.inl ⟨rfl, ?_⟩) hS ?_
          rotate_left
          · (intro w' hS'; (try dsimp only at hS'); dsimp only [zo142_4_18]; go_simp; try with_reducible rfl)
          simp only [Act.put, pA, pB, pC]
          refine wpAnyH_done (by kernel_rfl) ?_ _
          go_wp2_with fail
          go_roundw
          case rel => exact ⟨k + 1, by omega, by go_num, HK, hself2.2, hsz, al⟩
          case measure => simp [intOf]; omega
  · obtain rfl : k = xs.length := by omega
    clear hr
    have HV : Hid (strokeB xs = (decide (1 ≤ xs.length) && decide (xs.length ≤ 60))) := by show _ = _; rw [strokeB, hok.out]; rfl
    by_cases h1 : 1 ≤ xs.length
    · have g1 : decide ((1 : Int) ≤ (xs.length : Int)) = true := by simp; omega
      go_wp2_with fail
      go_ret
      exact ⟨ret_boolI (by rw [HV.out, decide_eq_true h1, Bool.true_and, decide_eq_decide]; omega), hb⟩
    · have g1 : decide ((1 : Int) ≤ (xs.length : Int)) = false := by simp; omega
      go_wp2_with fail
      go_ret
      exact ⟨ret_boolI (by rw [HV.out, decide_eq_false h1]; simp), hb⟩
end Go.Proofs.YtkfadfddhbpngaaGreat
