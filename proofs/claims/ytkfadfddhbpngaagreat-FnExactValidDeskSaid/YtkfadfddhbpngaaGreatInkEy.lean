/- Ink: the reference's test of a stroke, and the time of its last point. Conditions: none. -/
import Derived.Test.YtkfadfddhbpngaaGreatTky
import Derived.Test.YtkfadfddhbpngaaGreatInkCy
namespace Go.Proofs.YtkfadfddhbpngaaGreat
open Go Go.RowKit
abbrev zo196_4_0 : Oper := { dst := some 13, op := .move (.tmp 0), type := 145, pos := "l02_strokes.go:11", after := #[], guard := none }
abbrev zo196_4_1 : Oper := { dst := some 14, op := .nilCheck (.tmp 13), type := 0, pos := "l02_strokes.go:11", after := #[{ on := 0, ground := .data }], guard := none }
abbrev zo196_4_2 : Oper := { dst := some 15, op := .fieldAddr 141 (.tmp 14) 0, type := 0, pos := "l02_strokes.go:11", after := #[{ on := 1, ground := .data }], guard := none }
abbrev zo196_4_3 : Oper := { dst := some 16, op := .load 65 (.tmp 15), type := 65, pos := "l02_strokes.go:11", after := #[{ on := 2, ground := .data }], guard := none }
abbrev zo196_4_4 : Oper := { dst := some 17, op := .move (.tmp 3), type := 3, pos := "l02_strokes.go:11", after := #[], guard := none }
abbrev zo196_4_5 : Oper := { dst := some 18, op := .indexAddr 65 (.tmp 16) (.tmp 17), type := 0, pos := "l02_strokes.go:11", after := #[{ on := 3, ground := .data }, { on := 4, ground := .data }], guard := none }
abbrev zo196_4_6 : Oper := { dst := some 19, op := .load 155 (.tmp 18), type := 155, pos := "l02_strokes.go:11", after := #[{ on := 5, ground := .data }], guard := none }
abbrev zo196_4_7 : Oper := { dst := some 20, op := .call { callee := .value (.func 223), args := #[.tmp 19], argTypes := #[155] }, type := 4, pos := "l02_strokes.go:11", after := #[{ on := 6, ground := .data }], guard := none }
abbrev zo196_4_8 : Oper := { dst := some 21, op := .unOp .not 4 (.tmp 20), type := 4, pos := "l02_strokes.go:11", after := #[{ on := 7, ground := .data }], guard := none }
abbrev zo196_4_9 : Oper := { dst := some 22, op := .move (.tmp 21), type := 4, pos := "l02_strokes.go:11", after := #[{ on := 8, ground := .data }, { on := 7, ground := .chain }], guard := none }
abbrev zo196_4_10 : Oper := { dst := some 23, op := .move (.tmp 3), type := 3, pos := "l02_strokes.go:11", after := #[{ on := 9, ground := .guard }], guard := some (9, false) }
abbrev zo196_4_11 : Oper := { dst := some 24, op := .binOp .gtr 3 (.tmp 23) (.const (.int .i64 0)) 3, type := 4, pos := "l02_strokes.go:11", after := #[{ on := 10, ground := .data }, { on := 9, ground := .guard }], guard := some (9, false) }
abbrev zo196_4_12 : Oper := { dst := some 25, op := .move (.tmp 24), type := 4, pos := "l02_strokes.go:11", after := #[{ on := 11, ground := .data }, { on := 9, ground := .chain }, { on := 9, ground := .guard }], guard := some (9, false) }
abbrev zo196_4_13 : Oper := { dst := some 26, op := .move (.tmp 0), type := 145, pos := "l02_strokes.go:11", after := #[{ on := 12, ground := .guard }], guard := some (12, true) }
abbrev zo196_4_14 : Oper := { dst := some 27, op := .nilCheck (.tmp 26), type := 0, pos := "l02_strokes.go:11", after := #[{ on := 13, ground := .data }, { on := 12, ground := .guard }], guard := some (12, true) }
abbrev zo196_4_15 : Oper := { dst := some 28, op := .fieldAddr 141 (.tmp 27) 0, type := 0, pos := "l02_strokes.go:11", after := #[{ on := 14, ground := .data }, { on := 12, ground := .guard }], guard := some (12, true) }
abbrev zo196_4_16 : Oper := { dst := some 29, op := .load 65 (.tmp 28), type := 65, pos := "l02_strokes.go:11", after := #[{ on := 15, ground := .data }, { on := 12, ground := .guard }], guard := some (12, true) }
abbrev zo196_4_17 : Oper := { dst := some 30, op := .move (.tmp 3), type := 3, pos := "l02_strokes.go:11", after := #[{ on := 12, ground := .guard }], guard := some (12, true) }
abbrev zo196_4_18 : Oper := { dst := some 31, op := .indexAddr 65 (.tmp 29) (.tmp 30), type := 0, pos := "l02_strokes.go:11", after := #[{ on := 16, ground := .data }, { on := 17, ground := .data }, { on := 12, ground := .guard }], guard := some (12, true) }
abbrev zo196_4_19 : Oper := { dst := some 32, op := .fieldAddr 155 (.tmp 31) 2, type := 0, pos := "l02_strokes.go:11", after := #[{ on := 18, ground := .data }, { on := 12, ground := .guard }], guard := some (12, true) }
abbrev zo196_4_20 : Oper := { dst := some 33, op := .load 2 (.tmp 32), type := 2, pos := "l02_strokes.go:11", after := #[{ on := 19, ground := .data }, { on := 12, ground := .guard }], guard := some (12, true) }
abbrev zo196_4_21 : Oper := { dst := some 34, op := .move (.tmp 0), type := 145, pos := "l02_strokes.go:11", after := #[{ on := 12, ground := .guard }], guard := some (12, true) }
abbrev zo196_4_22 : Oper := { dst := some 35, op := .nilCheck (.tmp 34), type := 0, pos := "l02_strokes.go:11", after := #[{ on := 21, ground := .data }, { on := 12, ground := .guard }], guard := some (12, true) }
abbrev zo196_4_23 : Oper := { dst := some 36, op := .fieldAddr 141 (.tmp 35) 0, type := 0, pos := "l02_strokes.go:11", after := #[{ on := 22, ground := .data }, { on := 12, ground := .guard }], guard := some (12, true) }
abbrev zo196_4_24 : Oper := { dst := some 37, op := .load 65 (.tmp 36), type := 65, pos := "l02_strokes.go:11", after := #[{ on := 23, ground := .data }, { on := 12, ground := .guard }], guard := some (12, true) }
abbrev zo196_4_25 : Oper := { dst := some 38, op := .move (.tmp 3), type := 3, pos := "l02_strokes.go:11", after := #[{ on := 12, ground := .guard }], guard := some (12, true) }
abbrev zo196_4_26 : Oper := { dst := some 39, op := .binOp .sub 3 (.tmp 38) (.const (.int .i64 1)) 3, type := 3, pos := "l02_strokes.go:11", after := #[{ on := 25, ground := .data }, { on := 12, ground := .guard }], guard := some (12, true) }
abbrev zo196_4_27 : Oper := { dst := some 40, op := .indexAddr 65 (.tmp 37) (.tmp 39), type := 0, pos := "l02_strokes.go:11", after := #[{ on := 24, ground := .data }, { on := 26, ground := .data }, { on := 12, ground := .guard }], guard := some (12, true) }
abbrev zo196_4_28 : Oper := { dst := some 41, op := .fieldAddr 155 (.tmp 40) 2, type := 0, pos := "l02_strokes.go:11", after := #[{ on := 27, ground := .data }, { on := 12, ground := .guard }], guard := some (12, true) }
abbrev zo196_4_29 : Oper := { dst := some 42, op := .load 2 (.tmp 41), type := 2, pos := "l02_strokes.go:11", after := #[{ on := 28, ground := .data }, { on := 12, ground := .guard }], guard := some (12, true) }
abbrev zo196_4_30 : Oper := { dst := some 43, op := .binOp .leq 2 (.tmp 33) (.tmp 42) 2, type := 4, pos := "l02_strokes.go:11", after := #[{ on := 20, ground := .data }, { on := 29, ground := .data }, { on := 12, ground := .guard }], guard := some (12, true) }
abbrev zo196_4_31 : Oper := { dst := some 44, op := .pick (.tmp 25) (.tmp 43) (.const (.bool false)), type := 4, pos := "l02_strokes.go:11", after := #[{ on := 12, ground := .data }, { on := 30, ground := .data }, { on := 9, ground := .guard }], guard := some (9, false) }
abbrev zo196_4_32 : Oper := { dst := some 45, op := .pick (.tmp 22) (.const (.bool true)) (.tmp 44), type := 4, pos := "l02_strokes.go:11", after := #[{ on := 9, ground := .data }, { on := 31, ground := .data }], guard := none }

set_option maxRecDepth 100000 in
set_option maxHeartbeats 1000000 in
theorem spec_l02Stroke_c {o : Bool} {e : TypeId} {xs : PStroke} {v : Value} {F : List Nat} {g f : Nat} (w : World) (hg : w.cell? ⟨g, f, none⟩ = some v) (hgl : g < w.heap.size) (h : (pPoints e).rep o w xs [v] F) (hx : xs.length ≤ 1048576) :
 Calls Tryz.prog 196 #[.pointer (some ⟨g, f, none⟩)] w fun e w' => e = .returned (.bool (strokeB xs)) ∧ Below w.heap.size w w' := by
 obtain ⟨A, c, rfl, hc1, hc2, hr⟩ := pPoints_open h
 clear h
 go_enter Tryz.func196, Tryz.ntmps196
 go_wp2_with fail
 go_loopw [3] (fun i wr => ∃ k : Nat, k ≤ xs.length ∧ i = .int .i64 k ∧ Hid (ptsOk xs k = true) ∧ Below w.heap.size w wr) (fun i _ => xs.length - (intOf i).toNat)
 case atStart => exact ⟨0, Nat.zero_le _, rfl, rfl, Below.refl _ _⟩
 case round =>
  obtain ⟨k, hk, rfl, hok, hb⟩ := hrel
  have hbs := hb.size
  rw [← hb.cell (p := ⟨g, _, none⟩) hgl] at hg
  replace hgl : g < wr.heap.size := by omega
  by_cases hlt : k < xs.length
  · obtain ⟨b, off, rfl, hbb, _, h0, h1, h2, _⟩ := hr k hlt
    rw [← hb.cell (p := ⟨b, _, none⟩) hbb] at h0 h1 h2
    have hbb' : b < wr.heap.size := by omega
    have HC := Lib.hid (spec_l02Point_c xs[k])
    have kp : ∀ (g i : Nat) (u : Value), g < wr.heap.size → wr.cell? ⟨g, i, none⟩ = some u → (wr.drew.alloc (.cells #[.int .i64 xs[k].x, .int .i64 xs[k].y, .int .i64 xs[k].t] 155)).cell? ⟨g, i, none⟩ = some u := fun g i u hg hc => (World.cell?_alloc_past (w := wr.drew) _ _ _ hg).trans hc
    have al : Below w.heap.size w (wr.drew.alloc (.cells #[.int .i64 xs[k].x, .int .i64 xs[k].y, .int .i64 xs[k].t] 155)) := (hb.drew).alloc hbs _
    have k0 : (0 : Int) ≤ (k : Int) := by omega
    have kl' : (k : Int) < (xs.length : Int) := by omega
    cases hp : pointB xs[k]
    · have HF := Lib.hid (strokeB_false hlt (ptOk_bad hlt hp))
      simp only [hp] at HC
      clear hr hp
      go_wp2_with fail
      have hS : (fun w' => w'.cell? ⟨g, f, none⟩ = some (.slice (some ⟨b, off, none⟩) xs.length c) ∧ w'.cell? ⟨b, off + k * 3, none⟩ = some (.int .i64 xs[k].x) ∧ w'.cell? ⟨b, off + k * 3 + 1, none⟩ = some (.int .i64 xs[k].y) ∧ w'.cell? ⟨b, off + k * 3 + 2, none⟩ = some (.int .i64 xs[k].t)) wr.drew := ⟨hg, h0, h1, h2⟩
      dsimp only at hS
      refine wp_region_held_drew (S := (fun w' => w'.cell? ⟨g, f, none⟩ = some (.slice (some ⟨b, off, none⟩) xs.length c) ∧ w'.cell? ⟨b, off + k * 3, none⟩ = some (.int .i64 xs[k].x) ∧ w'.cell? ⟨b, off + k * 3 + 1, none⟩ = some (.int .i64 xs[k].y) ∧ w'.cell? ⟨b, off + k * 3 + 2, none⟩ = some (.int .i64 xs[k].t))) (by kernel_rfl) hS (fun _ => ?_)
      refine tK (i := 0) (oi := zo196_4_0) (v := ?_) rfl (by kernel_rfl) (fun _ _ _ h => h) (Or.inl ⟨rfl, ?_⟩) hS ?_
      rotate_left
      · (intro w' hS'; (try dsimp only at hS'); dsimp only [zo196_4_0]; go_simp; try with_reducible rfl)
      simp only [Act.put, pA, pB, pC]
      refine tK (i := 1) (oi := zo196_4_1) (v := ?_) rfl (by kernel_rfl) (fun _ _ _ h => h) (Or.inl ⟨rfl, ?_⟩) hS ?_
      rotate_left
      · (intro w' hS'; (try dsimp only at hS'); dsimp only [zo196_4_1]; go_simp; try with_reducible rfl)
      simp only [Act.put, pA, pB, pC]
      refine tK (i := 2) (oi := zo196_4_2) (v := ?_) rfl (by kernel_rfl) (fun _ _ _ h => h) (Or.inl ⟨rfl, ?_⟩) hS ?_
      rotate_left
      · (intro w' hS'; (try dsimp only at hS'); dsimp only [zo196_4_2]; go_simp; try with_reducible rfl)
      simp only [Act.put, pA, pB, pC]
      refine tK (i := 3) (oi := zo196_4_3) (v := ?_) rfl (by kernel_rfl) (fun _ _ _ h => h) (Or.inl ⟨rfl, ?_⟩) hS ?_
      rotate_left
      · (intro w' hS'; (try dsimp only at hS'); dsimp only [zo196_4_3]; go_simp; try with_reducible rfl)
      simp only [Act.put, pA, pB, pC]
      refine tK (i := 4) (oi := zo196_4_4) (v := ?_) rfl (by kernel_rfl) (fun _ _ _ h => h) (Or.inl ⟨rfl, ?_⟩) hS ?_
      rotate_left
      · (intro w' hS'; (try dsimp only at hS'); dsimp only [zo196_4_4]; go_simp; try with_reducible rfl)
      simp only [Act.put, pA, pB, pC]
      refine tK (i := 5) (oi := zo196_4_5) (v := ?_) rfl (by kernel_rfl) (fun _ _ _ h => h) (Or.inl ⟨rfl, ?_⟩) hS ?_
      rotate_left
      · (intro w' hS'; (try dsimp only at hS'); dsimp only [zo196_4_5]; go_simp; try with_reducible rfl)
      simp only [Act.put, pA, pB, pC]
      refine tK (i := 6) (oi := zo196_4_6) (v := ?_) rfl (by kernel_rfl) (fun _ _ _ h => h) (Or.inl ⟨rfl, ?_⟩) hS ?_
      rotate_left
      · (intro w' hS'; (try dsimp only at hS'); dsimp only [zo196_4_6]; go_simp; try with_reducible rfl)
      simp only [Act.put, pA, pB, pC]
      refine wpAnyH_ready (rs := [7]) (by kernel_rfl) (by simp) ?_
      refine AllReadyH.cons (o := zo196_4_7) rfl (fun K hK => ?_) .nil
      refine step_call 223 #[.tmp 19] _ rfl rfl #[.agg #[.int .i64 xs[k].x, .int .i64 xs[k].y, .int .i64 xs[k].t]] Tryz.call223 (by go_simp) (HC.out _) ?_
      rintro e w1 ⟨rfl, rfl⟩
      refine ⟨_, rfl, ?_⟩
      replace hS : (fun w' => w'.cell? ⟨g, f, none⟩ = some (.slice (some ⟨b, off, none⟩) xs.length c) ∧ w'.cell? ⟨b, off + k * 3, none⟩ = some (.int .i64 xs[k].x) ∧ w'.cell? ⟨b, off + k * 3 + 1, none⟩ = some (.int .i64 xs[k].y) ∧ w'.cell? ⟨b, off + k * 3 + 2, none⟩ = some (.int .i64 xs[k].t)) (wr.drew.alloc (.cells #[.int .i64 xs[k].x, .int .i64 xs[k].y, .int .i64 xs[k].t] 155)) := ⟨kp _ _ _ hgl hg, kp _ _ _ hbb' h0, kp _ _ _ hbb' h1, kp _ _ _ hbb' h2⟩
      dsimp only at hS
      refine hK.out _ _ ?_ (fun hHeld => ?_)
      · exact hS
      clear hK K hHeld
      simp only [Act.put, pA, pB, pC]
      refine tK (i := 8) (oi := zo196_4_8) (v := ?_) rfl (by kernel_rfl) (fun _ _ _ h => h) (Or.inl ⟨rfl, ?_⟩) hS ?_
      rotate_left
      · (intro w' hS'; (try dsimp only at hS'); dsimp only [zo196_4_8]; go_simp; try with_reducible rfl)
      simp only [Act.put, pA, pB, pC]
      refine tK (i := 9) (oi := zo196_4_9) (v := ?_) rfl (by kernel_rfl) (fun _ _ _ h => h) (Or.inl ⟨rfl, ?_⟩) hS ?_
      rotate_left
      · (intro w' hS'; (try dsimp only at hS'); dsimp only [zo196_4_9]; go_simp; try with_reducible rfl)
      simp only [Act.put, pA, pB, pC]
      refine tK (i := 10) (oi := zo196_4_10) rfl (by kernel_rfl) (fun _ _ _ h => h) (Or.inr ⟨rfl, rfl⟩) hS ?_
      simp only [Act.put, pA, pB, pC]
      refine tK (i := 11) (oi := zo196_4_11) rfl (by kernel_rfl) (fun _ _ _ h => h) (Or.inr ⟨rfl, rfl⟩) hS ?_
      simp only [Act.put, pA, pB, pC]
      refine tK (i := 12) (oi := zo196_4_12) rfl (by kernel_rfl) (fun _ _ _ h => h) (Or.inr ⟨rfl, rfl⟩) hS ?_
      simp only [Act.put, pA, pB, pC]
      refine tK (i := 13) (oi := zo196_4_13) rfl (by kernel_rfl) (fun _ _ _ h => h) (Or.inr ⟨rfl, rfl⟩) hS ?_
      simp only [Act.put, pA, pB, pC]
      refine tK (i := 14) (oi := zo196_4_14) rfl (by kernel_rfl) (fun _ _ _ h => h) (Or.inr ⟨rfl, rfl⟩) hS ?_
      simp only [Act.put, pA, pB, pC]
      refine tK (i := 15) (oi := zo196_4_15) rfl (by kernel_rfl) (fun _ _ _ h => h) (Or.inr ⟨rfl, rfl⟩) hS ?_
      simp only [Act.put, pA, pB, pC]
      refine tK (i := 16) (oi := zo196_4_16) rfl (by kernel_rfl) (fun _ _ _ h => h) (Or.inr ⟨rfl, rfl⟩) hS ?_
      simp only [Act.put, pA, pB, pC]
      refine tK (i := 17) (oi := zo196_4_17) rfl (by kernel_rfl) (fun _ _ _ h => h) (Or.inr ⟨rfl, rfl⟩) hS ?_
      simp only [Act.put, pA, pB, pC]
      refine tK (i := 18) (oi := zo196_4_18) rfl (by kernel_rfl) (fun _ _ _ h => h) (Or.inr ⟨rfl, rfl⟩) hS ?_
      simp only [Act.put, pA, pB, pC]
      refine tK (i := 19) (oi := zo196_4_19) rfl (by kernel_rfl) (fun _ _ _ h => h) (Or.inr ⟨rfl, rfl⟩) hS ?_
      simp only [Act.put, pA, pB, pC]
      refine tK (i := 20) (oi := zo196_4_20) rfl (by kernel_rfl) (fun _ _ _ h => h) (Or.inr ⟨rfl, rfl⟩) hS ?_
      simp only [Act.put, pA, pB, pC]
      refine tK (i := 21) (oi := zo196_4_21) rfl (by kernel_rfl) (fun _ _ _ h => h) (Or.inr ⟨rfl, rfl⟩) hS ?_
      simp only [Act.put, pA, pB, pC]
      refine tK (i := 22) (oi := zo196_4_22) rfl (by kernel_rfl) (fun _ _ _ h => h) (Or.inr ⟨rfl, rfl⟩) hS ?_
      simp only [Act.put, pA, pB, pC]
      refine tK (i := 23) (oi := zo196_4_23) rfl (by kernel_rfl) (fun _ _ _ h => h) (Or.inr ⟨rfl, rfl⟩) hS ?_
      simp only [Act.put, pA, pB, pC]
      refine tK (i := 24) (oi := zo196_4_24) rfl (by kernel_rfl) (fun _ _ _ h => h) (Or.inr ⟨rfl, rfl⟩) hS ?_
      simp only [Act.put, pA, pB, pC]
      refine tK (i := 25) (oi := zo196_4_25) rfl (by kernel_rfl) (fun _ _ _ h => h) (Or.inr ⟨rfl, rfl⟩) hS ?_
      simp only [Act.put, pA, pB, pC]
      refine tK (i := 26) (oi := zo196_4_26) rfl (by kernel_rfl) (fun _ _ _ h => h) (Or.inr ⟨rfl, rfl⟩) hS ?_
      simp only [Act.put, pA, pB, pC]
      refine tK (i := 27) (oi := zo196_4_27) rfl (by kernel_rfl) (fun _ _ _ h => h) (Or.inr ⟨rfl, rfl⟩) hS ?_
      simp only [Act.put, pA, pB, pC]
      refine tK (i := 28) (oi := zo196_4_28) rfl (by kernel_rfl) (fun _ _ _ h => h) (Or.inr ⟨rfl, rfl⟩) hS ?_
      simp only [Act.put, pA, pB, pC]
      refine tK (i := 29) (oi := zo196_4_29) rfl (by kernel_rfl) (fun _ _ _ h => h) (Or.inr ⟨rfl, rfl⟩) hS ?_
      simp only [Act.put, pA, pB, pC]
      refine tK (i := 30) (oi := zo196_4_30) rfl (by kernel_rfl) (fun _ _ _ h => h) (Or.inr ⟨rfl, rfl⟩) hS ?_
      simp only [Act.put, pA, pB, pC]
      refine tK (i := 31) (oi := zo196_4_31) rfl (by kernel_rfl) (fun _ _ _ h => h) (Or.inr ⟨rfl, rfl⟩) hS ?_
      simp only [Act.put, pA, pB, pC]
      refine tK (i := 32) (oi := zo196_4_32) (v := ?_) rfl (by kernel_rfl) (fun _ _ _ h => h) (Or.inl ⟨rfl, ?_⟩) hS ?_
      rotate_left
      · (intro w' hS'; (try dsimp only at hS'); dsimp only [zo196_4_32]; go_simp; try with_reducible rfl)
      simp only [Act.put, pA, pB, pC]
      refine wpAnyH_done (by kernel_rfl) ?_ _
      go_wp2_with fail
      go_ret
      exact ⟨ret_boolI HF.out.symm, al⟩
    · have HP := Lib.hid hp
      simp only [hp] at HC
      clear hp
      by_cases hz : k = 0
      · have HK : Hid (ptsOk xs (k + 1) = true) := by show _ = _; rw [ptsOk, hok.out, ptOk_step hlt HP.out (.inl hz)]; rfl
        have g0 : (0 < k) = False := eq_false (by omega)
        clear hr hz
        go_wp2_with fail
        have hS : (fun w' => w'.cell? ⟨g, f, none⟩ = some (.slice (some ⟨b, off, none⟩) xs.length c) ∧ w'.cell? ⟨b, off + k * 3, none⟩ = some (.int .i64 xs[k].x) ∧ w'.cell? ⟨b, off + k * 3 + 1, none⟩ = some (.int .i64 xs[k].y) ∧ w'.cell? ⟨b, off + k * 3 + 2, none⟩ = some (.int .i64 xs[k].t)) wr.drew := ⟨hg, h0, h1, h2⟩
        dsimp only at hS
        refine wp_region_held_drew (S := (fun w' => w'.cell? ⟨g, f, none⟩ = some (.slice (some ⟨b, off, none⟩) xs.length c) ∧ w'.cell? ⟨b, off + k * 3, none⟩ = some (.int .i64 xs[k].x) ∧ w'.cell? ⟨b, off + k * 3 + 1, none⟩ = some (.int .i64 xs[k].y) ∧ w'.cell? ⟨b, off + k * 3 + 2, none⟩ = some (.int .i64 xs[k].t))) (by kernel_rfl) hS (fun _ => ?_)
        refine tK (i := 0) (oi := zo196_4_0) (v := ?_) rfl (by kernel_rfl) (fun _ _ _ h => h) (Or.inl ⟨rfl, ?_⟩) hS ?_
        rotate_left
        · (intro w' hS'; (try dsimp only at hS'); dsimp only [zo196_4_0]; go_simp; try with_reducible rfl)
        simp only [Act.put, pA, pB, pC]
        refine tK (i := 1) (oi := zo196_4_1) (v := ?_) rfl (by kernel_rfl) (fun _ _ _ h => h) (Or.inl ⟨rfl, ?_⟩) hS ?_
        rotate_left
        · (intro w' hS'; (try dsimp only at hS'); dsimp only [zo196_4_1]; go_simp; try with_reducible rfl)
        simp only [Act.put, pA, pB, pC]
        refine tK (i := 2) (oi := zo196_4_2) (v := ?_) rfl (by kernel_rfl) (fun _ _ _ h => h) (Or.inl ⟨rfl, ?_⟩) hS ?_
        rotate_left
        · (intro w' hS'; (try dsimp only at hS'); dsimp only [zo196_4_2]; go_simp; try with_reducible rfl)
        simp only [Act.put, pA, pB, pC]
        refine tK (i := 3) (oi := zo196_4_3) (v := ?_) rfl (by kernel_rfl) (fun _ _ _ h => h) (Or.inl ⟨rfl, ?_⟩) hS ?_
        rotate_left
        · (intro w' hS'; (try dsimp only at hS'); dsimp only [zo196_4_3]; go_simp; try with_reducible rfl)
        simp only [Act.put, pA, pB, pC]
        refine tK (i := 4) (oi := zo196_4_4) (v := ?_) rfl (by kernel_rfl) (fun _ _ _ h => h) (Or.inl ⟨rfl, ?_⟩) hS ?_
        rotate_left
        · (intro w' hS'; (try dsimp only at hS'); dsimp only [zo196_4_4]; go_simp; try with_reducible rfl)
        simp only [Act.put, pA, pB, pC]
        refine tK (i := 5) (oi := zo196_4_5) (v := ?_) rfl (by kernel_rfl) (fun _ _ _ h => h) (Or.inl ⟨rfl, ?_⟩) hS ?_
        rotate_left
        · (intro w' hS'; (try dsimp only at hS'); dsimp only [zo196_4_5]; go_simp; try with_reducible rfl)
        simp only [Act.put, pA, pB, pC]
        refine tK (i := 6) (oi := zo196_4_6) (v := ?_) rfl (by kernel_rfl) (fun _ _ _ h => h) (Or.inl ⟨rfl, ?_⟩) hS ?_
        rotate_left
        · (intro w' hS'; (try dsimp only at hS'); dsimp only [zo196_4_6]; go_simp; try with_reducible rfl)
        simp only [Act.put, pA, pB, pC]
        refine wpAnyH_ready (rs := [7]) (by kernel_rfl) (by simp) ?_
        refine AllReadyH.cons (o := zo196_4_7) rfl (fun K hK => ?_) .nil
        refine step_call 223 #[.tmp 19] _ rfl rfl #[.agg #[.int .i64 xs[k].x, .int .i64 xs[k].y, .int .i64 xs[k].t]] Tryz.call223 (by go_simp) (HC.out _) ?_
        rintro e w1 ⟨rfl, rfl⟩
        refine ⟨_, rfl, ?_⟩
        replace hS : (fun w' => w'.cell? ⟨g, f, none⟩ = some (.slice (some ⟨b, off, none⟩) xs.length c) ∧ w'.cell? ⟨b, off + k * 3, none⟩ = some (.int .i64 xs[k].x) ∧ w'.cell? ⟨b, off + k * 3 + 1, none⟩ = some (.int .i64 xs[k].y) ∧ w'.cell? ⟨b, off + k * 3 + 2, none⟩ = some (.int .i64 xs[k].t)) (wr.drew.alloc (.cells #[.int .i64 xs[k].x, .int .i64 xs[k].y, .int .i64 xs[k].t] 155)) := ⟨kp _ _ _ hgl hg, kp _ _ _ hbb' h0, kp _ _ _ hbb' h1, kp _ _ _ hbb' h2⟩
        dsimp only at hS
        refine hK.out _ _ ?_ (fun hHeld => ?_)
        · exact hS
        clear hK K hHeld
        simp only [Act.put, pA, pB, pC]
        refine tK (i := 8) (oi := zo196_4_8) (v := ?_) rfl (by kernel_rfl) (fun _ _ _ h => h) (Or.inl ⟨rfl, ?_⟩) hS ?_
        rotate_left
        · (intro w' hS'; (try dsimp only at hS'); dsimp only [zo196_4_8]; go_simp; try with_reducible rfl)
        simp only [Act.put, pA, pB, pC]
        refine tK (i := 9) (oi := zo196_4_9) (v := ?_) rfl (by kernel_rfl) (fun _ _ _ h => h) (Or.inl ⟨rfl, ?_⟩) hS ?_
        rotate_left
        · (intro w' hS'; (try dsimp only at hS'); dsimp only [zo196_4_9]; go_simp; try with_reducible rfl)
        simp only [Act.put, pA, pB, pC]
        refine tK (i := 10) (oi := zo196_4_10) (v := ?_) rfl (by kernel_rfl) (fun _ _ _ h => h) (Or.inl ⟨rfl, ?_⟩) hS ?_
        rotate_left
        · (intro w' hS'; (try dsimp only at hS'); dsimp only [zo196_4_10]; go_simp; try with_reducible rfl)
        simp only [Act.put, pA, pB, pC]
        refine tK (i := 11) (oi := zo196_4_11) (v := ?_) rfl (by kernel_rfl) (fun _ _ _ h => h) (Or.inl ⟨rfl, ?_⟩) hS ?_
        rotate_left
        · (intro w' hS'; (try dsimp only at hS'); dsimp only [zo196_4_11]; go_simp; try with_reducible rfl)
        simp only [Act.put, pA, pB, pC]
        refine tK (i := 12) (oi := zo196_4_12) (v := ?_) rfl (by kernel_rfl) (fun _ _ _ h => h) (Or.inl ⟨rfl, ?_⟩) hS ?_
        rotate_left
        · (intro w' hS'; (try dsimp only at hS'); dsimp only [zo196_4_12]; go_simp; try with_reducible rfl)
        simp only [Act.put, pA, pB, pC]
        refine tK (i := 13) (oi := zo196_4_13) rfl (by kernel_rfl) (fun _ _ _ h => h) (Or.inr ⟨rfl, rfl⟩) hS ?_
        simp only [Act.put, pA, pB, pC]
        refine tK (i := 14) (oi := zo196_4_14) rfl (by kernel_rfl) (fun _ _ _ h => h) (Or.inr ⟨rfl, rfl⟩) hS ?_
        simp only [Act.put, pA, pB, pC]
        refine tK (i := 15) (oi := zo196_4_15) rfl (by kernel_rfl) (fun _ _ _ h => h) (Or.inr ⟨rfl, rfl⟩) hS ?_
        simp only [Act.put, pA, pB, pC]
        refine tK (i := 16) (oi := zo196_4_16) rfl (by kernel_rfl) (fun _ _ _ h => h) (Or.inr ⟨rfl, rfl⟩) hS ?_
        simp only [Act.put, pA, pB, pC]
        refine tK (i := 17) (oi := zo196_4_17) rfl (by kernel_rfl) (fun _ _ _ h => h) (Or.inr ⟨rfl, rfl⟩) hS ?_
        simp only [Act.put, pA, pB, pC]
        refine tK (i := 18) (oi := zo196_4_18) rfl (by kernel_rfl) (fun _ _ _ h => h) (Or.inr ⟨rfl, rfl⟩) hS ?_
        simp only [Act.put, pA, pB, pC]
        refine tK (i := 19) (oi := zo196_4_19) rfl (by kernel_rfl) (fun _ _ _ h => h) (Or.inr ⟨rfl, rfl⟩) hS ?_
        simp only [Act.put, pA, pB, pC]
        refine tK (i := 20) (oi := zo196_4_20) rfl (by kernel_rfl) (fun _ _ _ h => h) (Or.inr ⟨rfl, rfl⟩) hS ?_
        simp only [Act.put, pA, pB, pC]
        refine tK (i := 21) (oi := zo196_4_21) rfl (by kernel_rfl) (fun _ _ _ h => h) (Or.inr ⟨rfl, rfl⟩) hS ?_
        simp only [Act.put, pA, pB, pC]
        refine tK (i := 22) (oi := zo196_4_22) rfl (by kernel_rfl) (fun _ _ _ h => h) (Or.inr ⟨rfl, rfl⟩) hS ?_
        simp only [Act.put, pA, pB, pC]
        refine tK (i := 23) (oi := zo196_4_23) rfl (by kernel_rfl) (fun _ _ _ h => h) (Or.inr ⟨rfl, rfl⟩) hS ?_
        simp only [Act.put, pA, pB, pC]
        refine tK (i := 24) (oi := zo196_4_24) rfl (by kernel_rfl) (fun _ _ _ h => h) (Or.inr ⟨rfl, rfl⟩) hS ?_
        simp only [Act.put, pA, pB, pC]
        refine tK (i := 25) (oi := zo196_4_25) rfl (by kernel_rfl) (fun _ _ _ h => h) (Or.inr ⟨rfl, rfl⟩) hS ?_
        simp only [Act.put, pA, pB, pC]
        refine tK (i := 26) (oi := zo196_4_26) rfl (by kernel_rfl) (fun _ _ _ h => h) (Or.inr ⟨rfl, rfl⟩) hS ?_
        simp only [Act.put, pA, pB, pC]
        refine tK (i := 27) (oi := zo196_4_27) rfl (by kernel_rfl) (fun _ _ _ h => h) (Or.inr ⟨rfl, rfl⟩) hS ?_
        simp only [Act.put, pA, pB, pC]
        refine tK (i := 28) (oi := zo196_4_28) rfl (by kernel_rfl) (fun _ _ _ h => h) (Or.inr ⟨rfl, rfl⟩) hS ?_
        simp only [Act.put, pA, pB, pC]
        refine tK (i := 29) (oi := zo196_4_29) rfl (by kernel_rfl) (fun _ _ _ h => h) (Or.inr ⟨rfl, rfl⟩) hS ?_
        simp only [Act.put, pA, pB, pC]
        refine tK (i := 30) (oi := zo196_4_30) rfl (by kernel_rfl) (fun _ _ _ h => h) (Or.inr ⟨rfl, rfl⟩) hS ?_
        simp only [Act.put, pA, pB, pC]
        refine tK (i := 31) (oi := zo196_4_31) (v := ?_) rfl (by kernel_rfl) (fun _ _ _ h => h) (Or.inl ⟨rfl, ?_⟩) hS ?_
        rotate_left
        · (intro w' hS'; (try dsimp only at hS'); dsimp only [zo196_4_31]; go_simp; try with_reducible rfl)
        simp only [Act.put, pA, pB, pC]
        refine tK (i := 32) (oi := zo196_4_32) (v := ?_) rfl (by kernel_rfl) (fun _ _ _ h => h) (Or.inl ⟨rfl, ?_⟩) hS ?_
        rotate_left
        · (intro w' hS'; (try dsimp only at hS'); dsimp only [zo196_4_32]; go_simp; try with_reducible rfl)
        simp only [Act.put, pA, pB, pC]
        refine wpAnyH_done (by kernel_rfl) ?_ _
        go_wp2_with fail
        go_roundw
        case rel => exact ⟨k + 1, by omega, by go_num, HK, al⟩
        case measure => simp [intOf]; omega
      · obtain ⟨j, hj⟩ : ∃ j, k = j + 1 := ⟨k - 1, by omega⟩
        have jl : j < xs.length := by omega
        obtain ⟨b', off', e', hb3, _, _, _, h3, _⟩ := hr j jl
        injection e' with e'
        injection e' with e1 e2 _
        subst e1; subst e2
        rw [← hb.cell (p := ⟨b, _, none⟩) hb3] at h3
        have g0 : (0 < k) = True := eq_true (by omega)
        have gj : IntKind.i64.wrap ((k : Int) - 1) = (j : Int) := (IntWalk.i64_in _ (by omega)).trans (by omega)
        have jl' : (j : Int) < (xs.length : Int) := by omega
        have j0 : (0 : Int) ≤ (j : Int) := by omega
        clear hr
        by_cases ht : xs[k].t ≤ xs[j].t
        · have HF : Hid (strokeB xs = false) := strokeB_false hlt (by subst hj; exact ptOk_late hlt ht)
          have gt : (xs[k].t ≤ xs[j].t) = True := eq_true ht
          have HJ := Lib.hid hj
          clear hj ht hz
          go_wp2_with fail
          have hS : (fun w' => w'.cell? ⟨g, f, none⟩ = some (.slice (some ⟨b, off, none⟩) xs.length c) ∧ w'.cell? ⟨b, off + k * 3, none⟩ = some (.int .i64 xs[k].x) ∧ w'.cell? ⟨b, off + k * 3 + 1, none⟩ = some (.int .i64 xs[k].y) ∧ w'.cell? ⟨b, off + k * 3 + 2, none⟩ = some (.int .i64 xs[k].t) ∧ w'.cell? ⟨b, off + j * 3 + 2, none⟩ = some (.int .i64 xs[j].t)) wr.drew := ⟨hg, h0, h1, h2, h3⟩
          dsimp only at hS
          refine wp_region_held_drew (S := (fun w' => w'.cell? ⟨g, f, none⟩ = some (.slice (some ⟨b, off, none⟩) xs.length c) ∧ w'.cell? ⟨b, off + k * 3, none⟩ = some (.int .i64 xs[k].x) ∧ w'.cell? ⟨b, off + k * 3 + 1, none⟩ = some (.int .i64 xs[k].y) ∧ w'.cell? ⟨b, off + k * 3 + 2, none⟩ = some (.int .i64 xs[k].t) ∧ w'.cell? ⟨b, off + j * 3 + 2, none⟩ = some (.int .i64 xs[j].t))) (by kernel_rfl) hS (fun _ => ?_)
          refine tK (i := 0) (oi := zo196_4_0) (v := ?_) rfl (by kernel_rfl) (fun _ _ _ h => h) (Or.inl ⟨rfl, ?_⟩) hS ?_
          rotate_left
          · (intro w' hS'; (try dsimp only at hS'); dsimp only [zo196_4_0]; go_simp; try with_reducible rfl)
          simp only [Act.put, pA, pB, pC]
          refine tK (i := 1) (oi := zo196_4_1) (v := ?_) rfl (by kernel_rfl) (fun _ _ _ h => h) (Or.inl ⟨rfl, ?_⟩) hS ?_
          rotate_left
          · (intro w' hS'; (try dsimp only at hS'); dsimp only [zo196_4_1]; go_simp; try with_reducible rfl)
          simp only [Act.put, pA, pB, pC]
          refine tK (i := 2) (oi := zo196_4_2) (v := ?_) rfl (by kernel_rfl) (fun _ _ _ h => h) (Or.inl ⟨rfl, ?_⟩) hS ?_
          rotate_left
          · (intro w' hS'; (try dsimp only at hS'); dsimp only [zo196_4_2]; go_simp; try with_reducible rfl)
          simp only [Act.put, pA, pB, pC]
          refine tK (i := 3) (oi := zo196_4_3) (v := ?_) rfl (by kernel_rfl) (fun _ _ _ h => h) (Or.inl ⟨rfl, ?_⟩) hS ?_
          rotate_left
          · (intro w' hS'; (try dsimp only at hS'); dsimp only [zo196_4_3]; go_simp; try with_reducible rfl)
          simp only [Act.put, pA, pB, pC]
          refine tK (i := 4) (oi := zo196_4_4) (v := ?_) rfl (by kernel_rfl) (fun _ _ _ h => h) (Or.inl ⟨rfl, ?_⟩) hS ?_
          rotate_left
          · (intro w' hS'; (try dsimp only at hS'); dsimp only [zo196_4_4]; go_simp; try with_reducible rfl)
          simp only [Act.put, pA, pB, pC]
          refine tK (i := 5) (oi := zo196_4_5) (v := ?_) rfl (by kernel_rfl) (fun _ _ _ h => h) (Or.inl ⟨rfl, ?_⟩) hS ?_
          rotate_left
          · (intro w' hS'; (try dsimp only at hS'); dsimp only [zo196_4_5]; go_simp; try with_reducible rfl)
          simp only [Act.put, pA, pB, pC]
          refine tK (i := 6) (oi := zo196_4_6) (v := ?_) rfl (by kernel_rfl) (fun _ _ _ h => h) (Or.inl ⟨rfl, ?_⟩) hS ?_
          rotate_left
          · (intro w' hS'; (try dsimp only at hS'); dsimp only [zo196_4_6]; go_simp; try with_reducible rfl)
          simp only [Act.put, pA, pB, pC]
          refine wpAnyH_ready (rs := [7]) (by kernel_rfl) (by simp) ?_
          refine AllReadyH.cons (o := zo196_4_7) rfl (fun K hK => ?_) .nil
          refine step_call 223 #[.tmp 19] _ rfl rfl #[.agg #[.int .i64 xs[k].x, .int .i64 xs[k].y, .int .i64 xs[k].t]] Tryz.call223 (by go_simp) (HC.out _) ?_
          rintro e w1 ⟨rfl, rfl⟩
          refine ⟨_, rfl, ?_⟩
          replace hS : (fun w' => w'.cell? ⟨g, f, none⟩ = some (.slice (some ⟨b, off, none⟩) xs.length c) ∧ w'.cell? ⟨b, off + k * 3, none⟩ = some (.int .i64 xs[k].x) ∧ w'.cell? ⟨b, off + k * 3 + 1, none⟩ = some (.int .i64 xs[k].y) ∧ w'.cell? ⟨b, off + k * 3 + 2, none⟩ = some (.int .i64 xs[k].t) ∧ w'.cell? ⟨b, off + j * 3 + 2, none⟩ = some (.int .i64 xs[j].t)) (wr.drew.alloc (.cells #[.int .i64 xs[k].x, .int .i64 xs[k].y, .int .i64 xs[k].t] 155)) := ⟨kp _ _ _ hgl hg, kp _ _ _ hbb' h0, kp _ _ _ hbb' h1, kp _ _ _ hbb' h2, kp _ _ _ hbb' h3⟩
          dsimp only at hS
          refine hK.out _ _ ?_ (fun hHeld => ?_)
          · exact hS
          clear hK K hHeld
          simp only [Act.put, pA, pB, pC]
          refine tK (i := 8) (oi := zo196_4_8) (v := ?_) rfl (by kernel_rfl) (fun _ _ _ h => h) (Or.inl ⟨rfl, ?_⟩) hS ?_
          rotate_left
          · (intro w' hS'; (try dsimp only at hS'); dsimp only [zo196_4_8]; go_simp; try with_reducible rfl)
          simp only [Act.put, pA, pB, pC]
          refine tK (i := 9) (oi := zo196_4_9) (v := ?_) rfl (by kernel_rfl) (fun _ _ _ h => h) (Or.inl ⟨rfl, ?_⟩) hS ?_
          rotate_left
          · (intro w' hS'; (try dsimp only at hS'); dsimp only [zo196_4_9]; go_simp; try with_reducible rfl)
          simp only [Act.put, pA, pB, pC]
          refine tK (i := 10) (oi := zo196_4_10) (v := ?_) rfl (by kernel_rfl) (fun _ _ _ h => h) (Or.inl ⟨rfl, ?_⟩) hS ?_
          rotate_left
          · (intro w' hS'; (try dsimp only at hS'); dsimp only [zo196_4_10]; go_simp; try with_reducible rfl)
          simp only [Act.put, pA, pB, pC]
          refine tK (i := 11) (oi := zo196_4_11) (v := ?_) rfl (by kernel_rfl) (fun _ _ _ h => h) (Or.inl ⟨rfl, ?_⟩) hS ?_
          rotate_left
          · (intro w' hS'; (try dsimp only at hS'); dsimp only [zo196_4_11]; go_simp; try with_reducible rfl)
          simp only [Act.put, pA, pB, pC]
          refine tK (i := 12) (oi := zo196_4_12) (v := ?_) rfl (by kernel_rfl) (fun _ _ _ h => h) (Or.inl ⟨rfl, ?_⟩) hS ?_
          rotate_left
          · (intro w' hS'; (try dsimp only at hS'); dsimp only [zo196_4_12]; go_simp; try with_reducible rfl)
          simp only [Act.put, pA, pB, pC]
          refine tK (i := 13) (oi := zo196_4_13) (v := ?_) rfl (by kernel_rfl) (fun _ _ _ h => h) (Or.inl ⟨rfl, ?_⟩) hS ?_
          rotate_left
          · (intro w' hS'; (try dsimp only at hS'); dsimp only [zo196_4_13]; go_simp; try with_reducible rfl)
          simp only [Act.put, pA, pB, pC]
          refine tK (i := 14) (oi := zo196_4_14) (v := ?_) rfl (by kernel_rfl) (fun _ _ _ h => h) (Or.inl ⟨rfl, ?_⟩) hS ?_
          rotate_left
          · (intro w' hS'; (try dsimp only at hS'); dsimp only [zo196_4_14]; go_simp; try with_reducible rfl)
          simp only [Act.put, pA, pB, pC]
          refine tK (i := 15) (oi := zo196_4_15) (v := ?_) rfl (by kernel_rfl) (fun _ _ _ h => h) (Or.inl ⟨rfl, ?_⟩) hS ?_
          rotate_left
          · (intro w' hS'; (try dsimp only at hS'); dsimp only [zo196_4_15]; go_simp; try with_reducible rfl)
          simp only [Act.put, pA, pB, pC]
          refine tK (i := 16) (oi := zo196_4_16) (v := ?_) rfl (by kernel_rfl) (fun _ _ _ h => h) (Or.inl ⟨rfl, ?_⟩) hS ?_
          rotate_left
          · (intro w' hS'; (try dsimp only at hS'); dsimp only [zo196_4_16]; go_simp; try with_reducible rfl)
          simp only [Act.put, pA, pB, pC]
          refine tK (i := 17) (oi := zo196_4_17) (v := ?_) rfl (by kernel_rfl) (fun _ _ _ h => h) (Or.inl ⟨rfl, ?_⟩) hS ?_
          rotate_left
          · (intro w' hS'; (try dsimp only at hS'); dsimp only [zo196_4_17]; go_simp; try with_reducible rfl)
          simp only [Act.put, pA, pB, pC]
          refine tK (i := 18) (oi := zo196_4_18) (v := ?_) rfl (by kernel_rfl) (fun _ _ _ h => h) (Or.inl ⟨rfl, ?_⟩) hS ?_
          rotate_left
          · (intro w' hS'; (try dsimp only at hS'); dsimp only [zo196_4_18]; go_simp; try with_reducible rfl)
          simp only [Act.put, pA, pB, pC]
          refine tK (i := 19) (oi := zo196_4_19) (v := ?_) rfl (by kernel_rfl) (fun _ _ _ h => h) (Or.inl ⟨rfl, ?_⟩) hS ?_
          rotate_left
          · (intro w' hS'; (try dsimp only at hS'); dsimp only [zo196_4_19]; go_simp; try with_reducible rfl)
          simp only [Act.put, pA, pB, pC]
          refine tK (i := 20) (oi := zo196_4_20) (v := ?_) rfl (by kernel_rfl) (fun _ _ _ h => h) (Or.inl ⟨rfl, ?_⟩) hS ?_
          rotate_left
          · (intro w' hS'; (try dsimp only at hS'); dsimp only [zo196_4_20]; go_simp; try with_reducible rfl)
          simp only [Act.put, pA, pB, pC]
          refine tK (i := 21) (oi := zo196_4_21) (v := ?_) rfl (by kernel_rfl) (fun _ _ _ h => h) (Or.inl ⟨rfl, ?_⟩) hS ?_
          rotate_left
          · (intro w' hS'; (try dsimp only at hS'); dsimp only [zo196_4_21]; go_simp; try with_reducible rfl)
          simp only [Act.put, pA, pB, pC]
          refine tK (i := 22) (oi := zo196_4_22) (v := ?_) rfl (by kernel_rfl) (fun _ _ _ h => h) (Or.inl ⟨rfl, ?_⟩) hS ?_
          rotate_left
          · (intro w' hS'; (try dsimp only at hS'); dsimp only [zo196_4_22]; go_simp; try with_reducible rfl)
          simp only [Act.put, pA, pB, pC]
          refine tK (i := 23) (oi := zo196_4_23) (v := ?_) rfl (by kernel_rfl) (fun _ _ _ h => h) (Or.inl ⟨rfl, ?_⟩) hS ?_
          rotate_left
          · (intro w' hS'; (try dsimp only at hS'); dsimp only [zo196_4_23]; go_simp; try with_reducible rfl)
          simp only [Act.put, pA, pB, pC]
          refine tK (i := 24) (oi := zo196_4_24) (v := ?_) rfl (by kernel_rfl) (fun _ _ _ h => h) (Or.inl ⟨rfl, ?_⟩) hS ?_
          rotate_left
          · (intro w' hS'; (try dsimp only at hS'); dsimp only [zo196_4_24]; go_simp; try with_reducible rfl)
          simp only [Act.put, pA, pB, pC]
          refine tK (i := 25) (oi := zo196_4_25) (v := ?_) rfl (by kernel_rfl) (fun _ _ _ h => h) (Or.inl ⟨rfl, ?_⟩) hS ?_
          rotate_left
          · (intro w' hS'; (try dsimp only at hS'); dsimp only [zo196_4_25]; go_simp; try with_reducible rfl)
          simp only [Act.put, pA, pB, pC]
          refine tK (i := 26) (oi := zo196_4_26) (v := ?_) rfl (by kernel_rfl) (fun _ _ _ h => h) (Or.inl ⟨rfl, ?_⟩) hS ?_
          rotate_left
          · (intro w' hS'; (try dsimp only at hS'); dsimp only [zo196_4_26]; go_simp; try with_reducible rfl)
          simp only [Act.put, pA, pB, pC]
          refine tK (i := 27) (oi := zo196_4_27) (v := ?_) rfl (by kernel_rfl) (fun _ _ _ h => h) (Or.inl ⟨rfl, ?_⟩) hS ?_
          rotate_left
          · (intro w' hS'; (try dsimp only at hS'); dsimp only [zo196_4_27]; go_simp; try with_reducible rfl)
          simp only [Act.put, pA, pB, pC]
          refine tK (i := 28) (oi := zo196_4_28) (v := ?_) rfl (by kernel_rfl) (fun _ _ _ h => h) (Or.inl ⟨rfl, ?_⟩) hS ?_
          rotate_left
          · (intro w' hS'; (try dsimp only at hS'); dsimp only [zo196_4_28]; go_simp; try with_reducible rfl)
          simp only [Act.put, pA, pB, pC]
          refine tK (i := 29) (oi := zo196_4_29) (v := ?_) rfl (by kernel_rfl) (fun _ _ _ h => h) (Or.inl ⟨rfl, ?_⟩) hS ?_
          rotate_left
          · (intro w' hS'; (try dsimp only at hS'); dsimp only [zo196_4_29]; go_simp; try with_reducible rfl)
          simp only [Act.put, pA, pB, pC]
          refine tK (i := 30) (oi := zo196_4_30) (v := ?_) rfl (by kernel_rfl) (fun _ _ _ h => h) (Or.inl ⟨rfl, ?_⟩) hS ?_
          rotate_left
          · (intro w' hS'; (try dsimp only at hS'); dsimp only [zo196_4_30]; go_simp; try with_reducible rfl)
          simp only [Act.put, pA, pB, pC]
          refine tK (i := 31) (oi := zo196_4_31) (v := ?_) rfl (by kernel_rfl) (fun _ _ _ h => h) (Or.inl ⟨rfl, ?_⟩) hS ?_
          rotate_left
          · (intro w' hS'; (try dsimp only at hS'); dsimp only [zo196_4_31]; go_simp; try with_reducible rfl)
          simp only [Act.put, pA, pB, pC]
          refine tK (i := 32) (oi := zo196_4_32) (v := ?_) rfl (by kernel_rfl) (fun _ _ _ h => h) (Or.inl ⟨rfl, ?_⟩) hS ?_
          rotate_left
          · (intro w' hS'; (try dsimp only at hS'); dsimp only [zo196_4_32]; go_simp; try with_reducible rfl)
          simp only [Act.put, pA, pB, pC]
          refine wpAnyH_done (by kernel_rfl) ?_ _
          go_wp2_with fail
          go_ret
          exact ⟨ret_boolI HF.out.symm, al⟩
        · have HK : Hid (ptsOk xs (k + 1) = true) := by
           show _ = _
           rw [ptsOk, hok.out, ptOk_step hlt HP.out (.inr ⟨j, hj, fun _ => by omega⟩)]; rfl
          have gt : (xs[k].t ≤ xs[j].t) = False := eq_false ht
          have HJ := Lib.hid hj
          clear hj ht hz
          go_wp2_with fail
          have hS : (fun w' => w'.cell? ⟨g, f, none⟩ = some (.slice (some ⟨b, off, none⟩) xs.length c) ∧ w'.cell? ⟨b, off + k * 3, none⟩ = some (.int .i64 xs[k].x) ∧ w'.cell? ⟨b, off + k * 3 + 1, none⟩ = some (.int .i64 xs[k].y) ∧ w'.cell? ⟨b, off + k * 3 + 2, none⟩ = some (.int .i64 xs[k].t) ∧ w'.cell? ⟨b, off + j * 3 + 2, none⟩ = some (.int .i64 xs[j].t)) wr.drew := ⟨hg, h0, h1, h2, h3⟩
          dsimp only at hS
          refine wp_region_held_drew (S := (fun w' => w'.cell? ⟨g, f, none⟩ = some (.slice (some ⟨b, off, none⟩) xs.length c) ∧ w'.cell? ⟨b, off + k * 3, none⟩ = some (.int .i64 xs[k].x) ∧ w'.cell? ⟨b, off + k * 3 + 1, none⟩ = some (.int .i64 xs[k].y) ∧ w'.cell? ⟨b, off + k * 3 + 2, none⟩ = some (.int .i64 xs[k].t) ∧ w'.cell? ⟨b, off + j * 3 + 2, none⟩ = some (.int .i64 xs[j].t))) (by kernel_rfl) hS (fun _ => ?_)
          refine tK (i := 0) (oi := zo196_4_0) (v := ?_) rfl (by kernel_rfl) (fun _ _ _ h => h) (Or.inl ⟨rfl, ?_⟩) hS ?_
          rotate_left
          · (intro w' hS'; (try dsimp only at hS'); dsimp only [zo196_4_0]; go_simp; try with_reducible rfl)
          simp only [Act.put, pA, pB, pC]
          refine tK (i := 1) (oi := zo196_4_1) (v := ?_) rfl (by kernel_rfl) (fun _ _ _ h => h) (Or.inl ⟨rfl, ?_⟩) hS ?_
          rotate_left
          · (intro w' hS'; (try dsimp only at hS'); dsimp only [zo196_4_1]; go_simp; try with_reducible rfl)
          simp only [Act.put, pA, pB, pC]
          refine tK (i := 2) (oi := zo196_4_2) (v := ?_) rfl (by kernel_rfl) (fun _ _ _ h => h) (Or.inl ⟨rfl, ?_⟩) hS ?_
          rotate_left
          · (intro w' hS'; (try dsimp only at hS'); dsimp only [zo196_4_2]; go_simp; try with_reducible rfl)
          simp only [Act.put, pA, pB, pC]
          refine tK (i := 3) (oi := zo196_4_3) (v := ?_) rfl (by kernel_rfl) (fun _ _ _ h => h) (Or.inl ⟨rfl, ?_⟩) hS ?_
          rotate_left
          · (intro w' hS'; (try dsimp only at hS'); dsimp only [zo196_4_3]; go_simp; try with_reducible rfl)
          simp only [Act.put, pA, pB, pC]
          refine tK (i := 4) (oi := zo196_4_4) (v := ?_) rfl (by kernel_rfl) (fun _ _ _ h => h) (Or.inl ⟨rfl, ?_⟩) hS ?_
          rotate_left
          · (intro w' hS'; (try dsimp only at hS'); dsimp only [zo196_4_4]; go_simp; try with_reducible rfl)
          simp only [Act.put, pA, pB, pC]
          refine tK (i := 5) (oi := zo196_4_5) (v := ?_) rfl (by kernel_rfl) (fun _ _ _ h => h) (Or.inl ⟨rfl, ?_⟩) hS ?_
          rotate_left
          · (intro w' hS'; (try dsimp only at hS'); dsimp only [zo196_4_5]; go_simp; try with_reducible rfl)
          simp only [Act.put, pA, pB, pC]
          refine tK (i := 6) (oi := zo196_4_6) (v := ?_) rfl (by kernel_rfl) (fun _ _ _ h => h) (Or.inl ⟨rfl, ?_⟩) hS ?_
          rotate_left
          · (intro w' hS'; (try dsimp only at hS'); dsimp only [zo196_4_6]; go_simp; try with_reducible rfl)
          simp only [Act.put, pA, pB, pC]
          refine wpAnyH_ready (rs := [7]) (by kernel_rfl) (by simp) ?_
          refine AllReadyH.cons (o := zo196_4_7) rfl (fun K hK => ?_) .nil
          refine step_call 223 #[.tmp 19] _ rfl rfl #[.agg #[.int .i64 xs[k].x, .int .i64 xs[k].y, .int .i64 xs[k].t]] Tryz.call223 (by go_simp) (HC.out _) ?_
          rintro e w1 ⟨rfl, rfl⟩
          refine ⟨_, rfl, ?_⟩
          replace hS : (fun w' => w'.cell? ⟨g, f, none⟩ = some (.slice (some ⟨b, off, none⟩) xs.length c) ∧ w'.cell? ⟨b, off + k * 3, none⟩ = some (.int .i64 xs[k].x) ∧ w'.cell? ⟨b, off + k * 3 + 1, none⟩ = some (.int .i64 xs[k].y) ∧ w'.cell? ⟨b, off + k * 3 + 2, none⟩ = some (.int .i64 xs[k].t) ∧ w'.cell? ⟨b, off + j * 3 + 2, none⟩ = some (.int .i64 xs[j].t)) (wr.drew.alloc (.cells #[.int .i64 xs[k].x, .int .i64 xs[k].y, .int .i64 xs[k].t] 155)) := ⟨kp _ _ _ hgl hg, kp _ _ _ hbb' h0, kp _ _ _ hbb' h1, kp _ _ _ hbb' h2, kp _ _ _ hbb' h3⟩
          dsimp only at hS
          refine hK.out _ _ ?_ (fun hHeld => ?_)
          · exact hS
          clear hK K hHeld
          simp only [Act.put, pA, pB, pC]
          refine tK (i := 8) (oi := zo196_4_8) (v := ?_) rfl (by kernel_rfl) (fun _ _ _ h => h) (Or.inl ⟨rfl, ?_⟩) hS ?_
          rotate_left
          · (intro w' hS'; (try dsimp only at hS'); dsimp only [zo196_4_8]; go_simp; try with_reducible rfl)
          simp only [Act.put, pA, pB, pC]
          refine tK (i := 9) (oi := zo196_4_9) (v := ?_) rfl (by kernel_rfl) (fun _ _ _ h => h) (Or.inl ⟨rfl, ?_⟩) hS ?_
          rotate_left
          · (intro w' hS'; (try dsimp only at hS'); dsimp only [zo196_4_9]; go_simp; try with_reducible rfl)
          simp only [Act.put, pA, pB, pC]
          refine tK (i := 10) (oi := zo196_4_10) (v := ?_) rfl (by kernel_rfl) (fun _ _ _ h => h) (Or.inl ⟨rfl, ?_⟩) hS ?_
          rotate_left
          · (intro w' hS'; (try dsimp only at hS'); dsimp only [zo196_4_10]; go_simp; try with_reducible rfl)
          simp only [Act.put, pA, pB, pC]
          refine tK (i := 11) (oi := zo196_4_11) (v := ?_) rfl (by kernel_rfl) (fun _ _ _ h => h) (Or.inl ⟨rfl, ?_⟩) hS ?_
          rotate_left
          · (intro w' hS'; (try dsimp only at hS'); dsimp only [zo196_4_11]; go_simp; try with_reducible rfl)
          simp only [Act.put, pA, pB, pC]
          refine tK (i := 12) (oi := zo196_4_12) (v := ?_) rfl (by kernel_rfl) (fun _ _ _ h => h) (Or.inl ⟨rfl, ?_⟩) hS ?_
          rotate_left
          · (intro w' hS'; (try dsimp only at hS'); dsimp only [zo196_4_12]; go_simp; try with_reducible rfl)
          simp only [Act.put, pA, pB, pC]
          refine tK (i := 13) (oi := zo196_4_13) (v := ?_) rfl (by kernel_rfl) (fun _ _ _ h => h) (Or.inl ⟨rfl, ?_⟩) hS ?_
          rotate_left
          · (intro w' hS'; (try dsimp only at hS'); dsimp only [zo196_4_13]; go_simp; try with_reducible rfl)
          simp only [Act.put, pA, pB, pC]
          refine tK (i := 14) (oi := zo196_4_14) (v := ?_) rfl (by kernel_rfl) (fun _ _ _ h => h) (Or.inl ⟨rfl, ?_⟩) hS ?_
          rotate_left
          · (intro w' hS'; (try dsimp only at hS'); dsimp only [zo196_4_14]; go_simp; try with_reducible rfl)
          simp only [Act.put, pA, pB, pC]
          refine tK (i := 15) (oi := zo196_4_15) (v := ?_) rfl (by kernel_rfl) (fun _ _ _ h => h) (Or.inl ⟨rfl, ?_⟩) hS ?_
          rotate_left
          · (intro w' hS'; (try dsimp only at hS'); dsimp only [zo196_4_15]; go_simp; try with_reducible rfl)
          simp only [Act.put, pA, pB, pC]
          refine tK (i := 16) (oi := zo196_4_16) (v := ?_) rfl (by kernel_rfl) (fun _ _ _ h => h) (Or.inl ⟨rfl, ?_⟩) hS ?_
          rotate_left
          · (intro w' hS'; (try dsimp only at hS'); dsimp only [zo196_4_16]; go_simp; try with_reducible rfl)
          simp only [Act.put, pA, pB, pC]
          refine tK (i := 17) (oi := zo196_4_17) (v := ?_) rfl (by kernel_rfl) (fun _ _ _ h => h) (Or.inl ⟨rfl, ?_⟩) hS ?_
          rotate_left
          · (intro w' hS'; (try dsimp only at hS'); dsimp only [zo196_4_17]; go_simp; try with_reducible rfl)
          simp only [Act.put, pA, pB, pC]
          refine tK (i := 18) (oi := zo196_4_18) (v := ?_) rfl (by kernel_rfl) (fun _ _ _ h => h) (Or.inl ⟨rfl, ?_⟩) hS ?_
          rotate_left
          · (intro w' hS'; (try dsimp only at hS'); dsimp only [zo196_4_18]; go_simp; try with_reducible rfl)
          simp only [Act.put, pA, pB, pC]
          refine tK (i := 19) (oi := zo196_4_19) (v := ?_) rfl (by kernel_rfl) (fun _ _ _ h => h) (Or.inl ⟨rfl, ?_⟩) hS ?_
          rotate_left
          · (intro w' hS'; (try dsimp only at hS'); dsimp only [zo196_4_19]; go_simp; try with_reducible rfl)
          simp only [Act.put, pA, pB, pC]
          refine tK (i := 20) (oi := zo196_4_20) (v := ?_) rfl (by kernel_rfl) (fun _ _ _ h => h) (Or.inl ⟨rfl, ?_⟩) hS ?_
          rotate_left
          · (intro w' hS'; (try dsimp only at hS'); dsimp only [zo196_4_20]; go_simp; try with_reducible rfl)
          simp only [Act.put, pA, pB, pC]
          refine tK (i := 21) (oi := zo196_4_21) (v := ?_) rfl (by kernel_rfl) (fun _ _ _ h => h) (Or.inl ⟨rfl, ?_⟩) hS ?_
          rotate_left
          · (intro w' hS'; (try dsimp only at hS'); dsimp only [zo196_4_21]; go_simp; try with_reducible rfl)
          simp only [Act.put, pA, pB, pC]
          refine tK (i := 22) (oi := zo196_4_22) (v := ?_) rfl (by kernel_rfl) (fun _ _ _ h => h) (Or.inl ⟨rfl, ?_⟩) hS ?_
          rotate_left
          · (intro w' hS'; (try dsimp only at hS'); dsimp only [zo196_4_22]; go_simp; try with_reducible rfl)
          simp only [Act.put, pA, pB, pC]
          refine tK (i := 23) (oi := zo196_4_23) (v := ?_) rfl (by kernel_rfl) (fun _ _ _ h => h) (Or.inl ⟨rfl, ?_⟩) hS ?_
          rotate_left
          · (intro w' hS'; (try dsimp only at hS'); dsimp only [zo196_4_23]; go_simp; try with_reducible rfl)
          simp only [Act.put, pA, pB, pC]
          refine tK (i := 24) (oi := zo196_4_24) (v := ?_) rfl (by kernel_rfl) (fun _ _ _ h => h) (Or.inl ⟨rfl, ?_⟩) hS ?_
          rotate_left
          · (intro w' hS'; (try dsimp only at hS'); dsimp only [zo196_4_24]; go_simp; try with_reducible rfl)
          simp only [Act.put, pA, pB, pC]
          refine tK (i := 25) (oi := zo196_4_25) (v := ?_) rfl (by kernel_rfl) (fun _ _ _ h => h) (Or.inl ⟨rfl, ?_⟩) hS ?_
          rotate_left
          · (intro w' hS'; (try dsimp only at hS'); dsimp only [zo196_4_25]; go_simp; try with_reducible rfl)
          simp only [Act.put, pA, pB, pC]
          refine tK (i := 26) (oi := zo196_4_26) (v := ?_) rfl (by kernel_rfl) (fun _ _ _ h => h) (Or.inl ⟨rfl, ?_⟩) hS ?_
          rotate_left
          · (intro w' hS'; (try dsimp only at hS'); dsimp only [zo196_4_26]; go_simp; try with_reducible rfl)
          simp only [Act.put, pA, pB, pC]
          refine tK (i := 27) (oi := zo196_4_27) (v := ?_) rfl (by kernel_rfl) (fun _ _ _ h => h) (Or.inl ⟨rfl, ?_⟩) hS ?_
          rotate_left
          · (intro w' hS'; (try dsimp only at hS'); dsimp only [zo196_4_27]; go_simp; try with_reducible rfl)
          simp only [Act.put, pA, pB, pC]
          refine tK (i := 28) (oi := zo196_4_28) (v := ?_) rfl (by kernel_rfl) (fun _ _ _ h => h) (Or.inl ⟨rfl, ?_⟩) hS ?_
          rotate_left
          · (intro w' hS'; (try dsimp only at hS'); dsimp only [zo196_4_28]; go_simp; try with_reducible rfl)
          simp only [Act.put, pA, pB, pC]
          refine tK (i := 29) (oi := zo196_4_29) (v := ?_) rfl (by kernel_rfl) (fun _ _ _ h => h) (Or.inl ⟨rfl, ?_⟩) hS ?_
          rotate_left
          · (intro w' hS'; (try dsimp only at hS'); dsimp only [zo196_4_29]; go_simp; try with_reducible rfl)
          simp only [Act.put, pA, pB, pC]
          refine tK (i := 30) (oi := zo196_4_30) (v := ?_) rfl (by kernel_rfl) (fun _ _ _ h => h) (Or.inl ⟨rfl, ?_⟩) hS ?_
          rotate_left
          · (intro w' hS'; (try dsimp only at hS'); dsimp only [zo196_4_30]; go_simp; try with_reducible rfl)
          simp only [Act.put, pA, pB, pC]
          refine tK (i := 31) (oi := zo196_4_31) (v := ?_) rfl (by kernel_rfl) (fun _ _ _ h => h) (Or.inl ⟨rfl, ?_⟩) hS ?_
          rotate_left
          · (intro w' hS'; (try dsimp only at hS'); dsimp only [zo196_4_31]; go_simp; try with_reducible rfl)
          simp only [Act.put, pA, pB, pC]
          refine tK (i := 32) (oi := zo196_4_32) (v := ?_) rfl (by kernel_rfl) (fun _ _ _ h => h) (Or.inl ⟨rfl, ?_⟩) hS ?_
          rotate_left
          · (intro w' hS'; (try dsimp only at hS'); dsimp only [zo196_4_32]; go_simp; try with_reducible rfl)
          simp only [Act.put, pA, pB, pC]
          refine wpAnyH_done (by kernel_rfl) ?_ _
          go_wp2_with fail
          go_roundw
          case rel => exact ⟨k + 1, by omega, by go_num, HK, al⟩
          case measure => simp [intOf]; omega
  · obtain rfl : k = xs.length := by omega
    clear hr
    have HV : Hid (inR (xs.length : Int) 1 60 = strokeB xs) := by
     show _ = _
     rw [strokeB, hok.out, inR, Bool.true_and]
     congr 1 <;> rw [decide_eq_decide] <;> omega
    have C := spec_inR_c (xs.length : Int) 1 60
    generalize inR (xs.length : Int) 1 60 = bb at C HV
    have HC := Lib.hid C
    clear C
    go_wp2_with fail
    refine (HC.out _).mono ?_
    rintro e w1 ⟨rfl, rfl⟩
    go_wp2_with fail
    go_ret
    exact ⟨ret_boolI HV.out, hb⟩
set_option maxRecDepth 100000 in
set_option maxHeartbeats 1000000 in
theorem spec_l02Last_c {o : Bool} {e : TypeId} {xs : PStroke} {v : Value} {F : List Nat} {g f : Nat} (w : World) (hg : w.cell? ⟨g, f, none⟩ = some v) (h : (pPoints e).rep o w xs [v] F) (h0 : 0 < xs.length) (hx : xs.length ≤ 1048576) :
 Calls Tryz.prog 197 #[.pointer (some ⟨g, f, none⟩)] w fun e w' => e = .returned (.int .i64 (lastT xs)) ∧ ∃ n, w' = w.drewN n := by
 obtain ⟨A, c, rfl, hc1, hc2, hr⟩ := pPoints_open h
 clear h
 obtain ⟨j, hj⟩ : ∃ j, xs.length = j + 1 := ⟨xs.length - 1, by omega⟩
 have jl : j < xs.length := by omega
 obtain ⟨b, off, rfl, hbb, _, c0, c1, c2, _⟩ := hr j jl
 have hl : lastT xs = xs[j].t := by
  unfold lastT
  rw [show xs.length - 1 = j by omega, pt_get jl]
 rw [hl]
 clear hr hl
 have gj : IntKind.i64.wrap ((xs.length : Int) - 1) = (j : Int) := (IntWalk.i64_in _ (by omega)).trans (by omega)
 have j0 : (0 : Int) ≤ (j : Int) := by omega
 have jl' : (j : Int) < (xs.length : Int) := by omega
 have HJ := Lib.hid hj
 clear hj
 go_enter Tryz.func197, Tryz.ntmps197
 go_wp2_with fail
 go_quiet (fail)
 go_wp2_with fail
 go_ret
 exact ⟨rfl, _, rfl⟩
end Go.Proofs.YtkfadfddhbpngaaGreat
