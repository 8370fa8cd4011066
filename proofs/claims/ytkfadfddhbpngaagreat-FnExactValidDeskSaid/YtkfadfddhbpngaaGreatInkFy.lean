/- Ink: the reference's test of ink. Conditions: none. -/
import Derived.Test.YtkfadfddhbpngaaGreatTky
import Derived.Test.YtkfadfddhbpngaaGreatInkEy
namespace Go.Proofs.YtkfadfddhbpngaaGreat
open Go Go.RowKit
abbrev zo194_4_0 : Oper := { dst := some 13, op := .move (.tmp 0), type := 143, pos := "l02_strokes.go:25", after := #[], guard := none }
abbrev zo194_4_1 : Oper := { dst := some 14, op := .nilCheck (.tmp 13), type := 0, pos := "l02_strokes.go:25", after := #[{ on := 0, ground := .data }], guard := none }
abbrev zo194_4_2 : Oper := { dst := some 15, op := .fieldAddr 64 (.tmp 14) 0, type := 0, pos := "l02_strokes.go:25", after := #[{ on := 1, ground := .data }], guard := none }
abbrev zo194_4_3 : Oper := { dst := some 16, op := .load 62 (.tmp 15), type := 62, pos := "l02_strokes.go:25", after := #[{ on := 2, ground := .data }], guard := none }
abbrev zo194_4_4 : Oper := { dst := some 17, op := .move (.tmp 3), type := 3, pos := "l02_strokes.go:25", after := #[], guard := none }
abbrev zo194_4_5 : Oper := { dst := some 18, op := .indexAddr 62 (.tmp 16) (.tmp 17), type := 0, pos := "l02_strokes.go:25", after := #[{ on := 3, ground := .data }, { on := 4, ground := .data }], guard := none }
abbrev zo194_4_6 : Oper := { dst := some 19, op := .call { callee := .value (.func 196), args := #[.tmp 18], argTypes := #[145] }, type := 4, pos := "l02_strokes.go:25", after := #[{ on := 5, ground := .data }], guard := none }
abbrev zo194_4_7 : Oper := { dst := some 20, op := .unOp .not 4 (.tmp 19), type := 4, pos := "l02_strokes.go:25", after := #[{ on := 6, ground := .data }], guard := none }
abbrev zo194_4_8 : Oper := { dst := some 21, op := .move (.tmp 20), type := 4, pos := "l02_strokes.go:25", after := #[{ on := 7, ground := .data }, { on := 6, ground := .chain }], guard := none }
abbrev zo194_4_9 : Oper := { dst := some 22, op := .move (.tmp 3), type := 3, pos := "l02_strokes.go:25", after := #[{ on := 8, ground := .guard }], guard := some (8, false) }
abbrev zo194_4_10 : Oper := { dst := some 23, op := .binOp .gtr 3 (.tmp 22) (.const (.int .i64 0)) 3, type := 4, pos := "l02_strokes.go:25", after := #[{ on := 9, ground := .data }, { on := 8, ground := .guard }], guard := some (8, false) }
abbrev zo194_4_11 : Oper := { dst := some 24, op := .move (.tmp 23), type := 4, pos := "l02_strokes.go:25", after := #[{ on := 10, ground := .data }, { on := 8, ground := .chain }, { on := 8, ground := .guard }], guard := some (8, false) }
abbrev zo194_4_12 : Oper := { dst := some 25, op := .move (.tmp 0), type := 143, pos := "l02_strokes.go:25", after := #[{ on := 11, ground := .guard }], guard := some (11, true) }
abbrev zo194_4_13 : Oper := { dst := some 26, op := .nilCheck (.tmp 25), type := 0, pos := "l02_strokes.go:25", after := #[{ on := 12, ground := .data }, { on := 11, ground := .guard }], guard := some (11, true) }
abbrev zo194_4_14 : Oper := { dst := some 27, op := .fieldAddr 64 (.tmp 26) 0, type := 0, pos := "l02_strokes.go:25", after := #[{ on := 13, ground := .data }, { on := 11, ground := .guard }], guard := some (11, true) }
abbrev zo194_4_15 : Oper := { dst := some 28, op := .load 62 (.tmp 27), type := 62, pos := "l02_strokes.go:25", after := #[{ on := 14, ground := .data }, { on := 11, ground := .guard }], guard := some (11, true) }
abbrev zo194_4_16 : Oper := { dst := some 29, op := .move (.tmp 3), type := 3, pos := "l02_strokes.go:25", after := #[{ on := 11, ground := .guard }], guard := some (11, true) }
abbrev zo194_4_17 : Oper := { dst := some 30, op := .indexAddr 62 (.tmp 28) (.tmp 29), type := 0, pos := "l02_strokes.go:25", after := #[{ on := 15, ground := .data }, { on := 16, ground := .data }, { on := 11, ground := .guard }], guard := some (11, true) }
abbrev zo194_4_18 : Oper := { dst := some 31, op := .fieldAddr 141 (.tmp 30) 0, type := 0, pos := "l02_strokes.go:25", after := #[{ on := 17, ground := .data }, { on := 11, ground := .guard }], guard := some (11, true) }
abbrev zo194_4_19 : Oper := { dst := some 32, op := .load 65 (.tmp 31), type := 65, pos := "l02_strokes.go:25", after := #[{ on := 18, ground := .data }, { on := 11, ground := .guard }], guard := some (11, true) }
abbrev zo194_4_20 : Oper := { dst := some 33, op := .indexAddr 65 (.tmp 32) (.const (.int .i64 0)), type := 0, pos := "l02_strokes.go:25", after := #[{ on := 19, ground := .data }, { on := 11, ground := .guard }], guard := some (11, true) }
abbrev zo194_4_21 : Oper := { dst := some 34, op := .fieldAddr 155 (.tmp 33) 2, type := 0, pos := "l02_strokes.go:25", after := #[{ on := 20, ground := .data }, { on := 11, ground := .guard }], guard := some (11, true) }
abbrev zo194_4_22 : Oper := { dst := some 35, op := .load 2 (.tmp 34), type := 2, pos := "l02_strokes.go:25", after := #[{ on := 21, ground := .data }, { on := 11, ground := .guard }], guard := some (11, true) }
abbrev zo194_4_23 : Oper := { dst := some 36, op := .move (.tmp 0), type := 143, pos := "l02_strokes.go:25", after := #[{ on := 11, ground := .guard }], guard := some (11, true) }
abbrev zo194_4_24 : Oper := { dst := some 37, op := .nilCheck (.tmp 36), type := 0, pos := "l02_strokes.go:25", after := #[{ on := 23, ground := .data }, { on := 11, ground := .guard }], guard := some (11, true) }
abbrev zo194_4_25 : Oper := { dst := some 38, op := .fieldAddr 64 (.tmp 37) 0, type := 0, pos := "l02_strokes.go:25", after := #[{ on := 24, ground := .data }, { on := 11, ground := .guard }], guard := some (11, true) }
abbrev zo194_4_26 : Oper := { dst := some 39, op := .load 62 (.tmp 38), type := 62, pos := "l02_strokes.go:25", after := #[{ on := 25, ground := .data }, { on := 11, ground := .guard }], guard := some (11, true) }
abbrev zo194_4_27 : Oper := { dst := some 40, op := .move (.tmp 3), type := 3, pos := "l02_strokes.go:25", after := #[{ on := 11, ground := .guard }], guard := some (11, true) }
abbrev zo194_4_28 : Oper := { dst := some 41, op := .binOp .sub 3 (.tmp 40) (.const (.int .i64 1)) 3, type := 3, pos := "l02_strokes.go:25", after := #[{ on := 27, ground := .data }, { on := 11, ground := .guard }], guard := some (11, true) }
abbrev zo194_4_29 : Oper := { dst := some 42, op := .indexAddr 62 (.tmp 39) (.tmp 41), type := 0, pos := "l02_strokes.go:25", after := #[{ on := 26, ground := .data }, { on := 28, ground := .data }, { on := 11, ground := .guard }], guard := some (11, true) }
abbrev zo194_4_30 : Oper := { dst := some 43, op := .call { callee := .value (.func 197), args := #[.tmp 42], argTypes := #[145] }, type := 2, pos := "l02_strokes.go:25", after := #[{ on := 29, ground := .data }, { on := 11, ground := .chain }, { on := 11, ground := .guard }], guard := some (11, true) }
abbrev zo194_4_31 : Oper := { dst := some 44, op := .binOp .leq 2 (.tmp 35) (.tmp 43) 2, type := 4, pos := "l02_strokes.go:25", after := #[{ on := 22, ground := .data }, { on := 30, ground := .data }, { on := 11, ground := .guard }], guard := some (11, true) }
abbrev zo194_4_32 : Oper := { dst := some 45, op := .pick (.tmp 24) (.tmp 44) (.const (.bool false)), type := 4, pos := "l02_strokes.go:25", after := #[{ on := 11, ground := .data }, { on := 31, ground := .data }, { on := 8, ground := .guard }], guard := some (8, false) }
abbrev zo194_4_33 : Oper := { dst := some 46, op := .pick (.tmp 21) (.const (.bool true)) (.tmp 45), type := 4, pos := "l02_strokes.go:25", after := #[{ on := 8, ground := .data }, { on := 32, ground := .data }], guard := none }

set_option maxRecDepth 100000 in
set_option maxHeartbeats 1000000 in
theorem spec_l02Ok_c {o : Bool} {pe e : TypeId} {xs : List PStroke} {v : Value} {F : List Nat} {g f : Nat} (w : World) (hg : w.cell? ⟨g, f, none⟩ = some v) (hgl : g < w.heap.size) (h : (pStrokes pe e).rep o w xs [v] F) (hx : xs.length ≤ 1048576) (hxe : ∀ l ∈ xs, l.length ≤ 1048576) :
 Calls Tryz.prog 194 #[.pointer (some ⟨g, f, none⟩)] w fun e w' => e = .returned (.bool (inkB xs)) ∧ Below w.heap.size w w' := by
 obtain ⟨A, c, rfl, hc1, hc2, hr⟩ := pStrokes_open h
 clear h
 go_enter Tryz.func194, Tryz.ntmps194
 go_wp2_with fail
 go_loopw [3] (fun i wr => ∃ k : Nat, k ≤ xs.length ∧ i = .int .i64 k ∧ Hid (stsOk xs k = true) ∧ Below w.heap.size w wr) (fun i _ => xs.length - (intOf i).toNat)
 case atStart => exact ⟨0, Nat.zero_le _, rfl, rfl, Below.refl _ _⟩
 case round =>
  obtain ⟨k, hk, rfl, hok, hb⟩ := hrel
  have hbs := hb.size
  rw [← hb.cell (p := ⟨g, _, none⟩) hgl] at hg
  replace hgl : g < wr.heap.size := by omega
  by_cases hlt : k < xs.length
  · obtain ⟨b, off, u, Fk, rfl, hbb, _, hrk, _, h0⟩ := hr k hlt
    rw [← hb.cell (p := ⟨b, _, none⟩) hbb] at h0
    have hbb' : b < wr.heap.size := by omega
    have hle := hxe _ (List.getElem_mem hlt)
    have QK := (hrk.below hb).drew
    have HC := Lib.hid (spec_l02Stroke_c wr.drew h0 hbb' QK hle)
    have k0 : (0 : Int) ≤ (k : Int) := by omega
    have kl' : (k : Int) < (xs.length : Int) := by omega
    cases hp : strokeB xs[k]
    · have HF := Lib.hid (inkB_false hlt (stOk_bad hlt hp))
      simp only [hp] at HC
      obtain ⟨AK, ck, rfl⟩ := slice_len hrk
      clear hr hp hrk QK
      go_wp2_with fail
      have hS : (fun w' => w'.cell? ⟨g, f, none⟩ = some (.slice (some ⟨b, off, none⟩) xs.length c) ∧ w'.cell? ⟨b, off + k, none⟩ = some (.slice AK xs[k].length ck)) wr.drew := ⟨hg, h0⟩
      dsimp only at hS
      refine wp_region_held_drew (S := (fun w' => w'.cell? ⟨g, f, none⟩ = some (.slice (some ⟨b, off, none⟩) xs.length c) ∧ w'.cell? ⟨b, off + k, none⟩ = some (.slice AK xs[k].length ck))) (by kernel_rfl) hS (fun _ => ?_)
      refine tK (i := 0) (oi := zo194_4_0) (v := ?_) rfl (by kernel_rfl) (fun _ _ _ h => h) (Or.inl ⟨rfl, ?_⟩) hS ?_
      rotate_left
      · (intro w' hS'; (try dsimp only at hS'); dsimp only [zo194_4_0]; go_simp; try with_reducible rfl)
      simp only [Act.put, pA, pB, pC]
      refine tK (i := 1) (oi := zo194_4_1) (v := ?_) rfl (by kernel_rfl) (fun _ _ _ h => h) (Or.inl ⟨rfl, ?_⟩) hS ?_
      rotate_left
      · (intro w' hS'; (try dsimp only at hS'); dsimp only [zo194_4_1]; go_simp; try with_reducible rfl)
      simp only [Act.put, pA, pB, pC]
      refine tK (i := 2) (oi := zo194_4_2) (v := ?_) rfl (by kernel_rfl) (fun _ _ _ h => h) (Or.inl ⟨rfl, ?_⟩) hS ?_
      rotate_left
      · (intro w' hS'; (try dsimp only at hS'); dsimp only [zo194_4_2]; go_simp; try with_reducible rfl)
      simp only [Act.put, pA, pB, pC]
      refine tK (i := 3) (oi := zo194_4_3) (v := ?_) rfl (by kernel_rfl) (fun _ _ _ h => h) (Or.inl ⟨rfl, ?_⟩) hS ?_
      rotate_left
      · (intro w' hS'; (try dsimp only at hS'); dsimp only [zo194_4_3]; go_simp; try with_reducible rfl)
      simp only [Act.put, pA, pB, pC]
      refine tK (i := 4) (oi := zo194_4_4) (v := ?_) rfl (by kernel_rfl) (fun _ _ _ h => h) (Or.inl ⟨rfl, ?_⟩) hS ?_
      rotate_left
      · (intro w' hS'; (try dsimp only at hS'); dsimp only [zo194_4_4]; go_simp; try with_reducible rfl)
      simp only [Act.put, pA, pB, pC]
      refine tK (i := 5) (oi := zo194_4_5) (v := ?_) rfl (by kernel_rfl) (fun _ _ _ h => h) (Or.inl ⟨rfl, ?_⟩) hS ?_
      rotate_left
      · (intro w' hS'; (try dsimp only at hS'); dsimp only [zo194_4_5]; go_simp; try with_reducible rfl)
      simp only [Act.put, pA, pB, pC]
      refine wpAnyH_ready (rs := [6]) (by kernel_rfl) (by simp) ?_
      refine AllReadyH.cons (o := zo194_4_6) rfl (fun K hK => ?_) .nil
      refine step_call 196 #[.tmp 18] _ rfl rfl #[.pointer (some ⟨b, off + k, none⟩)] Tryz.call196 (by go_simp) HC.out ?_
      rintro e w1 ⟨rfl, bb1⟩
      refine ⟨_, rfl, ?_⟩
      replace hS : (fun w' => w'.cell? ⟨g, f, none⟩ = some (.slice (some ⟨b, off, none⟩) xs.length c) ∧ w'.cell? ⟨b, off + k, none⟩ = some (.slice AK xs[k].length ck)) w1 := ⟨keep_b (w2 := wr.drew) bb1 hgl hg, keep_b (w2 := wr.drew) bb1 hbb' h0⟩
      dsimp only at hS
      refine hK.out _ _ ?_ (fun hHeld => ?_)
      · exact hS
      clear hK K hHeld
      simp only [Act.put, pA, pB, pC]
      refine tK (i := 7) (oi := zo194_4_7) (v := ?_) rfl (by kernel_rfl) (fun _ _ _ h => h) (Or.inl ⟨rfl, ?_⟩) hS ?_
      rotate_left
      · (intro w' hS'; (try dsimp only at hS'); dsimp only [zo194_4_7]; go_simp; try with_reducible rfl)
      simp only [Act.put, pA, pB, pC]
      refine tK (i := 8) (oi := zo194_4_8) (v := ?_) rfl (by kernel_rfl) (fun _ _ _ h => h) (Or.inl ⟨rfl, ?_⟩) hS ?_
      rotate_left
      · (intro w' hS'; (try dsimp only at hS'); dsimp only [zo194_4_8]; go_simp; try with_reducible rfl)
      simp only [Act.put, pA, pB, pC]
      refine tK (i := 9) (oi := zo194_4_9) rfl (by kernel_rfl) (fun _ _ _ h => h) (Or.inr ⟨rfl, rfl⟩) hS ?_
      simp only [Act.put, pA, pB, pC]
      refine tK (i := 10) (oi := zo194_4_10) rfl (by kernel_rfl) (fun _ _ _ h => h) (Or.inr ⟨rfl, rfl⟩) hS ?_
      simp only [Act.put, pA, pB, pC]
      refine tK (i := 11) (oi := zo194_4_11) rfl (by kernel_rfl) (fun _ _ _ h => h) (Or.inr ⟨rfl, rfl⟩) hS ?_
      simp only [Act.put, pA, pB, pC]
      refine tK (i := 12) (oi := zo194_4_12) rfl (by kernel_rfl) (fun _ _ _ h => h) (Or.inr ⟨rfl, rfl⟩) hS ?_
      simp only [Act.put, pA, pB, pC]
      refine tK (i := 13) (oi := zo194_4_13) rfl (by kernel_rfl) (fun _ _ _ h => h) (Or.inr ⟨rfl, rfl⟩) hS ?_
      simp only [Act.put, pA, pB, pC]
      refine tK (i := 14) (oi := zo194_4_14) rfl (by kernel_rfl) (fun _ _ _ h => h) (Or.inr ⟨rfl, rfl⟩) hS ?_
      simp only [Act.put, pA, pB, pC]
      refine tK (i := 15) (oi := zo194_4_15) rfl (by kernel_rfl) (fun _ _ _ h => h) (Or.inr ⟨rfl, rfl⟩) hS ?_
      simp only [Act.put, pA, pB, pC]
      refine tK (i := 16) (oi := zo194_4_16) rfl (by kernel_rfl) (fun _ _ _ h => h) (Or.inr ⟨rfl, rfl⟩) hS ?_
      simp only [Act.put, pA, pB, pC]
      refine tK (i := 17) (oi := zo194_4_17) rfl (by kernel_rfl) (fun _ _ _ h => h) (Or.inr ⟨rfl, rfl⟩) hS ?_
      simp only [Act.put, pA, pB, pC]
      refine tK (i := 18) (oi := zo194_4_18) rfl (by kernel_rfl) (fun _ _ _ h => h) (Or.inr ⟨rfl, rfl⟩) hS ?_
      simp only [Act.put, pA, pB, pC]
      refine tK (i := 19) (oi := zo194_4_19) rfl (by kernel_rfl) (fun _ _ _ h => h) (Or.inr ⟨rfl, rfl⟩) hS ?_
      simp only [Act.put, pA, pB, pC]
      refine tK (i := 20) (oi := zo194_4_20) rfl (by kernel_rfl) (fun _ _ _ h => h) (Or.inr ⟨rfl, rfl⟩) hS ?_
      simp only [Act.put, pA, pB, pC]
      refine tK (i := 21) (oi := zo194_4_21) rfl (by kernel_rfl) (fun _ _ _ h => h) (Or.inr ⟨rfl, rfl⟩) hS ?_
      simp only [Act.put, pA, pB, pC]
      refine tK (i := 22) (oi := zo194_4_22) rfl (by kernel_rfl) (fun _ _ _ h => h) (Or.inr ⟨rfl, rfl⟩) hS ?_
      simp only [Act.put, pA, pB, pC]
      refine tK (i := 23) (oi := zo194_4_23) rfl (by kernel_rfl) (fun _ _ _ h => h) (Or.inr ⟨rfl, rfl⟩) hS ?_
      simp only [Act.put, pA, pB, pC]
      refine tK (i := 24) (oi := zo194_4_24) rfl (by kernel_rfl) (fun _ _ _ h => h) (Or.inr ⟨rfl, rfl⟩) hS ?_
      simp only [Act.put, pA, pB, pC]
      refine tK (i := 25) (oi := zo194_4_25) rfl (by kernel_rfl) (fun _ _ _ h => h) (Or.inr ⟨rfl, rfl⟩) hS ?_
      simp only [Act.put, pA, pB, pC]
      refine tK (i := 26) (oi := zo194_4_26) rfl (by kernel_rfl) (fun _ _ _ h => h) (Or.inr ⟨rfl, rfl⟩) hS ?_
      simp only [Act.put, pA, pB, pC]
      refine tK (i := 27) (oi := zo194_4_27) rfl (by kernel_rfl) (fun _ _ _ h => h) (Or.inr ⟨rfl, rfl⟩) hS ?_
      simp only [Act.put, pA, pB, pC]
      refine tK (i := 28) (oi := zo194_4_28) rfl (by kernel_rfl) (fun _ _ _ h => h) (Or.inr ⟨rfl, rfl⟩) hS ?_
      simp only [Act.put, pA, pB, pC]
      refine tK (i := 29) (oi := zo194_4_29) rfl (by kernel_rfl) (fun _ _ _ h => h) (Or.inr ⟨rfl, rfl⟩) hS ?_
      simp only [Act.put, pA, pB, pC]
      refine tK (i := 30) (oi := zo194_4_30) rfl (by kernel_rfl) (fun _ _ _ h => h) (Or.inr ⟨rfl, rfl⟩) hS ?_
      simp only [Act.put, pA, pB, pC]
      refine tK (i := 31) (oi := zo194_4_31) rfl (by kernel_rfl) (fun _ _ _ h => h) (Or.inr ⟨rfl, rfl⟩) hS ?_
      simp only [Act.put, pA, pB, pC]
      refine tK (i := 32) (oi := zo194_4_32) rfl (by kernel_rfl) (fun _ _ _ h => h) (Or.inr ⟨rfl, rfl⟩) hS ?_
      simp only [Act.put, pA, pB, pC]
      refine tK (i := 33) (oi := zo194_4_33) (v := ?_) rfl (by kernel_rfl) (fun _ _ _ h => h) (Or.inl ⟨rfl, ?_⟩) hS ?_
      rotate_left
      · (intro w' hS'; (try dsimp only at hS'); dsimp only [zo194_4_33]; go_simp; try with_reducible rfl)
      simp only [Act.put, pA, pB, pC]
      refine wpAnyH_done (by kernel_rfl) ?_ _
      go_wp2_with fail
      go_ret
      exact ⟨ret_boolI HF.out.symm, hb.drew.trans (bb1.mono hbs)⟩
    · have HP := Lib.hid hp
      simp only [hp] at HC
      by_cases hz : k = 0
      · have HK : Hid (stsOk xs (k + 1) = true) := by show _ = _; rw [stsOk, hok.out, stOk_step hlt HP.out (.inl hz)]; rfl
        have g0 : (0 < k) = False := eq_false (by omega)
        obtain ⟨AK, ck, rfl⟩ := slice_len hrk
        clear hr hz hp hrk QK
        go_wp2_with fail
        have hS : (fun w' => w'.cell? ⟨g, f, none⟩ = some (.slice (some ⟨b, off, none⟩) xs.length c) ∧ w'.cell? ⟨b, off + k, none⟩ = some (.slice AK xs[k].length ck)) wr.drew := ⟨hg, h0⟩
        dsimp only at hS
        refine wp_region_held_drew (S := (fun w' => w'.cell? ⟨g, f, none⟩ = some (.slice (some ⟨b, off, none⟩) xs.length c) ∧ w'.cell? ⟨b, off + k, none⟩ = some (.slice AK xs[k].length ck))) (by kernel_rfl) hS (fun _ => ?_)
        refine tK (i := 0) (oi := zo194_4_0) (v := ?_) rfl (by kernel_rfl) (fun _ _ _ h => h) (Or.inl ⟨rfl, ?_⟩) hS ?_
        rotate_left
        · (intro w' hS'; (try dsimp only at hS'); dsimp only [zo194_4_0]; go_simp; try with_reducible rfl)
        simp only [Act.put, pA, pB, pC]
        refine tK (i := 1) (oi := zo194_4_1) (v := ?_) rfl (by kernel_rfl) (fun _ _ _ h => h) (Or.inl ⟨rfl, ?_⟩) hS ?_
        rotate_left
        · (intro w' hS'; (try dsimp only at hS'); dsimp only [zo194_4_1]; go_simp; try with_reducible rfl)
        simp only [Act.put, pA, pB, pC]
        refine tK (i := 2) (oi := zo194_4_2) (v := ?_) rfl (by kernel_rfl) (fun _ _ _ h => h) (Or.inl ⟨rfl, ?_⟩) hS ?_
        rotate_left
        · (intro w' hS'; (try dsimp only at hS'); dsimp only [zo194_4_2]; go_simp; try with_reducible rfl)
        simp only [Act.put, pA, pB, pC]
        refine tK (i := 3) (oi := zo194_4_3) (v := ?_) rfl (by kernel_rfl) (fun _ _ _ h => h) (Or.inl ⟨rfl, ?_⟩) hS ?_
        rotate_left
        · (intro w' hS'; (try dsimp only at hS'); dsimp only [zo194_4_3]; go_simp; try with_reducible rfl)
        simp only [Act.put, pA, pB, pC]
        refine tK (i := 4) (oi := zo194_4_4) (v := ?_) rfl (by kernel_rfl) (fun _ _ _ h => h) (Or.inl ⟨rfl, ?_⟩) hS ?_
        rotate_left
        · (intro w' hS'; (try dsimp only at hS'); dsimp only [zo194_4_4]; go_simp; try with_reducible rfl)
        simp only [Act.put, pA, pB, pC]
        refine tK (i := 5) (oi := zo194_4_5) (v := ?_) rfl (by kernel_rfl) (fun _ _ _ h => h) (Or.inl ⟨rfl, ?_⟩) hS ?_
        rotate_left
        · (intro w' hS'; (try dsimp only at hS'); dsimp only [zo194_4_5]; go_simp; try with_reducible rfl)
        simp only [Act.put, pA, pB, pC]
        refine wpAnyH_ready (rs := [6]) (by kernel_rfl) (by simp) ?_
        refine AllReadyH.cons (o := zo194_4_6) rfl (fun K hK => ?_) .nil
        refine step_call 196 #[.tmp 18] _ rfl rfl #[.pointer (some ⟨b, off + k, none⟩)] Tryz.call196 (by go_simp) HC.out ?_
        rintro e w1 ⟨rfl, bb1⟩
        refine ⟨_, rfl, ?_⟩
        replace hS : (fun w' => w'.cell? ⟨g, f, none⟩ = some (.slice (some ⟨b, off, none⟩) xs.length c) ∧ w'.cell? ⟨b, off + k, none⟩ = some (.slice AK xs[k].length ck)) w1 := ⟨keep_b (w2 := wr.drew) bb1 hgl hg, keep_b (w2 := wr.drew) bb1 hbb' h0⟩
        dsimp only at hS
        refine hK.out _ _ ?_ (fun hHeld => ?_)
        · exact hS
        clear hK K hHeld
        simp only [Act.put, pA, pB, pC]
        refine tK (i := 7) (oi := zo194_4_7) (v := ?_) rfl (by kernel_rfl) (fun _ _ _ h => h) (Or.inl ⟨rfl, ?_⟩) hS ?_
        rotate_left
        · (intro w' hS'; (try dsimp only at hS'); dsimp only [zo194_4_7]; go_simp; try with_reducible rfl)
        simp only [Act.put, pA, pB, pC]
        refine tK (i := 8) (oi := zo194_4_8) (v := ?_) rfl (by kernel_rfl) (fun _ _ _ h => h) (Or.inl ⟨rfl, ?_⟩) hS ?_
        rotate_left
        · (intro w' hS'; (try dsimp only at hS'); dsimp only [zo194_4_8]; go_simp; try with_reducible rfl)
        simp only [Act.put, pA, pB, pC]
        refine tK (i := 9) (oi := zo194_4_9) (v := ?_) rfl (by kernel_rfl) (fun _ _ _ h => h) (Or.inl ⟨rfl, ?_⟩) hS ?_
        rotate_left
        · (intro w' hS'; (try dsimp only at hS'); dsimp only [zo194_4_9]; go_simp; try with_reducible rfl)
        simp only [Act.put, pA, pB, pC]
        refine tK (i := 10) (oi := zo194_4_10) (v := ?_) rfl (by kernel_rfl) (fun _ _ _ h => h) (Or.inl ⟨rfl, ?_⟩) hS ?_
        rotate_left
        · (intro w' hS'; (try dsimp only at hS'); dsimp only [zo194_4_10]; go_simp; try with_reducible rfl)
        simp only [Act.put, pA, pB, pC]
        refine tK (i := 11) (oi := zo194_4_11) (v := ?_) rfl (by kernel_rfl) (fun _ _ _ h => h) (Or.inl ⟨rfl, ?_⟩) hS ?_
        rotate_left
        · (intro w' hS'; (try dsimp only at hS'); dsimp only [zo194_4_11]; go_simp; try with_reducible rfl)
        simp only [Act.put, pA, pB, pC]
        refine tK (i := 12) (oi := zo194_4_12) rfl (by kernel_rfl) (fun _ _ _ h => h) (Or.inr ⟨rfl, rfl⟩) hS ?_
        simp only [Act.put, pA, pB, pC]
        refine tK (i := 13) (oi := zo194_4_13) rfl (by kernel_rfl) (fun _ _ _ h => h) (Or.inr ⟨rfl, rfl⟩) hS ?_
        simp only [Act.put, pA, pB, pC]
        refine tK (i := 14) (oi := zo194_4_14) rfl (by kernel_rfl) (fun _ _ _ h => h) (Or.inr ⟨rfl, rfl⟩) hS ?_
        simp only [Act.put, pA, pB, pC]
        refine tK (i := 15) (oi := zo194_4_15) rfl (by kernel_rfl) (fun _ _ _ h => h) (Or.inr ⟨rfl, rfl⟩) hS ?_
        simp only [Act.put, pA, pB, pC]
        refine tK (i := 16) (oi := zo194_4_16) rfl (by kernel_rfl) (fun _ _ _ h => h) (Or.inr ⟨rfl, rfl⟩) hS ?_
        simp only [Act.put, pA, pB, pC]
        refine tK (i := 17) (oi := zo194_4_17) rfl (by kernel_rfl) (fun _ _ _ h => h) (Or.inr ⟨rfl, rfl⟩) hS ?_
        simp only [Act.put, pA, pB, pC]
        refine tK (i := 18) (oi := zo194_4_18) rfl (by kernel_rfl) (fun _ _ _ h => h) (Or.inr ⟨rfl, rfl⟩) hS ?_
        simp only [Act.put, pA, pB, pC]
        refine tK (i := 19) (oi := zo194_4_19) rfl (by kernel_rfl) (fun _ _ _ h => h) (Or.inr ⟨rfl, rfl⟩) hS ?_
        simp only [Act.put, pA, pB, pC]
        refine tK (i := 20) (oi := zo194_4_20) rfl (by kernel_rfl) (fun _ _ _ h => h) (Or.inr ⟨rfl, rfl⟩) hS ?_
        simp only [Act.put, pA, pB, pC]
        refine tK (i := 21) (oi := zo194_4_21) rfl (by kernel_rfl) (fun _ _ _ h => h) (Or.inr ⟨rfl, rfl⟩) hS ?_
        simp only [Act.put, pA, pB, pC]
        refine tK (i := 22) (oi := zo194_4_22) rfl (by kernel_rfl) (fun _ _ _ h => h) (Or.inr ⟨rfl, rfl⟩) hS ?_
        simp only [Act.put, pA, pB, pC]
        refine tK (i := 23) (oi := zo194_4_23) rfl (by kernel_rfl) (fun _ _ _ h => h) (Or.inr ⟨rfl, rfl⟩) hS ?_
        simp only [Act.put, pA, pB, pC]
        refine tK (i := 24) (oi := zo194_4_24) rfl (by kernel_rfl) (fun _ _ _ h => h) (Or.inr ⟨rfl, rfl⟩) hS ?_
        simp only [Act.put, pA, pB, pC]
        refine tK (i := 25) (oi := zo194_4_25) rfl (by kernel_rfl) (fun _ _ _ h => h) (Or.inr ⟨rfl, rfl⟩) hS ?_
        simp only [Act.put, pA, pB, pC]
        refine tK (i := 26) (oi := zo194_4_26) rfl (by kernel_rfl) (fun _ _ _ h => h) (Or.inr ⟨rfl, rfl⟩) hS ?_
        simp only [Act.put, pA, pB, pC]
        refine tK (i := 27) (oi := zo194_4_27) rfl (by kernel_rfl) (fun _ _ _ h => h) (Or.inr ⟨rfl, rfl⟩) hS ?_
        simp only [Act.put, pA, pB, pC]
        refine tK (i := 28) (oi := zo194_4_28) rfl (by kernel_rfl) (fun _ _ _ h => h) (Or.inr ⟨rfl, rfl⟩) hS ?_
        simp only [Act.put, pA, pB, pC]
        refine tK (i := 29) (oi := zo194_4_29) rfl (by kernel_rfl) (fun _ _ _ h => h) (Or.inr ⟨rfl, rfl⟩) hS ?_
        simp only [Act.put, pA, pB, pC]
        refine tK (i := 30) (oi := zo194_4_30) rfl (by kernel_rfl) (fun _ _ _ h => h) (Or.inr ⟨rfl, rfl⟩) hS ?_
        simp only [Act.put, pA, pB, pC]
        refine tK (i := 31) (oi := zo194_4_31) rfl (by kernel_rfl) (fun _ _ _ h => h) (Or.inr ⟨rfl, rfl⟩) hS ?_
        simp only [Act.put, pA, pB, pC]
        refine tK (i := 32) (oi := zo194_4_32) (v := ?_) rfl (by kernel_rfl) (fun _ _ _ h => h) (Or.inl ⟨rfl, ?_⟩) hS ?_
        rotate_left
        · (intro w' hS'; (try dsimp only at hS'); dsimp only [zo194_4_32]; go_simp; try with_reducible rfl)
        simp only [Act.put, pA, pB, pC]
        refine tK (i := 33) (oi := zo194_4_33) (v := ?_) rfl (by kernel_rfl) (fun _ _ _ h => h) (Or.inl ⟨rfl, ?_⟩) hS ?_
        rotate_left
        · (intro w' hS'; (try dsimp only at hS'); dsimp only [zo194_4_33]; go_simp; try with_reducible rfl)
        simp only [Act.put, pA, pB, pC]
        refine wpAnyH_done (by kernel_rfl) ?_ _
        go_wp2_with fail
        go_roundw
        case rel => exact ⟨k + 1, by omega, by go_num, HK, hb.drew.trans (bb1.mono hbs)⟩
        case measure => simp [intOf]; omega
      · obtain ⟨j, hj⟩ : ∃ j, k = j + 1 := ⟨k - 1, by omega⟩
        have jl : j < xs.length := by omega
        obtain ⟨b', off', u', Fj, e', hb3, _, hrj, _, h3⟩ := hr j jl
        injection e' with e'
        injection e' with e1 e2 _
        subst e1; subst e2
        rw [← hb.cell (p := ⟨b, _, none⟩) hb3] at h3
        obtain ⟨Aj, cj, rfl⟩ := slice_len hrj
        have p1 := strokeB_pos hp
        have p2 := Lib.hid (strokeB_pos (stOk_stroke jl (stsOk_get hok.out (show j < k by omega))))
        have hlej := hxe _ (List.getElem_mem jl)
        have QJ := Lib.hid (hrj.below hb).drew
        have CL := Lib.hid (fun w2 (bb : Below wr.drew.heap.size wr.drew w2) (hc : w2.cell? ⟨b, off + j, none⟩ = some (.slice Aj xs[j].length cj)) => spec_l02Last_c w2 hc (QJ.out.below bb) p2.out hlej)
        obtain ⟨AK, ck, rfl, _, _, hr1⟩ := pPoints_open hrk
        obtain ⟨b1, o1, rfl, hb1, _, _, _, h4, _⟩ := hr1 0 p1
        rw [← hb.cell (p := ⟨b1, _, none⟩) hb1] at h4
        simp only [Nat.zero_mul, Nat.add_zero] at h4
        replace hb1 : b1 < wr.heap.size := by omega
        have eft : xs[k][0].t = firstT xs[k] := by unfold firstT; rw [pt_get p1]
        rw [eft] at h4
        have p1' : (0 : Int) < (xs[k].length : Int) := by omega
        have g0 : (0 < k) = True := eq_true (by omega)
        have gj : IntKind.i64.wrap ((k : Int) - 1) = (j : Int) := (IntWalk.i64_in _ (by omega)).trans (by omega)
        have jl' : (j : Int) < (xs.length : Int) := by omega
        have j0 : (0 : Int) ≤ (j : Int) := by omega
        have HT : firstT xs[k] ≤ lastT xs[j] → Hid (inkB xs = false) := fun ht => inkB_false hlt (by subst hj; exact stOk_late hlt ht)
        have HN : ¬ firstT xs[k] ≤ lastT xs[j] → Hid (stsOk xs (k + 1) = true) := fun ht => by
         show _ = _
         rw [stsOk, hok.out, stOk_step hlt HP.out (.inr ⟨j, hj, fun _ => by omega⟩)]; rfl
        clear eft
        generalize hft : firstT xs[k] = ft at h4 HT HN
        generalize hlt' : lastT xs[j] = ltt at CL HT HN
        have HT' := Lib.hid HT
        have HN' := Lib.hid HN
        have HJ := Lib.hid hj
        clear hr hj hz hp hrj hrk HT HN hft hlt' hr1 QK
        by_cases ht : ft ≤ ltt
        · have HF := HT'.out ht
          have gt : (ft ≤ ltt) = True := eq_true ht
          clear ht
          go_wp2_with fail
          have hS : (fun w' => w'.cell? ⟨g, f, none⟩ = some (.slice (some ⟨b, off, none⟩) xs.length c) ∧ w'.cell? ⟨b, off + k, none⟩ = some (.slice (some ⟨b1, o1, none⟩) xs[k].length ck) ∧ w'.cell? ⟨b, off + j, none⟩ = some (.slice Aj xs[j].length cj) ∧ w'.cell? ⟨b1, o1 + 2, none⟩ = some (.int .i64 ft)) wr.drew := ⟨hg, h0, h3, h4⟩
          dsimp only at hS
          refine wp_region_held_drew (S := (fun w' => w'.cell? ⟨g, f, none⟩ = some (.slice (some ⟨b, off, none⟩) xs.length c) ∧ w'.cell? ⟨b, off + k, none⟩ = some (.slice (some ⟨b1, o1, none⟩) xs[k].length ck) ∧ w'.cell? ⟨b, off + j, none⟩ = some (.slice Aj xs[j].length cj) ∧ w'.cell? ⟨b1, o1 + 2, none⟩ = some (.int .i64 ft))) (by kernel_rfl) hS (fun _ => ?_)
          refine tK (i := 0) (oi := zo194_4_0) (v := ?_) rfl (by kernel_rfl) (fun _ _ _ h => h) (Or.inl ⟨rfl, ?_⟩) hS ?_
          rotate_left
          · (intro w' hS'; (try dsimp only at hS'); dsimp only [zo194_4_0]; go_simp; try with_reducible rfl)
          simp only [Act.put, pA, pB, pC]
          refine tK (i := 1) (oi := zo194_4_1) (v := ?_) rfl (by kernel_rfl) (fun _ _ _ h => h) (Or.inl ⟨rfl, ?_⟩) hS ?_
          rotate_left
          · (intro w' hS'; (try dsimp only at hS'); dsimp only [zo194_4_1]; go_simp; try with_reducible rfl)
          simp only [Act.put, pA, pB, pC]
          refine tK (i := 2) (oi := zo194_4_2) (v := ?_) rfl (by kernel_rfl) (fun _ _ _ h => h) (Or.inl ⟨rfl, ?_⟩) hS ?_
          rotate_left
          · (intro w' hS'; (try dsimp only at hS'); dsimp only [zo194_4_2]; go_simp; try with_reducible rfl)
          simp only [Act.put, pA, pB, pC]
          refine tK (i := 3) (oi := zo194_4_3) (v := ?_) rfl (by kernel_rfl) (fun _ _ _ h => h) (Or.inl ⟨rfl, ?_⟩) hS ?_
          rotate_left
          · (intro w' hS'; (try dsimp only at hS'); dsimp only [zo194_4_3]; go_simp; try with_reducible rfl)
          simp only [Act.put, pA, pB, pC]
          refine tK (i := 4) (oi := zo194_4_4) (v := ?_) rfl (by kernel_rfl) (fun _ _ _ h => h) (Or.inl ⟨rfl, ?_⟩) hS ?_
          rotate_left
          · (intro w' hS'; (try dsimp only at hS'); dsimp only [zo194_4_4]; go_simp; try with_reducible rfl)
          simp only [Act.put, pA, pB, pC]
          refine tK (i := 5) (oi := zo194_4_5) (v := ?_) rfl (by kernel_rfl) (fun _ _ _ h => h) (Or.inl ⟨rfl, ?_⟩) hS ?_
          rotate_left
          · (intro w' hS'; (try dsimp only at hS'); dsimp only [zo194_4_5]; go_simp; try with_reducible rfl)
          simp only [Act.put, pA, pB, pC]
          refine wpAnyH_ready (rs := [6]) (by kernel_rfl) (by simp) ?_
          refine AllReadyH.cons (o := zo194_4_6) rfl (fun K hK => ?_) .nil
          refine step_call 196 #[.tmp 18] _ rfl rfl #[.pointer (some ⟨b, off + k, none⟩)] Tryz.call196 (by go_simp) HC.out ?_
          rintro e w1 ⟨rfl, bb1⟩
          refine ⟨_, rfl, ?_⟩
          replace hS : (fun w' => w'.cell? ⟨g, f, none⟩ = some (.slice (some ⟨b, off, none⟩) xs.length c) ∧ w'.cell? ⟨b, off + k, none⟩ = some (.slice (some ⟨b1, o1, none⟩) xs[k].length ck) ∧ w'.cell? ⟨b, off + j, none⟩ = some (.slice Aj xs[j].length cj) ∧ w'.cell? ⟨b1, o1 + 2, none⟩ = some (.int .i64 ft)) w1 := ⟨keep_b (w2 := wr.drew) bb1 hgl hg, keep_b (w2 := wr.drew) bb1 hbb' h0, keep_b (w2 := wr.drew) bb1 hbb' h3, keep_b (w2 := wr.drew) bb1 hb1 h4⟩
          dsimp only at hS
          refine hK.out _ _ ?_ (fun hHeld => ?_)
          · exact hS
          clear hK K hHeld
          simp only [Act.put, pA, pB, pC]
          refine tK (i := 7) (oi := zo194_4_7) (v := ?_) rfl (by kernel_rfl) (fun _ _ _ h => h) (Or.inl ⟨rfl, ?_⟩) hS ?_
          rotate_left
          · (intro w' hS'; (try dsimp only at hS'); dsimp only [zo194_4_7]; go_simp; try with_reducible rfl)
          simp only [Act.put, pA, pB, pC]
          refine tK (i := 8) (oi := zo194_4_8) (v := ?_) rfl (by kernel_rfl) (fun _ _ _ h => h) (Or.inl ⟨rfl, ?_⟩) hS ?_
          rotate_left
          · (intro w' hS'; (try dsimp only at hS'); dsimp only [zo194_4_8]; go_simp; try with_reducible rfl)
          simp only [Act.put, pA, pB, pC]
          refine tK (i := 9) (oi := zo194_4_9) (v := ?_) rfl (by kernel_rfl) (fun _ _ _ h => h) (Or.inl ⟨rfl, ?_⟩) hS ?_
          rotate_left
          · (intro w' hS'; (try dsimp only at hS'); dsimp only [zo194_4_9]; go_simp; try with_reducible rfl)
          simp only [Act.put, pA, pB, pC]
          refine tK (i := 10) (oi := zo194_4_10) (v := ?_) rfl (by kernel_rfl) (fun _ _ _ h => h) (Or.inl ⟨rfl, ?_⟩) hS ?_
          rotate_left
          · (intro w' hS'; (try dsimp only at hS'); dsimp only [zo194_4_10]; go_simp; try with_reducible rfl)
          simp only [Act.put, pA, pB, pC]
          refine tK (i := 11) (oi := zo194_4_11) (v := ?_) rfl (by kernel_rfl) (fun _ _ _ h => h) (Or.inl ⟨rfl, ?_⟩) hS ?_
          rotate_left
          · (intro w' hS'; (try dsimp only at hS'); dsimp only [zo194_4_11]; go_simp; try with_reducible rfl)
          simp only [Act.put, pA, pB, pC]
          refine tK (i := 12) (oi := zo194_4_12) (v := ?_) rfl (by kernel_rfl) (fun _ _ _ h => h) (Or.inl ⟨rfl, ?_⟩) hS ?_
          rotate_left
          · (intro w' hS'; (try dsimp only at hS'); dsimp only [zo194_4_12]; go_simp; try with_reducible rfl)
          simp only [Act.put, pA, pB, pC]
          refine tK (i := 13) (oi := zo194_4_13) (v := ?_) rfl (by kernel_rfl) (fun _ _ _ h => h) (Or.inl ⟨rfl, ?_⟩) hS ?_
          rotate_left
          · (intro w' hS'; (try dsimp only at hS'); dsimp only [zo194_4_13]; go_simp; try with_reducible rfl)
          simp only [Act.put, pA, pB, pC]
          refine tK (i := 14) (oi := zo194_4_14) (v := ?_) rfl (by kernel_rfl) (fun _ _ _ h => h) (Or.inl ⟨rfl, ?_⟩) hS ?_
          rotate_left
          · (intro w' hS'; (try dsimp only at hS'); dsimp only [zo194_4_14]; go_simp; try with_reducible rfl)
          simp only [Act.put, pA, pB, pC]
          refine tK (i := 15) (oi := zo194_4_15) (v := ?_) rfl (by kernel_rfl) (fun _ _ _ h => h) (Or.inl ⟨rfl, ?_⟩) hS ?_
          rotate_left
          · (intro w' hS'; (try dsimp only at hS'); dsimp only [zo194_4_15]; go_simp; try with_reducible rfl)
          simp only [Act.put, pA, pB, pC]
          refine tK (i := 16) (oi := zo194_4_16) (v := ?_) rfl (by kernel_rfl) (fun _ _ _ h => h) (Or.inl ⟨rfl, ?_⟩) hS ?_
          rotate_left
          · (intro w' hS'; (try dsimp only at hS'); dsimp only [zo194_4_16]; go_simp; try with_reducible rfl)
          simp only [Act.put, pA, pB, pC]
          refine tK (i := 17) (oi := zo194_4_17) (v := ?_) rfl (by kernel_rfl) (fun _ _ _ h => h) (Or.inl ⟨rfl, ?_⟩) hS ?_
          rotate_left
          · (intro w' hS'; (try dsimp only at hS'); dsimp only [zo194_4_17]; go_simp; try with_reducible rfl)
          simp only [Act.put, pA, pB, pC]
          refine tK (i := 18) (oi := zo194_4_18) (v := ?_) rfl (by kernel_rfl) (fun _ _ _ h => h) (Or.inl ⟨rfl, ?_⟩) hS ?_
          rotate_left
          · (intro w' hS'; (try dsimp only at hS'); dsimp only [zo194_4_18]; go_simp; try with_reducible rfl)
          simp only [Act.put, pA, pB, pC]
          refine tK (i := 19) (oi := zo194_4_19) (v := ?_) rfl (by kernel_rfl) (fun _ _ _ h => h) (Or.inl ⟨rfl, ?_⟩) hS ?_
          rotate_left
          · (intro w' hS'; (try dsimp only at hS'); dsimp only [zo194_4_19]; go_simp; try with_reducible rfl)
          simp only [Act.put, pA, pB, pC]
          refine tK (i := 20) (oi := zo194_4_20) (v := ?_) rfl (by kernel_rfl) (fun _ _ _ h => h) (Or.inl ⟨rfl, ?_⟩) hS ?_
          rotate_left
          · (intro w' hS'; (try dsimp only at hS'); dsimp only [zo194_4_20]; go_simp; try with_reducible rfl)
          simp only [Act.put, pA, pB, pC]
          refine tK (i := 21) (oi := zo194_4_21) (v := ?_) rfl (by kernel_rfl) (fun _ _ _ h => h) (Or.inl ⟨rfl, ?_⟩) hS ?_
          rotate_left
          · (intro w' hS'; (try dsimp only at hS'); dsimp only [zo194_4_21]; go_simp; try with_reducible rfl)
          simp only [Act.put, pA, pB, pC]
          refine tK (i := 22) (oi := zo194_4_22) (v := ?_) rfl (by kernel_rfl) (fun _ _ _ h => h) (Or.inl ⟨rfl, ?_⟩) hS ?_
          rotate_left
          · (intro w' hS'; (try dsimp only at hS'); dsimp only [zo194_4_22]; go_simp; try with_reducible rfl)
          simp only [Act.put, pA, pB, pC]
          refine tK (i := 23) (oi := zo194_4_23) (v := ?_) rfl (by kernel_rfl) (fun _ _ _ h => h) (Or.inl ⟨rfl, ?_⟩) hS ?_
          rotate_left
          · (intro w' hS'; (try dsimp only at hS'); dsimp only [zo194_4_23]; go_simp; try with_reducible rfl)
          simp only [Act.put, pA, pB, pC]
          refine tK (i := 24) (oi := zo194_4_24) (v := ?_) rfl (by kernel_rfl) (fun _ _ _ h => h) (Or.inl ⟨rfl, ?_⟩) hS ?_
          rotate_left
          · (intro w' hS'; (try dsimp only at hS'); dsimp only [zo194_4_24]; go_simp; try with_reducible rfl)
          simp only [Act.put, pA, pB, pC]
          refine tK (i := 25) (oi := zo194_4_25) (v := ?_) rfl (by kernel_rfl) (fun _ _ _ h => h) (Or.inl ⟨rfl, ?_⟩) hS ?_
          rotate_left
          · (intro w' hS'; (try dsimp only at hS'); dsimp only [zo194_4_25]; go_simp; try with_reducible rfl)
          simp only [Act.put, pA, pB, pC]
          refine tK (i := 26) (oi := zo194_4_26) (v := ?_) rfl (by kernel_rfl) (fun _ _ _ h => h) (Or.inl ⟨rfl, ?_⟩) hS ?_
          rotate_left
          · (intro w' hS'; (try dsimp only at hS'); dsimp only [zo194_4_26]; go_simp; try with_reducible rfl)
          simp only [Act.put, pA, pB, pC]
          refine tK (i := 27) (oi := zo194_4_27) (v := ?_) rfl (by kernel_rfl) (fun _ _ _ h => h) (Or.inl ⟨rfl, ?_⟩) hS ?_
          rotate_left
          · (intro w' hS'; (try dsimp only at hS'); dsimp only [zo194_4_27]; go_simp; try with_reducible rfl)
          simp only [Act.put, pA, pB, pC]
          refine tK (i := 28) (oi := zo194_4_28) (v := ?_) rfl (by kernel_rfl) (fun _ _ _ h => h) (Or.inl ⟨rfl, ?_⟩) hS ?_
          rotate_left
          · (intro w' hS'; (try dsimp only at hS'); dsimp only [zo194_4_28]; go_simp; try with_reducible rfl)
          simp only [Act.put, pA, pB, pC]
          refine tK (i := 29) (oi := zo194_4_29) (v := ?_) rfl (by kernel_rfl) (fun _ _ _ h => h) (Or.inl ⟨rfl, ?_⟩) hS ?_
          rotate_left
          · (intro w' hS'; (try dsimp only at hS'); dsimp only [zo194_4_29]; go_simp; try with_reducible rfl)
          simp only [Act.put, pA, pB, pC]
          refine wpAnyH_ready (rs := [30]) (by kernel_rfl) (by simp) ?_
          refine AllReadyH.cons (o := zo194_4_30) rfl (fun K hK => ?_) .nil
          refine step_call 197 #[.tmp 42] _ rfl rfl #[.pointer (some ⟨b, off + j, none⟩)] Tryz.call197 (by go_simp) (CL.out _ bb1 hS.2.2.1) ?_
          rintro e w2 ⟨rfl, n2, rfl⟩
          refine ⟨_, rfl, ?_⟩
          refine hK.out _ _ ?_ (fun hHeld => ?_)
          · exact hS
          clear hK K hHeld
          simp only [Act.put, pA, pB, pC]
          refine tK (i := 31) (oi := zo194_4_31) (v := ?_) rfl (by kernel_rfl) (fun _ _ _ h => h) (Or.inl ⟨rfl, ?_⟩) hS ?_
          rotate_left
          · (intro w' hS'; (try dsimp only at hS'); dsimp only [zo194_4_31]; go_simp; try with_reducible rfl)
          simp only [Act.put, pA, pB, pC]
          refine tK (i := 32) (oi := zo194_4_32) (v := ?_) rfl (by kernel_rfl) (fun _ _ _ h => h) (Or.inl ⟨rfl, ?_⟩) hS ?_
          rotate_left
          · (intro w' hS'; (try dsimp only at hS'); dsimp only [zo194_4_32]; go_simp; try with_reducible rfl)
          simp only [Act.put, pA, pB, pC]
          refine tK (i := 33) (oi := zo194_4_33) (v := ?_) rfl (by kernel_rfl) (fun _ _ _ h => h) (Or.inl ⟨rfl, ?_⟩) hS ?_
          rotate_left
          · (intro w' hS'; (try dsimp only at hS'); dsimp only [zo194_4_33]; go_simp; try with_reducible rfl)
          simp only [Act.put, pA, pB, pC]
          refine wpAnyH_done (by kernel_rfl) ?_ _
          go_wp2_with fail
          go_ret
          exact ⟨ret_boolI HF.out.symm, below_drewN (hb.drew.trans (bb1.mono hbs)) _⟩
        · have HK := HN'.out ht
          have gt : (ft ≤ ltt) = False := eq_false ht
          clear ht
          go_wp2_with fail
          have hS : (fun w' => w'.cell? ⟨g, f, none⟩ = some (.slice (some ⟨b, off, none⟩) xs.length c) ∧ w'.cell? ⟨b, off + k, none⟩ = some (.slice (some ⟨b1, o1, none⟩) xs[k].length ck) ∧ w'.cell? ⟨b, off + j, none⟩ = some (.slice Aj xs[j].length cj) ∧ w'.cell? ⟨b1, o1 + 2, none⟩ = some (.int .i64 ft)) wr.drew := ⟨hg, h0, h3, h4⟩
          dsimp only at hS
          refine wp_region_held_drew (S := (fun w' => w'.cell? ⟨g, f, none⟩ = some (.slice (some ⟨b, off, none⟩) xs.length c) ∧ w'.cell? ⟨b, off + k, none⟩ = some (.slice (some ⟨b1, o1, none⟩) xs[k].length ck) ∧ w'.cell? ⟨b, off + j, none⟩ = some (.slice Aj xs[j].length cj) ∧ w'.cell? ⟨b1, o1 + 2, none⟩ = some (.int .i64 ft))) (by kernel_rfl) hS (fun _ => ?_)
          refine tK (i := 0) (oi := zo194_4_0) (v := ?_) rfl (by kernel_rfl) (fun _ _ _ h => h) (Or.inl ⟨rfl, ?_⟩) hS ?_
          rotate_left
          · (intro w' hS'; (try dsimp only at hS'); dsimp only [zo194_4_0]; go_simp; try with_reducible rfl)
          simp only [Act.put, pA, pB, pC]
          refine tK (i := 1) (oi := zo194_4_1) (v := ?_) rfl (by kernel_rfl) (fun _ _ _ h => h) (Or.inl ⟨rfl, ?_⟩) hS ?_
          rotate_left
          · (intro w' hS'; (try dsimp only at hS'); dsimp only [zo194_4_1]; go_simp; try with_reducible rfl)
          simp only [Act.put, pA, pB, pC]
          refine tK (i := 2) (oi := zo194_4_2) (v := ?_) rfl (by kernel_rfl) (fun _ _ _ h => h) (Or.inl ⟨rfl, ?_⟩) hS ?_
          rotate_left
          · (intro w' hS'; (try dsimp only at hS'); dsimp only [zo194_4_2]; go_simp; try with_reducible rfl)
          simp only [Act.put, pA, pB, pC]
          refine tK (i := 3) (oi := zo194_4_3) (v := ?_) rfl (by kernel_rfl) (fun _ _ _ h => h) (Or.inl ⟨rfl, ?_⟩) hS ?_
          rotate_left
          · (intro w' hS'; (try dsimp only at hS'); dsimp only [zo194_4_3]; go_simp; try with_reducible rfl)
          simp only [Act.put, pA, pB, pC]
          refine tK (i := 4) (oi := zo194_4_4) (v := ?_) rfl (by kernel_rfl) (fun _ _ _ h => h) (Or.inl ⟨rfl, ?_⟩) hS ?_
          rotate_left
          · (intro w' hS'; (try dsimp only at hS'); dsimp only [zo194_4_4]; go_simp; try with_reducible rfl)
          simp only [Act.put, pA, pB, pC]
          refine tK (i := 5) (oi := zo194_4_5) (v := ?_) rfl (by kernel_rfl) (fun _ _ _ h => h) (Or.inl ⟨rfl, ?_⟩) hS ?_
          rotate_left
          · (intro w' hS'; (try dsimp only at hS'); dsimp only [zo194_4_5]; go_simp; try with_reducible rfl)
          simp only [Act.put, pA, pB, pC]
          refine wpAnyH_ready (rs := [6]) (by kernel_rfl) (by simp) ?_
          refine AllReadyH.cons (o := zo194_4_6) rfl (fun K hK => ?_) .nil
          refine step_call 196 #[.tmp 18] _ rfl rfl #[.pointer (some ⟨b, off + k, none⟩)] Tryz.call196 (by go_simp) HC.out ?_
          rintro e w1 ⟨rfl, bb1⟩
          refine ⟨_, rfl, ?_⟩
          replace hS : (fun w' => w'.cell? ⟨g, f, none⟩ = some (.slice (some ⟨b, off, none⟩) xs.length c) ∧ w'.cell? ⟨b, off + k, none⟩ = some (.slice (some ⟨b1, o1, none⟩) xs[k].length ck) ∧ w'.cell? ⟨b, off + j, none⟩ = some (.slice Aj xs[j].length cj) ∧ w'.cell? ⟨b1, o1 + 2, none⟩ = some (.int .i64 ft)) w1 := ⟨keep_b (w2 := wr.drew) bb1 hgl hg, keep_b (w2 := wr.drew) bb1 hbb' h0, keep_b (w2 := wr.drew) bb1 hbb' h3, keep_b (w2 := wr.drew) bb1 hb1 h4⟩
          dsimp only at hS
          refine hK.out _ _ ?_ (fun hHeld => ?_)
          · exact hS
          clear hK K hHeld
          simp only [Act.put, pA, pB, pC]
          refine tK (i := 7) (oi := zo194_4_7) (v := ?_) rfl (by kernel_rfl) (fun _ _ _ h => h) (Or.inl ⟨rfl, ?_⟩) hS ?_
          rotate_left
          · (intro w' hS'; (try dsimp only at hS'); dsimp only [zo194_4_7]; go_simp; try with_reducible rfl)
          simp only [Act.put, pA, pB, pC]
          refine tK (i := 8) (oi := zo194_4_8) (v := ?_) rfl (by kernel_rfl) (fun _ _ _ h => h) (Or.inl ⟨rfl, ?_⟩) hS ?_
          rotate_left
          · (intro w' hS'; (try dsimp only at hS'); dsimp only [zo194_4_8]; go_simp; try with_reducible rfl)
          simp only [Act.put, pA, pB, pC]
          refine tK (i := 9) (oi := zo194_4_9) (v := ?_) rfl (by kernel_rfl) (fun _ _ _ h => h) (Or.inl ⟨rfl, ?_⟩) hS ?_
          rotate_left
          · (intro w' hS'; (try dsimp only at hS'); dsimp only [zo194_4_9]; go_simp; try with_reducible rfl)
          simp only [Act.put, pA, pB, pC]
          refine tK (i := 10) (oi := zo194_4_10) (v := ?_) rfl (by kernel_rfl) (fun _ _ _ h => h) (Or.inl ⟨rfl, ?_⟩) hS ?_
          rotate_left
          · (intro w' hS'; (try dsimp only at hS'); dsimp only [zo194_4_10]; go_simp; try with_reducible rfl)
          simp only [Act.put, pA, pB, pC]
          refine tK (i := 11) (oi := zo194_4_11) (v := ?_) rfl (by kernel_rfl) (fun _ _ _ h => h) (Or.inl ⟨rfl, ?_⟩) hS ?_
          rotate_left
          · (intro w' hS'; (try dsimp only at hS'); dsimp only [zo194_4_11]; go_simp; try with_reducible rfl)
          simp only [Act.put, pA, pB, pC]
          refine tK (i := 12) (oi := zo194_4_12) (v := ?_) rfl (by kernel_rfl) (fun _ _ _ h => h) (Or.inl ⟨rfl, ?_⟩) hS ?_
          rotate_left
          · (intro w' hS'; (try dsimp only at hS'); dsimp only [zo194_4_12]; go_simp; try with_reducible rfl)
          simp only [Act.put, pA, pB, pC]
          refine tK (i := 13) (oi := zo194_4_13) (v := ?_) rfl (by kernel_rfl) (fun _ _ _ h => h) (Or.inl ⟨rfl, ?_⟩) hS ?_
          rotate_left
          · (intro w' hS'; (try dsimp only at hS'); dsimp only [zo194_4_13]; go_simp; try with_reducible rfl)
          simp only [Act.put, pA, pB, pC]
          refine tK (i := 14) (oi := zo194_4_14) (v := ?_) rfl (by kernel_rfl) (fun _ _ _ h => h) (Or.inl ⟨rfl, ?_⟩) hS ?_
          rotate_left
          · (intro w' hS'; (try dsimp only at hS'); dsimp only [zo194_4_14]; go_simp; try with_reducible rfl)
          simp only [Act.put, pA, pB, pC]
          refine tK (i := 15) (oi := zo194_4_15) (v := ?_) rfl (by kernel_rfl) (fun _ _ _ h => h) (Or.inl ⟨rfl, ?_⟩) hS ?_
          rotate_left
          · (intro w' hS'; (try dsimp only at hS'); dsimp only [zo194_4_15]; go_simp; try with_reducible rfl)
          simp only [Act.put, pA, pB, pC]
          refine tK (i := 16) (oi := zo194_4_16) (v := ?_) rfl (by kernel_rfl) (fun _ _ _ h => h) (Or.inl ⟨rfl, ?_⟩) hS ?_
          rotate_left
          · (intro w' hS'; (try dsimp only at hS'); dsimp only [zo194_4_16]; go_simp; try with_reducible rfl)
          simp only [Act.put, pA, pB, pC]
          refine tK (i := 17) (oi := zo194_4_17) (v := ?_) rfl (by kernel_rfl) (fun _ _ _ h => h) (Or.inl ⟨rfl, ?_⟩) hS ?_
          rotate_left
          · (intro w' hS'; (try dsimp only at hS'); dsimp only [zo194_4_17]; go_simp; try with_reducible rfl)
          simp only [Act.put, pA, pB, pC]
          refine tK (i := 18) (oi := zo194_4_18) (v := ?_) rfl (by kernel_rfl) (fun _ _ _ h => h) (Or.inl ⟨rfl, ?_⟩) hS ?_
          rotate_left
          · (intro w' hS'; (try dsimp only at hS'); dsimp only [zo194_4_18]; go_simp; try with_reducible rfl)
          simp only [Act.put, pA, pB, pC]
          refine tK (i := 19) (oi := zo194_4_19) (v := ?_) rfl (by kernel_rfl) (fun _ _ _ h => h) (Or.inl ⟨rfl, ?_⟩) hS ?_
          rotate_left
          · (intro w' hS'; (try dsimp only at hS'); dsimp only [zo194_4_19]; go_simp; try with_reducible rfl)
          simp only [Act.put, pA, pB, pC]
          refine tK (i := 20) (oi := zo194_4_20) (v := ?_) rfl (by kernel_rfl) (fun _ _ _ h => h) (Or.inl ⟨rfl, ?_⟩) hS ?_
          rotate_left
          · (intro w' hS'; (try dsimp only at hS'); dsimp only [zo194_4_20]; go_simp; try with_reducible rfl)
          simp only [Act.put, pA, pB, pC]
          refine tK (i := 21) (oi := zo194_4_21) (v := ?_) rfl (by kernel_rfl) (fun _ _ _ h => h) (Or.inl ⟨rfl, ?_⟩) hS ?_
          rotate_left
          · (intro w' hS'; (try dsimp only at hS'); dsimp only [zo194_4_21]; go_simp; try with_reducible rfl)
          simp only [Act.put, pA, pB, pC]
          refine tK (i := 22) (oi := zo194_4_22) (v := ?_) rfl (by kernel_rfl) (fun _ _ _ h => h) (Or.inl ⟨rfl, ?_⟩) hS ?_
          rotate_left
          · (intro w' hS'; (try dsimp only at hS'); dsimp only [zo194_4_22]; go_simp; try with_reducible rfl)
          simp only [Act.put, pA, pB, pC]
          refine tK (i := 23) (oi := zo194_4_23) (v := ?_) rfl (by kernel_rfl) (fun _ _ _ h => h) (Or.inl ⟨rfl, ?_⟩) hS ?_
          rotate_left
          · (intro w' hS'; (try dsimp only at hS'); dsimp only [zo194_4_23]; go_simp; try with_reducible rfl)
          simp only [Act.put, pA, pB, pC]
          refine tK (i := 24) (oi := zo194_4_24) (v := ?_) rfl (by kernel_rfl) (fun _ _ _ h => h) (Or.inl ⟨rfl, ?_⟩) hS ?_
          rotate_left
          · (intro w' hS'; (try dsimp only at hS'); dsimp only [zo194_4_24]; go_simp; try with_reducible rfl)
          simp only [Act.put, pA, pB, pC]
          refine tK (i := 25) (oi := zo194_4_25) (v := ?_) rfl (by kernel_rfl) (fun _ _ _ h => h) (Or.inl ⟨rfl, ?_⟩) hS ?_
          rotate_left
          · (intro w' hS'; (try dsimp only at hS'); dsimp only [zo194_4_25]; go_simp; try with_reducible rfl)
          simp only [Act.put, pA, pB, pC]
          refine tK (i := 26) (oi := zo194_4_26) (v := ?_) rfl (by kernel_rfl) (fun _ _ _ h => h) (Or.inl ⟨rfl, ?_⟩) hS ?_
          rotate_left
          · (intro w' hS'; (try dsimp only at hS'); dsimp only [zo194_4_26]; go_simp; try with_reducible rfl)
          simp only [Act.put, pA, pB, pC]
          refine tK (i := 27) (oi := zo194_4_27) (v := ?_) rfl (by kernel_rfl) (fun _ _ _ h => h) (Or.inl ⟨rfl, ?_⟩) hS ?_
          rotate_left
          · (intro w' hS'; (try dsimp only at hS'); dsimp only [zo194_4_27]; go_simp; try with_reducible rfl)
          simp only [Act.put, pA, pB, pC]
          refine tK (i := 28) (oi := zo194_4_28) (v := ?_) rfl (by kernel_rfl) (fun _ _ _ h => h) (Or.inl ⟨rfl, ?_⟩) hS ?_
          rotate_left
          · (intro w' hS'; (try dsimp only at hS'); dsimp only [zo194_4_28]; go_simp; try with_reducible rfl)
          simp only [Act.put, pA, pB, pC]
          refine tK (i := 29) (oi := zo194_4_29) (v := ?_) rfl (by kernel_rfl) (fun _ _ _ h => h) (Or.inl ⟨rfl, ?_⟩) hS ?_
          rotate_left
          · (intro w' hS'; (try dsimp only at hS'); dsimp only [zo194_4_29]; go_simp; try with_reducible rfl)
          simp only [Act.put, pA, pB, pC]
          refine wpAnyH_ready (rs := [30]) (by kernel_rfl) (by simp) ?_
          refine AllReadyH.cons (o := zo194_4_30) rfl (fun K hK => ?_) .nil
          refine step_call 197 #[.tmp 42] _ rfl rfl #[.pointer (some ⟨b, off + j, none⟩)] Tryz.call197 (by go_simp) (CL.out _ bb1 hS.2.2.1) ?_
          rintro e w2 ⟨rfl, n2, rfl⟩
          refine ⟨_, rfl, ?_⟩
          refine hK.out _ _ ?_ (fun hHeld => ?_)
          · exact hS
          clear hK K hHeld
          simp only [Act.put, pA, pB, pC]
          refine tK (i := 31) (oi := zo194_4_31) (v := ?_) rfl (by kernel_rfl) (fun _ _ _ h => h) (Or.inl ⟨rfl, ?_⟩) hS ?_
          rotate_left
          · (intro w' hS'; (try dsimp only at hS'); dsimp only [zo194_4_31]; go_simp; try with_reducible rfl)
          simp only [Act.put, pA, pB, pC]
          refine tK (i := 32) (oi := zo194_4_32) (v := ?_) rfl (by kernel_rfl) (fun _ _ _ h => h) (Or.inl ⟨rfl, ?_⟩) hS ?_
          rotate_left
          · (intro w' hS'; (try dsimp only at hS'); dsimp only [zo194_4_32]; go_simp; try with_reducible rfl)
          simp only [Act.put, pA, pB, pC]
          refine tK (i := 33) (oi := zo194_4_33) (v := ?_) rfl (by kernel_rfl) (fun _ _ _ h => h) (Or.inl ⟨rfl, ?_⟩) hS ?_
          rotate_left
          · (intro w' hS'; (try dsimp only at hS'); dsimp only [zo194_4_33]; go_simp; try with_reducible rfl)
          simp only [Act.put, pA, pB, pC]
          refine wpAnyH_done (by kernel_rfl) ?_ _
          go_wp2_with fail
          go_roundw
          case rel => exact ⟨k + 1, by omega, by go_num, HK, below_drewN (hb.drew.trans (bb1.mono hbs)) _⟩
          case measure => simp [intOf]; omega
  · obtain rfl : k = xs.length := by omega
    clear hr
    have HV : Hid (inkB xs = decide (xs.length ≤ 16)) := by show _ = _; rw [inkB, hok.out]; rfl
    go_wp2_with fail
    go_ret
    exact ⟨ret_boolI (by rw [HV.out, decide_eq_decide]; omega), hb⟩
end Go.Proofs.YtkfadfddhbpngaaGreat
