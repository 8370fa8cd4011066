/- The reference's own comparisons of ink and of stores. Conditions: none. -/
import Derived.Test.YtkfadfddhbpngaaGreatTkx
import Derived.Test.YtkfadfddhbpngaaGreatSmPx
import Derived.Test.YtkfadfddhbpngaaGreatTakeCallx
namespace Go.Proofs.YtkfadfddhbpngaaGreat
open Go Go.RowKit
abbrev zo79_6_0 : Oper := { dst := some 26, op := .move (.tmp 0), type := 143, pos := "l02_strokes.go:51", after := #[], guard := none }
abbrev zo79_6_1 : Oper := { dst := some 27, op := .nilCheck (.tmp 26), type := 0, pos := "l02_strokes.go:51", after := #[{ on := 0, ground := .data }], guard := none }
abbrev zo79_6_2 : Oper := { dst := some 28, op := .fieldAddr 64 (.tmp 27) 0, type := 0, pos := "l02_strokes.go:51", after := #[{ on := 1, ground := .data }], guard := none }
abbrev zo79_6_3 : Oper := { dst := some 29, op := .load 62 (.tmp 28), type := 62, pos := "l02_strokes.go:51", after := #[{ on := 2, ground := .data }], guard := none }
abbrev zo79_6_4 : Oper := { dst := some 30, op := .move (.tmp 5), type := 3, pos := "l02_strokes.go:51", after := #[], guard := none }
abbrev zo79_6_5 : Oper := { dst := some 31, op := .indexAddr 62 (.tmp 29) (.tmp 30), type := 0, pos := "l02_strokes.go:51", after := #[{ on := 3, ground := .data }, { on := 4, ground := .data }], guard := none }
abbrev zo79_6_6 : Oper := { dst := some 32, op := .move (.tmp 1), type := 143, pos := "l02_strokes.go:51", after := #[], guard := none }
abbrev zo79_6_7 : Oper := { dst := some 33, op := .nilCheck (.tmp 32), type := 0, pos := "l02_strokes.go:51", after := #[{ on := 6, ground := .data }], guard := none }
abbrev zo79_6_8 : Oper := { dst := some 34, op := .fieldAddr 64 (.tmp 33) 0, type := 0, pos := "l02_strokes.go:51", after := #[{ on := 7, ground := .data }], guard := none }
abbrev zo79_6_9 : Oper := { dst := some 35, op := .load 62 (.tmp 34), type := 62, pos := "l02_strokes.go:51", after := #[{ on := 8, ground := .data }], guard := none }
abbrev zo79_6_10 : Oper := { dst := some 36, op := .move (.tmp 5), type := 3, pos := "l02_strokes.go:51", after := #[], guard := none }
abbrev zo79_6_11 : Oper := { dst := some 37, op := .indexAddr 62 (.tmp 35) (.tmp 36), type := 0, pos := "l02_strokes.go:51", after := #[{ on := 9, ground := .data }, { on := 10, ground := .data }], guard := none }
abbrev zo79_6_12 : Oper := { dst := some 38, op := .call { callee := .value (.func 80), args := #[.tmp 31, .tmp 37], argTypes := #[145, 145] }, type := 4, pos := "l02_strokes.go:51", after := #[{ on := 5, ground := .data }, { on := 11, ground := .data }], guard := none }
abbrev zo79_6_13 : Oper := { dst := some 39, op := .unOp .not 4 (.tmp 38), type := 4, pos := "l02_strokes.go:51", after := #[{ on := 12, ground := .data }], guard := none }
abbrev zo76_6_0 : Oper := { dst := some 37, op := .move (.tmp 0), type := 135, pos := "l11_templates.go:47", after := #[], guard := none }
abbrev zo76_6_1 : Oper := { dst := some 38, op := .nilCheck (.tmp 37), type := 0, pos := "l11_templates.go:47", after := #[{ on := 0, ground := .data }], guard := none }
abbrev zo76_6_2 : Oper := { dst := some 39, op := .fieldAddr 52 (.tmp 38) 1, type := 0, pos := "l11_templates.go:47", after := #[{ on := 1, ground := .data }], guard := none }
abbrev zo76_6_3 : Oper := { dst := some 40, op := .load 50 (.tmp 39), type := 50, pos := "l11_templates.go:47", after := #[{ on := 2, ground := .data }], guard := none }
abbrev zo76_6_4 : Oper := { dst := some 41, op := .move (.tmp 5), type := 3, pos := "l11_templates.go:47", after := #[], guard := none }
abbrev zo76_6_5 : Oper := { dst := some 42, op := .indexAddr 50 (.tmp 40) (.tmp 41), type := 0, pos := "l11_templates.go:47", after := #[{ on := 3, ground := .data }, { on := 4, ground := .data }], guard := none }
abbrev zo76_6_6 : Oper := { dst := some 43, op := .fieldAddr 215 (.tmp 42) 0, type := 0, pos := "l11_templates.go:47", after := #[{ on := 5, ground := .data }], guard := none }
abbrev zo76_6_7 : Oper := { dst := some 44, op := .load 9 (.tmp 43), type := 9, pos := "l11_templates.go:47", after := #[{ on := 6, ground := .data }], guard := none }
abbrev zo76_6_8 : Oper := { dst := some 45, op := .move (.tmp 1), type := 135, pos := "l11_templates.go:47", after := #[], guard := none }
abbrev zo76_6_9 : Oper := { dst := some 46, op := .nilCheck (.tmp 45), type := 0, pos := "l11_templates.go:47", after := #[{ on := 8, ground := .data }], guard := none }
abbrev zo76_6_10 : Oper := { dst := some 47, op := .fieldAddr 52 (.tmp 46) 1, type := 0, pos := "l11_templates.go:47", after := #[{ on := 9, ground := .data }], guard := none }
abbrev zo76_6_11 : Oper := { dst := some 48, op := .load 50 (.tmp 47), type := 50, pos := "l11_templates.go:47", after := #[{ on := 10, ground := .data }], guard := none }
abbrev zo76_6_12 : Oper := { dst := some 49, op := .move (.tmp 5), type := 3, pos := "l11_templates.go:47", after := #[], guard := none }
abbrev zo76_6_13 : Oper := { dst := some 50, op := .indexAddr 50 (.tmp 48) (.tmp 49), type := 0, pos := "l11_templates.go:47", after := #[{ on := 11, ground := .data }, { on := 12, ground := .data }], guard := none }
abbrev zo76_6_14 : Oper := { dst := some 51, op := .fieldAddr 215 (.tmp 50) 0, type := 0, pos := "l11_templates.go:47", after := #[{ on := 13, ground := .data }], guard := none }
abbrev zo76_6_15 : Oper := { dst := some 52, op := .load 9 (.tmp 51), type := 9, pos := "l11_templates.go:47", after := #[{ on := 14, ground := .data }], guard := none }
abbrev zo76_6_16 : Oper := { dst := some 53, op := .binOp .neq 9 (.tmp 44) (.tmp 52) 9, type := 4, pos := "l11_templates.go:47", after := #[{ on := 7, ground := .data }, { on := 15, ground := .data }], guard := none }
abbrev zo76_6_17 : Oper := { dst := some 54, op := .move (.tmp 53), type := 4, pos := "l11_templates.go:47", after := #[{ on := 16, ground := .data }], guard := none }
abbrev zo76_6_18 : Oper := { dst := some 55, op := .move (.tmp 0), type := 135, pos := "l11_templates.go:47", after := #[{ on := 17, ground := .guard }], guard := some (17, false) }
abbrev zo76_6_19 : Oper := { dst := some 56, op := .nilCheck (.tmp 55), type := 0, pos := "l11_templates.go:47", after := #[{ on := 18, ground := .data }, { on := 17, ground := .guard }], guard := some (17, false) }
abbrev zo76_6_20 : Oper := { dst := some 57, op := .fieldAddr 52 (.tmp 56) 1, type := 0, pos := "l11_templates.go:47", after := #[{ on := 19, ground := .data }, { on := 17, ground := .guard }], guard := some (17, false) }
abbrev zo76_6_21 : Oper := { dst := some 58, op := .load 50 (.tmp 57), type := 50, pos := "l11_templates.go:47", after := #[{ on := 20, ground := .data }, { on := 17, ground := .guard }], guard := some (17, false) }
abbrev zo76_6_22 : Oper := { dst := some 59, op := .move (.tmp 5), type := 3, pos := "l11_templates.go:47", after := #[{ on := 17, ground := .guard }], guard := some (17, false) }
abbrev zo76_6_23 : Oper := { dst := some 60, op := .indexAddr 50 (.tmp 58) (.tmp 59), type := 0, pos := "l11_templates.go:47", after := #[{ on := 21, ground := .data }, { on := 22, ground := .data }, { on := 17, ground := .guard }], guard := some (17, false) }
abbrev zo76_6_24 : Oper := { dst := some 61, op := .fieldAddr 215 (.tmp 60) 1, type := 0, pos := "l11_templates.go:47", after := #[{ on := 23, ground := .data }, { on := 17, ground := .guard }], guard := some (17, false) }
abbrev zo76_6_25 : Oper := { dst := some 62, op := .load 213 (.tmp 61), type := 213, pos := "l11_templates.go:47", after := #[{ on := 24, ground := .data }, { on := 17, ground := .guard }], guard := some (17, false) }
abbrev zo76_6_26 : Oper := { dst := some 63, op := .move (.tmp 1), type := 135, pos := "l11_templates.go:47", after := #[{ on := 17, ground := .guard }], guard := some (17, false) }
abbrev zo76_6_27 : Oper := { dst := some 64, op := .nilCheck (.tmp 63), type := 0, pos := "l11_templates.go:47", after := #[{ on := 26, ground := .data }, { on := 17, ground := .guard }], guard := some (17, false) }
abbrev zo76_6_28 : Oper := { dst := some 65, op := .fieldAddr 52 (.tmp 64) 1, type := 0, pos := "l11_templates.go:47", after := #[{ on := 27, ground := .data }, { on := 17, ground := .guard }], guard := some (17, false) }
abbrev zo76_6_29 : Oper := { dst := some 66, op := .load 50 (.tmp 65), type := 50, pos := "l11_templates.go:47", after := #[{ on := 28, ground := .data }, { on := 17, ground := .guard }], guard := some (17, false) }
abbrev zo76_6_30 : Oper := { dst := some 67, op := .move (.tmp 5), type := 3, pos := "l11_templates.go:47", after := #[{ on := 17, ground := .guard }], guard := some (17, false) }
abbrev zo76_6_31 : Oper := { dst := some 68, op := .indexAddr 50 (.tmp 66) (.tmp 67), type := 0, pos := "l11_templates.go:47", after := #[{ on := 29, ground := .data }, { on := 30, ground := .data }, { on := 17, ground := .guard }], guard := some (17, false) }
abbrev zo76_6_32 : Oper := { dst := some 69, op := .fieldAddr 215 (.tmp 68) 1, type := 0, pos := "l11_templates.go:47", after := #[{ on := 31, ground := .data }, { on := 17, ground := .guard }], guard := some (17, false) }
abbrev zo76_6_33 : Oper := { dst := some 70, op := .load 213 (.tmp 69), type := 213, pos := "l11_templates.go:47", after := #[{ on := 32, ground := .data }, { on := 17, ground := .guard }], guard := some (17, false) }
abbrev zo76_6_34 : Oper := { dst := some 71, op := .call { callee := .value (.func 155), args := #[.tmp 62, .tmp 70], argTypes := #[213, 213] }, type := 4, pos := "l11_templates.go:47", after := #[{ on := 25, ground := .data }, { on := 33, ground := .data }, { on := 17, ground := .chain }, { on := 17, ground := .guard }], guard := some (17, false) }
abbrev zo76_6_35 : Oper := { dst := some 72, op := .unOp .not 4 (.tmp 71), type := 4, pos := "l11_templates.go:47", after := #[{ on := 34, ground := .data }, { on := 17, ground := .guard }], guard := some (17, false) }
abbrev zo76_6_36 : Oper := { dst := some 73, op := .pick (.tmp 54) (.const (.bool true)) (.tmp 72), type := 4, pos := "l11_templates.go:47", after := #[{ on := 17, ground := .data }, { on := 35, ground := .data }], guard := none }

set_option maxRecDepth 100000 in
set_option maxHeartbeats 4000000 in
theorem spec_l02Same_c {oa ob : Bool} {pa pb ea eb : TypeId} {xs ys : List PStroke} {v u : Value} {F G : List Nat} {g f g' f' : Nat} (w : World) (c0 : w.cell? ⟨g, f, none⟩ = some v) (c1 : w.cell? ⟨g', f', none⟩ = some u) (h : (pStrokes pa ea).rep oa w xs [v] F) (h' : (pStrokes pb eb).rep ob w ys [u] G) (hx : xs.length ≤ 1048576) (hy : ys.length ≤ 1048576) (hxe : ∀ l ∈ xs, l.length ≤ 1048576) (hye : ∀ l ∈ ys, l.length ≤ 1048576) :
 Calls Tryz.prog 79 #[.pointer (some ⟨g, f, none⟩), .pointer (some ⟨g', f', none⟩)] w (GivesB (decide (xs = ys)) w) := by
 obtain ⟨A, c, rfl, hc1, hc2, hr⟩ := pStrokes_open h
 obtain ⟨B, d, rfl, hd1, hd2, hs⟩ := pStrokes_open h'
 clear h h'
 by_cases hl : xs.length = ys.length
 · have hne : ((xs.length : Int) != (ys.length : Int)) = false := by simp [hl]
   have HL := Lib.hid hl
   clear hl
   go_enter Tryz.func79, Tryz.ntmps79
   go_wp2_with fail
   go_quiet (fail)
   go_wp2_with fail
   go_loopw [5] (fun i wr => ∃ k : Nat, k ≤ xs.length ∧ i = .int .i64 k ∧ (∀ j (hj : j < xs.length) (hj' : j < ys.length), j < k → xs[j] = ys[j]) ∧ ∃ m, wr = w.drewN m) (fun i _ => xs.length - (intOf i).toNat)
   case atStart => exact ⟨0, Nat.zero_le _, rfl, fun _ _ _ h => by omega, _, by first | rfl | exact World.drewN_drewN _ _ _ | exact (show (w.drewN 1).drewN _ = _ from World.drewN_drewN _ _ _) | exact (show ((w.drewN m).drewN 1) = _ from World.drewN_drewN _ _ _) | exact (show ((w.drewN m).drewN 1).drewN _ = _ from (World.drewN_drewN _ _ _).trans (World.drewN_drewN _ _ _))⟩
   case round =>
    obtain ⟨k, hk, rfl, hall, m, rfl⟩ := hrel
    by_cases hlt : k < xs.length
    · have hlt' : k < ys.length := by have := HL.out; omega
      have HA := Lib.hid hall
      obtain ⟨b, off, u1, F1, rfl, hbb, _, R1, _, h0⟩ := hr k hlt
      obtain ⟨b', off', u2, F2, rfl, hbb', _, R2, _, g0⟩ := hs k hlt'
      have L1 := hxe _ (List.getElem_mem hlt)
      have L2 := hye _ (List.getElem_mem hlt')
      have Q1 := Lib.hid R1
      have Q2 := Lib.hid R2
      have C := fun w' (q1 : (pPoints pa).rep oa w' xs[k] [u1] F1) (q2 : (pPoints pb).rep ob w' ys[k] [u2] F2) (x0 : w'.cell? ⟨b, off + k, none⟩ = some u1) (x1 : w'.cell? ⟨b', off' + k, none⟩ = some u2) => spec_l02SameStroke_c (g := b) (f := off + k) (g' := b') (f' := off' + k) w' x0 x1 q1 q2 L1 L2
      clear hr hs hall R1 R2
      have gx : (k : Int) < (xs.length : Int) := by omega
      have gy : (k : Int) < (ys.length : Int) := by omega
      by_cases hkk : xs[k] = ys[k]
      · simp only [decide_eq_true hkk] at C
        have HC := Lib.hid C
        have HK := Lib.hid hkk
        clear hkk C
        go_wp2_with fail
        have hS : (fun w' : World => w'.cell? ⟨g, f, none⟩ = some (.slice (some ⟨b, off, none⟩) xs.length c) ∧ w'.cell? ⟨g', f', none⟩ = some (.slice (some ⟨b', off', none⟩) ys.length d)) (w.drewN m).drew := ⟨c0, c1⟩
        dsimp only at hS
        refine wp_region_held_drew (S := (fun w' : World => w'.cell? ⟨g, f, none⟩ = some (.slice (some ⟨b, off, none⟩) xs.length c) ∧ w'.cell? ⟨g', f', none⟩ = some (.slice (some ⟨b', off', none⟩) ys.length d))) (by kernel_rfl) hS (fun _ => ?_)
        refine tK (i := 0) (oi := zo79_6_0) (v := ?_) rfl (by kernel_rfl) (fun _ _ _ h => h) (Or.inl ⟨rfl, ?_⟩) hS ?_
        rotate_left
        · (intro w' hS'; (try dsimp only at hS'); dsimp only [zo79_6_0]; go_simp; try with_reducible rfl)
        simp only [Act.put, pA, pB, pC]
        refine tK (i := 1) (oi := zo79_6_1) (v := ?_) rfl (by kernel_rfl) (fun _ _ _ h => h) (Or.inl ⟨rfl, ?_⟩) hS ?_
        rotate_left
        · (intro w' hS'; (try dsimp only at hS'); dsimp only [zo79_6_1]; go_simp; try with_reducible rfl)
        simp only [Act.put, pA, pB, pC]
        refine tK (i := 2) (oi := zo79_6_2) (v := ?_) rfl (by kernel_rfl) (fun _ _ _ h => h) (Or.inl ⟨rfl, ?_⟩) hS ?_
        rotate_left
        · (intro w' hS'; (try dsimp only at hS'); dsimp only [zo79_6_2]; go_simp; try with_reducible rfl)
        simp only [Act.put, pA, pB, pC]
        refine tK (i := 3) (oi := zo79_6_3) (v := ?_) rfl (by kernel_rfl) (fun _ _ _ h => h) (Or.inl ⟨rfl, ?_⟩) hS ?_
        rotate_left
        · (intro w' hS'; (try dsimp only at hS'); dsimp only [zo79_6_3]; go_simp; try with_reducible rfl)
        simp only [Act.put, pA, pB, pC]
        refine tK (i := 4) (oi := zo79_6_4) (v := ?_) rfl (by kernel_rfl) (fun _ _ _ h => h) (Or.inl ⟨rfl, ?_⟩) hS ?_
        rotate_left
        · (intro w' hS'; (try dsimp only at hS'); dsimp only [zo79_6_4]; go_simp; try with_reducible rfl)
        simp only [Act.put, pA, pB, pC]
        refine tK (i := 5) (oi := zo79_6_5) (v := ?_) rfl (by kernel_rfl) (fun _ _ _ h => h) (Or.inl ⟨rfl, ?_⟩) hS ?_
        rotate_left
        · (intro w' hS'; (try dsimp only at hS'); dsimp only [zo79_6_5]; go_simp; try with_reducible rfl)
        simp only [Act.put, pA, pB, pC]
        refine tK (i := 6) (oi := zo79_6_6) (v := ?_) rfl (by kernel_rfl) (fun _ _ _ h => h) (Or.inl ⟨rfl, ?_⟩) hS ?_
        rotate_left
        · (intro w' hS'; (try dsimp only at hS'); dsimp only [zo79_6_6]; go_simp; try with_reducible rfl)
        simp only [Act.put, pA, pB, pC]
        refine tK (i := 7) (oi := zo79_6_7) (v := ?_) rfl (by kernel_rfl) (fun _ _ _ h => h) (Or.inl ⟨rfl, ?_⟩) hS ?_
        rotate_left
        · (intro w' hS'; (try dsimp only at hS'); dsimp only [zo79_6_7]; go_simp; try with_reducible rfl)
        simp only [Act.put, pA, pB, pC]
        refine tK (i := 8) (oi := zo79_6_8) (v := ?_) rfl (by kernel_rfl) (fun _ _ _ h => h) (Or.inl ⟨rfl, ?_⟩) hS ?_
        rotate_left
        · (intro w' hS'; (try dsimp only at hS'); dsimp only [zo79_6_8]; go_simp; try with_reducible rfl)
        simp only [Act.put, pA, pB, pC]
        refine tK (i := 9) (oi := zo79_6_9) (v := ?_) rfl (by kernel_rfl) (fun _ _ _ h => h) (Or.inl ⟨rfl, ?_⟩) hS ?_
        rotate_left
        · (intro w' hS'; (try dsimp only at hS'); dsimp only [zo79_6_9]; go_simp; try with_reducible rfl)
        simp only [Act.put, pA, pB, pC]
        refine tK (i := 10) (oi := zo79_6_10) (v := ?_) rfl (by kernel_rfl) (fun _ _ _ h => h) (Or.inl ⟨rfl, ?_⟩) hS ?_
        rotate_left
        · (intro w' hS'; (try dsimp only at hS'); dsimp only [zo79_6_10]; go_simp; try with_reducible rfl)
        simp only [Act.put, pA, pB, pC]
        refine tK (i := 11) (oi := zo79_6_11) (v := ?_) rfl (by kernel_rfl) (fun _ _ _ h => h) (Or.inl ⟨rfl, ?_⟩) hS ?_
        rotate_left
        · (intro w' hS'; (try dsimp only at hS'); dsimp only [zo79_6_11]; go_simp; try with_reducible rfl)
        simp only [Act.put, pA, pB, pC]
        refine wpAnyH_ready (rs := [12]) (by kernel_rfl) (by simp) ?_
        refine AllReadyH.cons (o := zo79_6_12) rfl (fun K hK => ?_) .nil
        refine step_call 80 #[.tmp 31, .tmp 37] _ rfl rfl #[.pointer (some ⟨b, off + k, none⟩), .pointer (some ⟨b', off' + k, none⟩)] Tryz.call80 (by go_simp) (HC.out _ (Q1.out.drewN m).drew (Q2.out.drewN m).drew h0 g0) ?_
        rintro e w1 ⟨rfl, n1, rfl⟩
        refine ⟨_, rfl, ?_⟩
        replace hS : (fun w' : World => w'.cell? ⟨g, f, none⟩ = some (.slice (some ⟨b, off, none⟩) xs.length c) ∧ w'.cell? ⟨g', f', none⟩ = some (.slice (some ⟨b', off', none⟩) ys.length d)) (((w.drewN m).drew).drewN n1) := hS
        dsimp only at hS
        refine hK.out _ _ ?_ (fun hHeld => ?_)
        · exact hS
        clear hK K hHeld
        simp only [Act.put, pA, pB, pC]
        refine tK (i := 13) (oi := zo79_6_13) (v := ?_) rfl (by kernel_rfl) (fun _ _ _ h => h) (Or.inl ⟨rfl, ?_⟩) hS ?_
        rotate_left
        · (intro w' hS'; (try dsimp only at hS'); dsimp only [zo79_6_13]; go_simp; try with_reducible rfl)
        simp only [Act.put, pA, pB, pC]
        refine wpAnyH_done (by kernel_rfl) ?_ _
        go_wp2_with fail
        go_roundw
        case rel =>
         refine ⟨k + 1, by omega, by go_num, fun j hj hj' hjk => ?_, _, by first | rfl | exact World.drewN_drewN _ _ _ | exact (show (w.drewN 1).drewN _ = _ from World.drewN_drewN _ _ _) | exact (show ((w.drewN m).drewN 1) = _ from World.drewN_drewN _ _ _) | exact (show ((w.drewN m).drewN 1).drewN _ = _ from (World.drewN_drewN _ _ _).trans (World.drewN_drewN _ _ _))⟩
         by_cases e : j = k
         · subst e; exact HK.out
         · exact HA.out j hj hj' (by omega)
        case measure => simp [intOf]; omega
      · simp only [decide_eq_false hkk] at C
        have HC := Lib.hid C
        have HK := Lib.hid hkk
        clear hkk C
        go_wp2_with fail
        have hS : (fun w' : World => w'.cell? ⟨g, f, none⟩ = some (.slice (some ⟨b, off, none⟩) xs.length c) ∧ w'.cell? ⟨g', f', none⟩ = some (.slice (some ⟨b', off', none⟩) ys.length d)) (w.drewN m).drew := ⟨c0, c1⟩
        dsimp only at hS
        refine wp_region_held_drew (S := (fun w' : World => w'.cell? ⟨g, f, none⟩ = some (.slice (some ⟨b, off, none⟩) xs.length c) ∧ w'.cell? ⟨g', f', none⟩ = some (.slice (some ⟨b', off', none⟩) ys.length d))) (by kernel_rfl) hS (fun _ => ?_)
        refine tK (i := 0) (oi := zo79_6_0) (v := ?_) rfl (by kernel_rfl) (fun _ _ _ h => h) (Or.inl ⟨rfl, ?_⟩) hS ?_
        rotate_left
        · (intro w' hS'; (try dsimp only at hS'); dsimp only [zo79_6_0]; go_simp; try with_reducible rfl)
        simp only [Act.put, pA, pB, pC]
        refine tK (i := 1) (oi := zo79_6_1) (v := ?_) rfl (by kernel_rfl) (fun _ _ _ h => h) (Or.inl ⟨rfl, ?_⟩) hS ?_
        rotate_left
        · (intro w' hS'; (try dsimp only at hS'); dsimp only [zo79_6_1]; go_simp; try with_reducible rfl)
        simp only [Act.put, pA, pB, pC]
        refine tK (i := 2) (oi := zo79_6_2) (v := ?_) rfl (by kernel_rfl) (fun _ _ _ h => h) (Or.inl ⟨rfl, ?_⟩) hS ?_
        rotate_left
        · (intro w' hS'; (try dsimp only at hS'); dsimp only [zo79_6_2]; go_simp; try with_reducible rfl)
        simp only [Act.put, pA, pB, pC]
        refine tK (i := 3) (oi := zo79_6_3) (v := ?_) rfl (by kernel_rfl) (fun _ _ _ h => h) (Or.inl ⟨rfl, ?_⟩) hS ?_
        rotate_left
        · (intro w' hS'; (try dsimp only at hS'); dsimp only [zo79_6_3]; go_simp; try with_reducible rfl)
        simp only [Act.put, pA, pB, pC]
        refine tK (i := 4) (oi := zo79_6_4) (v := ?_) rfl (by kernel_rfl) (fun _ _ _ h => h) (Or.inl ⟨rfl, ?_⟩) hS ?_
        rotate_left
        · (intro w' hS'; (try dsimp only at hS'); dsimp only [zo79_6_4]; go_simp; try with_reducible rfl)
        simp only [Act.put, pA, pB, pC]
        refine tK (i := 5) (oi := zo79_6_5) (v := ?_) rfl (by kernel_rfl) (fun _ _ _ h => h) (Or.inl ⟨rfl, ?_⟩) hS ?_
        rotate_left
        · (intro w' hS'; (try dsimp only at hS'); dsimp only [zo79_6_5]; go_simp; try with_reducible rfl)
        simp only [Act.put, pA, pB, pC]
        refine tK (i := 6) (oi := zo79_6_6) (v := ?_) rfl (by kernel_rfl) (fun _ _ _ h => h) (Or.inl ⟨rfl, ?_⟩) hS ?_
        rotate_left
        · (intro w' hS'; (try dsimp only at hS'); dsimp only [zo79_6_6]; go_simp; try with_reducible rfl)
        simp only [Act.put, pA, pB, pC]
        refine tK (i := 7) (oi := zo79_6_7) (v := ?_) rfl (by kernel_rfl) (fun _ _ _ h => h) (Or.inl ⟨rfl, ?_⟩) hS ?_
        rotate_left
        · (intro w' hS'; (try dsimp only at hS'); dsimp only [zo79_6_7]; go_simp; try with_reducible rfl)
        simp only [Act.put, pA, pB, pC]
        refine tK (i := 8) (oi := zo79_6_8) (v := ?_) rfl (by kernel_rfl) (fun _ _ _ h => h) (Or.inl ⟨rfl, ?_⟩) hS ?_
        rotate_left
        · (intro w' hS'; (try dsimp only at hS'); dsimp only [zo79_6_8]; go_simp; try with_reducible rfl)
        simp only [Act.put, pA, pB, pC]
        refine tK (i := 9) (oi := zo79_6_9) (v := ?_) rfl (by kernel_rfl) (fun _ _ _ h => h) (Or.inl ⟨rfl, ?_⟩) hS ?_
        rotate_left
        · (intro w' hS'; (try dsimp only at hS'); dsimp only [zo79_6_9]; go_simp; try with_reducible rfl)
        simp only [Act.put, pA, pB, pC]
        refine tK (i := 10) (oi := zo79_6_10) (v := ?_) rfl (by kernel_rfl) (fun _ _ _ h => h) (Or.inl ⟨rfl, ?_⟩) hS ?_
        rotate_left
        · (intro w' hS'; (try dsimp only at hS'); dsimp only [zo79_6_10]; go_simp; try with_reducible rfl)
        simp only [Act.put, pA, pB, pC]
        refine tK (i := 11) (oi := zo79_6_11) (v := ?_) rfl (by kernel_rfl) (fun _ _ _ h => h) (Or.inl ⟨rfl, ?_⟩) hS ?_
        rotate_left
        · (intro w' hS'; (try dsimp only at hS'); dsimp only [zo79_6_11]; go_simp; try with_reducible rfl)
        simp only [Act.put, pA, pB, pC]
        refine wpAnyH_ready (rs := [12]) (by kernel_rfl) (by simp) ?_
        refine AllReadyH.cons (o := zo79_6_12) rfl (fun K hK => ?_) .nil
        refine step_call 80 #[.tmp 31, .tmp 37] _ rfl rfl #[.pointer (some ⟨b, off + k, none⟩), .pointer (some ⟨b', off' + k, none⟩)] Tryz.call80 (by go_simp) (HC.out _ (Q1.out.drewN m).drew (Q2.out.drewN m).drew h0 g0) ?_
        rintro e w1 ⟨rfl, n1, rfl⟩
        refine ⟨_, rfl, ?_⟩
        replace hS : (fun w' : World => w'.cell? ⟨g, f, none⟩ = some (.slice (some ⟨b, off, none⟩) xs.length c) ∧ w'.cell? ⟨g', f', none⟩ = some (.slice (some ⟨b', off', none⟩) ys.length d)) (((w.drewN m).drew).drewN n1) := hS
        dsimp only at hS
        refine hK.out _ _ ?_ (fun hHeld => ?_)
        · exact hS
        clear hK K hHeld
        simp only [Act.put, pA, pB, pC]
        refine tK (i := 13) (oi := zo79_6_13) (v := ?_) rfl (by kernel_rfl) (fun _ _ _ h => h) (Or.inl ⟨rfl, ?_⟩) hS ?_
        rotate_left
        · (intro w' hS'; (try dsimp only at hS'); dsimp only [zo79_6_13]; go_simp; try with_reducible rfl)
        simp only [Act.put, pA, pB, pC]
        refine wpAnyH_done (by kernel_rfl) ?_ _
        go_wp2_with fail
        go_ret
        have hne : ¬ xs = ys := fun e => by subst e; exact HK.out rfl
        exact ⟨by simp [hne], _, by first | rfl | exact World.drewN_drewN _ _ _ | exact (show (w.drewN 1).drewN _ = _ from World.drewN_drewN _ _ _) | exact (show ((w.drewN m).drewN 1) = _ from World.drewN_drewN _ _ _) | exact (show ((w.drewN m).drewN 1).drewN _ = _ from (World.drewN_drewN _ _ _).trans (World.drewN_drewN _ _ _))⟩
    · obtain rfl : k = xs.length := by omega
      have heq : xs = ys := List.ext_getElem HL.out (fun j h1 h2 => hall j h1 h2 h1)
      clear hall
      go_wp2_with fail
      go_ret
      exact ⟨by simp [heq], _, rfl⟩
 · have hne : ((xs.length : Int) != (ys.length : Int)) = true := by rw [bne_iff_ne]; omega
   have hxy : ¬ xs = ys := fun e => hl (by rw [e])
   have HL := Lib.hid hxy
   clear hl hxy
   go_enter Tryz.func79, Tryz.ntmps79
   go_wp2_with fail
   go_quiet (fail)
   go_wp2_with fail
   go_ret
   exact ⟨by simp [HL.out], _, by first | rfl | exact World.drewN_drewN _ _ _ | exact (show (w.drewN 1).drewN _ = _ from World.drewN_drewN _ _ _) | exact (show ((w.drewN m).drewN 1) = _ from World.drewN_drewN _ _ _) | exact (show ((w.drewN m).drewN 1).drewN _ = _ from (World.drewN_drewN _ _ _).trans (World.drewN_drewN _ _ _))⟩
set_option maxRecDepth 100000 in
set_option maxHeartbeats 4000000 in
theorem spec_l11Same_c {oa ob : Bool} {pa pb ea eb : TypeId} {n m' : Int} {xs ys : List PTemp} {v u : Value} {F G : List Nat} {g f g' f' : Nat} (w : World) (n0 : w.cell? ⟨g, f, none⟩ = some (.int .i64 n)) (n1 : w.cell? ⟨g', f', none⟩ = some (.int .i64 m')) (c0 : w.cell? ⟨g, f + 1, none⟩ = some v) (c1 : w.cell? ⟨g', f' + 1, none⟩ = some u) (h : (pTemps pa ea).rep oa w xs [v] F) (h' : (pTemps pb eb).rep ob w ys [u] G) (hx : xs.length ≤ 1048576) (hy : ys.length ≤ 1048576) (hxe : ∀ l ∈ xs, l.feats.length ≤ 1048576) (hye : ∀ l ∈ ys, l.feats.length ≤ 1048576) :
 Calls Tryz.prog 76 #[.pointer (some ⟨g, f, none⟩), .pointer (some ⟨g', f', none⟩)] w (GivesB (decide (n = m') && decide (xs = ys)) w) := by
 obtain ⟨A, c, rfl, hc1, hc2, hr⟩ := pTemps_open h
 obtain ⟨B, d, rfl, hd1, hd2, hs⟩ := pTemps_open h'
 clear h h'
 by_cases nm : n = m'
 case neg =>
  have gn : (n != m') = true := by rw [bne_iff_ne]; exact nm
  have NM := Lib.hid nm
  clear nm
  go_enter Tryz.func76, Tryz.ntmps76
  go_wp2_with fail
  go_quiet (fail)
  go_wp2_with fail
  go_ret
  exact ⟨by simp [NM.out], _, by first | rfl | exact World.drewN_drewN _ _ _ | exact (show (w.drewN 1).drewN _ = _ from World.drewN_drewN _ _ _) | exact (show ((w.drewN m).drewN 1) = _ from World.drewN_drewN _ _ _) | exact (show ((w.drewN m).drewN 1).drewN _ = _ from (World.drewN_drewN _ _ _).trans (World.drewN_drewN _ _ _))⟩
 have gn : (n != m') = false := by simp [nm]
 by_cases hl : xs.length = ys.length
 · have hne : ((xs.length : Int) != (ys.length : Int)) = false := by simp [hl]
   have HL := Lib.hid hl
   clear hl
   go_enter Tryz.func76, Tryz.ntmps76
   go_wp2_with fail
   go_quiet (fail)
   go_wp2_with fail
   go_loopw [5] (fun i wr => ∃ k : Nat, k ≤ xs.length ∧ i = .int .i64 k ∧ (∀ j (hj : j < xs.length) (hj' : j < ys.length), j < k → xs[j] = ys[j]) ∧ ∃ m, wr = w.drewN m) (fun i _ => xs.length - (intOf i).toNat)
   case atStart => exact ⟨0, Nat.zero_le _, rfl, fun _ _ _ h => by omega, _, by first | rfl | exact World.drewN_drewN _ _ _ | exact (show (w.drewN 1).drewN _ = _ from World.drewN_drewN _ _ _) | exact (show ((w.drewN m).drewN 1) = _ from World.drewN_drewN _ _ _) | exact (show ((w.drewN m).drewN 1).drewN _ = _ from (World.drewN_drewN _ _ _).trans (World.drewN_drewN _ _ _))⟩
   case round =>
    obtain ⟨k, hk, rfl, hall, m, rfl⟩ := hrel
    by_cases hlt : k < xs.length
    · have hlt' : k < ys.length := by have := HL.out; omega
      have HA := Lib.hid hall
      obtain ⟨b, off, u1, F1, rfl, hbb, _, _, R1, _, h0, h1⟩ := hr k hlt
      obtain ⟨b', off', u2, F2, rfl, hbb', _, _, R2, _, g0, g1⟩ := hs k hlt'
      have L1 := hxe _ (List.getElem_mem hlt)
      have L2 := hye _ (List.getElem_mem hlt')
      obtain ⟨A1, k1, rfl⟩ := slice_len R1
      obtain ⟨A2, k2, rfl⟩ := slice_len R2
      have Q1 := Lib.hid R1
      have Q2 := Lib.hid R2
      have C := fun w' (q1 : (pFeats pa).rep oa w' xs[k].feats [.slice A1 xs[k].feats.length k1] F1) (q2 : (pFeats pb).rep ob w' ys[k].feats [.slice A2 ys[k].feats.length k2] F2) => spec_l11SameFeats_c w' q1 q2 L1 L2
      clear hr hs hall R1 R2
      have gx : (k : Int) < (xs.length : Int) := by omega
      have gy : (k : Int) < (ys.length : Int) := by omega
      have te := temp_eq xs[k] ys[k]
      have gl : (!(xs[k].label.toList == ys[k].label.toList)) = !(decide (xs[k].label = ys[k].label)) := by rw [str_eq]
      have gl2 := str_eq xs[k].label ys[k].label
      by_cases hla : xs[k].label = ys[k].label
      case neg =>
       have HK : Hid (¬ xs[k] = ys[k]) := fun e => hla (by rw [e])
       rw [decide_eq_false hla] at gl gl2
       clear hla te C
       go_wp2_with fail
       have hS : (fun w' : World => w'.cell? ⟨g, f + 1, none⟩ = some (.slice (some ⟨b, off, none⟩) xs.length c) ∧ w'.cell? ⟨g', f' + 1, none⟩ = some (.slice (some ⟨b', off', none⟩) ys.length d) ∧ w'.cell? ⟨b, off + k * 2, none⟩ = some (.string xs[k].label) ∧ w'.cell? ⟨b, off + k * 2 + 1, none⟩ = some (.slice A1 xs[k].feats.length k1) ∧ w'.cell? ⟨b', off' + k * 2, none⟩ = some (.string ys[k].label) ∧ w'.cell? ⟨b', off' + k * 2 + 1, none⟩ = some (.slice A2 ys[k].feats.length k2)) (w.drewN m).drew := ⟨c0, c1, h0, h1, g0, g1⟩
       dsimp only at hS
       refine wp_region_held_drew (S := (fun w' : World => w'.cell? ⟨g, f + 1, none⟩ = some (.slice (some ⟨b, off, none⟩) xs.length c) ∧ w'.cell? ⟨g', f' + 1, none⟩ = some (.slice (some ⟨b', off', none⟩) ys.length d) ∧ w'.cell? ⟨b, off + k * 2, none⟩ = some (.string xs[k].label) ∧ w'.cell? ⟨b, off + k * 2 + 1, none⟩ = some (.slice A1 xs[k].feats.length k1) ∧ w'.cell? ⟨b', off' + k * 2, none⟩ = some (.string ys[k].label) ∧ w'.cell? ⟨b', off' + k * 2 + 1, none⟩ = some (.slice A2 ys[k].feats.length k2))) (by kernel_rfl) hS (fun _ => ?_)
       refine tK (i := 0) (oi := zo76_6_0) (v := ?_) rfl (by kernel_rfl) (fun _ _ _ h => h) (Or.inl ⟨rfl, ?_⟩) hS ?_
       rotate_left
       · (intro w' hS'; (try dsimp only at hS'); dsimp only [zo76_6_0]; go_simp; try with_reducible rfl)
       simp only [Act.put, pA, pB, pC]
       refine tK (i := 1) (oi := zo76_6_1) (v := ?_) rfl (by kernel_rfl) (fun _ _ _ h => h) (Or.inl ⟨rfl, ?_⟩) hS ?_
       rotate_left
       · (intro w' hS'; (try dsimp only at hS'); dsimp only [zo76_6_1]; go_simp; try with_reducible rfl)
       simp only [Act.put, pA, pB, pC]
       refine tK (i := 2) (oi := zo76_6_2) (v := ?_) rfl (by kernel_rfl) (fun _ _ _ h => h) (Or.inl ⟨rfl, ?_⟩) hS ?_
       rotate_left
       · (intro w' hS'; (try dsimp only at hS'); dsimp only [zo76_6_2]; go_simp; try with_reducible rfl)
       simp only [Act.put, pA, pB, pC]
       refine tK (i := 3) (oi := zo76_6_3) (v := ?_) rfl (by kernel_rfl) (fun _ _ _ h => h) (Or.inl ⟨rfl, ?_⟩) hS ?_
       rotate_left
       · (intro w' hS'; (try dsimp only at hS'); dsimp only [zo76_6_3]; go_simp; try with_reducible rfl)
       simp only [Act.put, pA, pB, pC]
       refine tK (i := 4) (oi := zo76_6_4) (v := ?_) rfl (by kernel_rfl) (fun _ _ _ h => h) (Or.inl ⟨rfl, ?_⟩) hS ?_
       rotate_left
       · (intro w' hS'; (try dsimp only at hS'); dsimp only [zo76_6_4]; go_simp; try with_reducible rfl)
       simp only [Act.put, pA, pB, pC]
       refine tK (i := 5) (oi := zo76_6_5) (v := ?_) rfl (by kernel_rfl) (fun _ _ _ h => h) (Or.inl ⟨rfl, ?_⟩) hS ?_
       rotate_left
       · (intro w' hS'; (try dsimp only at hS'); dsimp only [zo76_6_5]; go_simp; try with_reducible rfl)
       simp only [Act.put, pA, pB, pC]
       refine tK (i := 6) (oi := zo76_6_6) (v := ?_) rfl (by kernel_rfl) (fun _ _ _ h => h) (Or.inl ⟨rfl, ?_⟩) hS ?_
       rotate_left
       · (intro w' hS'; (try dsimp only at hS'); dsimp only [zo76_6_6]; go_simp; try with_reducible rfl)
       simp only [Act.put, pA, pB, pC]
       refine tK (i := 7) (oi := zo76_6_7) (v := ?_) rfl (by kernel_rfl) (fun _ _ _ h => h) (Or.inl ⟨rfl, ?_⟩) hS ?_
       rotate_left
       · (intro w' hS'; (try dsimp only at hS'); dsimp only [zo76_6_7]; go_simp; try with_reducible rfl)
       simp only [Act.put, pA, pB, pC]
       refine tK (i := 8) (oi := zo76_6_8) (v := ?_) rfl (by kernel_rfl) (fun _ _ _ h => h) (Or.inl ⟨rfl, ?_⟩) hS ?_
       rotate_left
       · (intro w' hS'; (try dsimp only at hS'); dsimp only [zo76_6_8]; go_simp; try with_reducible rfl)
       simp only [Act.put, pA, pB, pC]
       refine tK (i := 9) (oi := zo76_6_9) (v := ?_) rfl (by kernel_rfl) (fun _ _ _ h => h) (Or.inl ⟨rfl, ?_⟩) hS ?_
       rotate_left
       · (intro w' hS'; (try dsimp only at hS'); dsimp only [zo76_6_9]; go_simp; try with_reducible rfl)
       simp only [Act.put, pA, pB, pC]
       refine tK (i := 10) (oi := zo76_6_10) (v := ?_) rfl (by kernel_rfl) (fun _ _ _ h => h) (Or.inl ⟨rfl, ?_⟩) hS ?_
       rotate_left
       · (intro w' hS'; (try dsimp only at hS'); dsimp only [zo76_6_10]; go_simp; try with_reducible rfl)
       simp only [Act.put, pA, pB, pC]
       refine tK (i := 11) (oi := zo76_6_11) (v := ?_) rfl (by kernel_rfl) (fun _ _ _ h => h) (Or.inl ⟨rfl, ?_⟩) hS ?_
       rotate_left
       · (intro w' hS'; (try dsimp only at hS'); dsimp only [zo76_6_11]; go_simp; try with_reducible rfl)
       simp only [Act.put, pA, pB, pC]
       refine tK (i := 12) (oi := zo76_6_12) (v := ?_) rfl (by kernel_rfl) (fun _ _ _ h => h) (Or.inl ⟨rfl, ?_⟩) hS ?_
       rotate_left
       · (intro w' hS'; (try dsimp only at hS'); dsimp only [zo76_6_12]; go_simp; try with_reducible rfl)
       simp only [Act.put, pA, pB, pC]
       refine tK (i := 13) (oi := zo76_6_13) (v := ?_) rfl (by kernel_rfl) (fun _ _ _ h => h) (Or.inl ⟨rfl, ?_⟩) hS ?_
       rotate_left
       · (intro w' hS'; (try dsimp only at hS'); dsimp only [zo76_6_13]; go_simp; try with_reducible rfl)
       simp only [Act.put, pA, pB, pC]
       refine tK (i := 14) (oi := zo76_6_14) (v := ?_) rfl (by kernel_rfl) (fun _ _ _ h => h) (Or.inl ⟨rfl, ?_⟩) hS ?_
       rotate_left
       · (intro w' hS'; (try dsimp only at hS'); dsimp only [zo76_6_14]; go_simp; try with_reducible rfl)
       simp only [Act.put, pA, pB, pC]
       refine tK (i := 15) (oi := zo76_6_15) (v := ?_) rfl (by kernel_rfl) (fun _ _ _ h => h) (Or.inl ⟨rfl, ?_⟩) hS ?_
       rotate_left
       · (intro w' hS'; (try dsimp only at hS'); dsimp only [zo76_6_15]; go_simp; try with_reducible rfl)
       simp only [Act.put, pA, pB, pC]
       refine tK (i := 16) (oi := zo76_6_16) (v := ?_) rfl (by kernel_rfl) (fun _ _ _ h => h) (Or.inl ⟨rfl, ?_⟩) hS ?_
       rotate_left
       · (intro w' hS'; (try dsimp only at hS'); dsimp only [zo76_6_16]; go_simp; try with_reducible rfl)
       simp only [Act.put, pA, pB, pC]
       refine tK (i := 17) (oi := zo76_6_17) (v := ?_) rfl (by kernel_rfl) (fun _ _ _ h => h) (Or.inl ⟨rfl, ?_⟩) hS ?_
       rotate_left
       · (intro w' hS'; (try dsimp only at hS'); dsimp only [zo76_6_17]; go_simp; try with_reducible rfl)
       simp only [Act.put, pA, pB, pC]
       refine tK (i := 18) (oi := zo76_6_18) rfl (by kernel_rfl) (fun _ _ _ h => h) (Or.inr ⟨rfl, rfl⟩) hS ?_
       simp only [Act.put, pA, pB, pC]
       refine tK (i := 19) (oi := zo76_6_19) rfl (by kernel_rfl) (fun _ _ _ h => h) (Or.inr ⟨rfl, rfl⟩) hS ?_
       simp only [Act.put, pA, pB, pC]
       refine tK (i := 20) (oi := zo76_6_20) rfl (by kernel_rfl) (fun _ _ _ h => h) (Or.inr ⟨rfl, rfl⟩) hS ?_
       simp only [Act.put, pA, pB, pC]
       refine tK (i := 21) (oi := zo76_6_21) rfl (by kernel_rfl) (fun _ _ _ h => h) (Or.inr ⟨rfl, rfl⟩) hS ?_
       simp only [Act.put, pA, pB, pC]
       refine tK (i := 22) (oi := zo76_6_22) rfl (by kernel_rfl) (fun _ _ _ h => h) (Or.inr ⟨rfl, rfl⟩) hS ?_
       simp only [Act.put, pA, pB, pC]
       refine tK (i := 23) (oi := zo76_6_23) rfl (by kernel_rfl) (fun _ _ _ h => h) (Or.inr ⟨rfl, rfl⟩) hS ?_
       simp only [Act.put, pA, pB, pC]
       refine tK (i := 24) (oi := zo76_6_24) rfl (by kernel_rfl) (fun _ _ _ h => h) (Or.inr ⟨rfl, rfl⟩) hS ?_
       simp only [Act.put, pA, pB, pC]
       refine tK (i := 25) (oi := zo76_6_25) rfl (by kernel_rfl) (fun _ _ _ h => h) (Or.inr ⟨rfl, rfl⟩) hS ?_
       simp only [Act.put, pA, pB, pC]
       refine tK (i := 26) (oi := zo76_6_26) rfl (by kernel_rfl) (fun _ _ _ h => h) (Or.inr ⟨rfl, rfl⟩) hS ?_
       simp only [Act.put, pA, pB, pC]
       refine tK (i := 27) (oi := zo76_6_27) rfl (by kernel_rfl) (fun _ _ _ h => h) (Or.inr ⟨rfl, rfl⟩) hS ?_
       simp only [Act.put, pA, pB, pC]
       refine tK (i := 28) (oi := zo76_6_28) rfl (by kernel_rfl) (fun _ _ _ h => h) (Or.inr ⟨rfl, rfl⟩) hS ?_
       simp only [Act.put, pA, pB, pC]
       refine tK (i := 29) (oi := zo76_6_29) rfl (by kernel_rfl) (fun _ _ _ h => h) (Or.inr ⟨rfl, rfl⟩) hS ?_
       simp only [Act.put, pA, pB, pC]
       refine tK (i := 30) (oi := zo76_6_30) rfl (by kernel_rfl) (fun _ _ _ h => h) (Or.inr ⟨rfl, rfl⟩) hS ?_
       simp only [Act.put, pA, pB, pC]
       refine tK (i := 31) (oi := zo76_6_31) rfl (by kernel_rfl) (fun _ _ _ h => h) (Or.inr ⟨rfl, rfl⟩) hS ?_
       simp only [Act.put, pA, pB, pC]
       refine tK (i := 32) (oi := zo76_6_32) rfl (by kernel_rfl) (fun _ _ _ h => h) (Or.inr ⟨rfl, rfl⟩) hS ?_
       simp only [Act.put, pA, pB, pC]
       refine tK (i := 33) (oi := zo76_6_33) rfl (by kernel_rfl) (fun _ _ _ h => h) (Or.inr ⟨rfl, rfl⟩) hS ?_
       simp only [Act.put, pA, pB, pC]
       refine tK (i := 34) (oi := zo76_6_34) rfl (by kernel_rfl) (fun _ _ _ h => h) (Or.inr ⟨rfl, rfl⟩) hS ?_
       simp only [Act.put, pA, pB, pC]
       refine tK (i := 35) (oi := zo76_6_35) rfl (by kernel_rfl) (fun _ _ _ h => h) (Or.inr ⟨rfl, rfl⟩) hS ?_
       simp only [Act.put, pA, pB, pC]
       refine tK (i := 36) (oi := zo76_6_36) (v := ?_) rfl (by kernel_rfl) (fun _ _ _ h => h) (Or.inl ⟨rfl, ?_⟩) hS ?_
       rotate_left
       · (intro w' hS'; (try dsimp only at hS'); dsimp only [zo76_6_36]; go_simp; try with_reducible rfl)
       simp only [Act.put, pA, pB, pC]
       refine wpAnyH_done (by kernel_rfl) ?_ _
       go_wp2_with fail
       go_ret
       have hne : ¬ xs = ys := fun e => by subst e; exact HK.out rfl
       exact ⟨by simp [hne, nm], _, by first | rfl | exact World.drewN_drewN _ _ _ | exact (show (w.drewN 1).drewN _ = _ from World.drewN_drewN _ _ _) | exact (show ((w.drewN m).drewN 1) = _ from World.drewN_drewN _ _ _) | exact (show ((w.drewN m).drewN 1).drewN _ = _ from (World.drewN_drewN _ _ _).trans (World.drewN_drewN _ _ _))⟩
      rw [decide_eq_true hla] at gl gl2 te
      by_cases hkk : xs[k].feats = ys[k].feats
      · simp only [decide_eq_true hkk] at C te
        have HC := Lib.hid C
        have HK : Hid (xs[k] = ys[k]) := of_decide_eq_true (p := xs[k] = ys[k]) te
        clear hkk C te hla
        go_wp2_with fail
        have hS : (fun w' : World => w'.cell? ⟨g, f + 1, none⟩ = some (.slice (some ⟨b, off, none⟩) xs.length c) ∧ w'.cell? ⟨g', f' + 1, none⟩ = some (.slice (some ⟨b', off', none⟩) ys.length d) ∧ w'.cell? ⟨b, off + k * 2, none⟩ = some (.string xs[k].label) ∧ w'.cell? ⟨b, off + k * 2 + 1, none⟩ = some (.slice A1 xs[k].feats.length k1) ∧ w'.cell? ⟨b', off' + k * 2, none⟩ = some (.string ys[k].label) ∧ w'.cell? ⟨b', off' + k * 2 + 1, none⟩ = some (.slice A2 ys[k].feats.length k2)) (w.drewN m).drew := ⟨c0, c1, h0, h1, g0, g1⟩
        dsimp only at hS
        refine wp_region_held_drew (S := (fun w' : World => w'.cell? ⟨g, f + 1, none⟩ = some (.slice (some ⟨b, off, none⟩) xs.length c) ∧ w'.cell? ⟨g', f' + 1, none⟩ = some (.slice (some ⟨b', off', none⟩) ys.length d) ∧ w'.cell? ⟨b, off + k * 2, none⟩ = some (.string xs[k].label) ∧ w'.cell? ⟨b, off + k * 2 + 1, none⟩ = some (.slice A1 xs[k].feats.length k1) ∧ w'.cell? ⟨b', off' + k * 2, none⟩ = some (.string ys[k].label) ∧ w'.cell? ⟨b', off' + k * 2 + 1, none⟩ = some (.slice A2 ys[k].feats.length k2))) (by kernel_rfl) hS (fun _ => ?_)
        refine tK (i := 0) (oi := zo76_6_0) (v := ?_) rfl (by kernel_rfl) (fun _ _ _ h => h) (Or.inl ⟨rfl, ?_⟩) hS ?_
        rotate_left
        · (intro w' hS'; (try dsimp only at hS'); dsimp only [zo76_6_0]; go_simp; try with_reducible rfl)
        simp only [Act.put, pA, pB, pC]
        refine tK (i := 1) (oi := zo76_6_1) (v := ?_) rfl (by kernel_rfl) (fun _ _ _ h => h) (Or.inl ⟨rfl, ?_⟩) hS ?_
        rotate_left
        · (intro w' hS'; (try dsimp only at hS'); dsimp only [zo76_6_1]; go_simp; try with_reducible rfl)
        simp only [Act.put, pA, pB, pC]
        refine tK (i := 2) (oi := zo76_6_2) (v := ?_) rfl (by kernel_rfl) (fun _ _ _ h => h) (Or.inl ⟨rfl, ?_⟩) hS ?_
        rotate_left
        · (intro w' hS'; (try dsimp only at hS'); dsimp only [zo76_6_2]; go_simp; try with_reducible rfl)
        simp only [Act.put, pA, pB, pC]
        refine tK (i := 3) (oi := zo76_6_3) (v := ?_) rfl (by kernel_rfl) (fun _ _ _ h => h) (Or.inl ⟨rfl, ?_⟩) hS ?_
        rotate_left
        · (intro w' hS'; (try dsimp only at hS'); dsimp only [zo76_6_3]; go_simp; try with_reducible rfl)
        simp only [Act.put, pA, pB, pC]
        refine tK (i := 4) (oi := zo76_6_4) (v := ?_) rfl (by kernel_rfl) (fun _ _ _ h => h) (Or.inl ⟨rfl, ?_⟩) hS ?_
        rotate_left
        · (intro w' hS'; (try dsimp only at hS'); dsimp only [zo76_6_4]; go_simp; try with_reducible rfl)
        simp only [Act.put, pA, pB, pC]
        refine tK (i := 5) (oi := zo76_6_5) (v := ?_) rfl (by kernel_rfl) (fun _ _ _ h => h) (Or.inl ⟨rfl, ?_⟩) hS ?_
        rotate_left
        · (intro w' hS'; (try dsimp only at hS'); dsimp only [zo76_6_5]; go_simp; try with_reducible rfl)
        simp only [Act.put, pA, pB, pC]
        refine tK (i := 6) (oi := zo76_6_6) (v := ?_) rfl (by kernel_rfl) (fun _ _ _ h => h) (Or.inl ⟨rfl, ?_⟩) hS ?_
        rotate_left
        · (intro w' hS'; (try dsimp only at hS'); dsimp only [zo76_6_6]; go_simp; try with_reducible rfl)
        simp only [Act.put, pA, pB, pC]
        refine tK (i := 7) (oi := zo76_6_7) (v := ?_) rfl (by kernel_rfl) (fun _ _ _ h => h) (Or.inl ⟨rfl, ?_⟩) hS ?_
        rotate_left
        · (intro w' hS'; (try dsimp only at hS'); dsimp only [zo76_6_7]; go_simp; try with_reducible rfl)
        simp only [Act.put, pA, pB, pC]
        refine tK (i := 8) (oi := zo76_6_8) (v := ?_) rfl (by kernel_rfl) (fun _ _ _ h => h) (Or.inl ⟨rfl, ?_⟩) hS ?_
        rotate_left
        · (intro w' hS'; (try dsimp only at hS'); dsimp only [zo76_6_8]; go_simp; try with_reducible rfl)
        simp only [Act.put, pA, pB, pC]
        refine tK (i := 9) (oi := zo76_6_9) (v := ?_) rfl (by kernel_rfl) (fun _ _ _ h => h) (Or.inl ⟨rfl, ?_⟩) hS ?_
        rotate_left
        · (intro w' hS'; (try dsimp only at hS'); dsimp only [zo76_6_9]; go_simp; try with_reducible rfl)
        simp only [Act.put, pA, pB, pC]
        refine tK (i := 10) (oi := zo76_6_10) (v := ?_) rfl (by kernel_rfl) (fun _ _ _ h => h) (Or.inl ⟨rfl, ?_⟩) hS ?_
        rotate_left
        · (intro w' hS'; (try dsimp only at hS'); dsimp only [zo76_6_10]; go_simp; try with_reducible rfl)
        simp only [Act.put, pA, pB, pC]
        refine tK (i := 11) (oi := zo76_6_11) (v := ?_) rfl (by kernel_rfl) (fun _ _ _ h => h) (Or.inl ⟨rfl, ?_⟩) hS ?_
        rotate_left
        · (intro w' hS'; (try dsimp only at hS'); dsimp only [zo76_6_11]; go_simp; try with_reducible rfl)
        simp only [Act.put, pA, pB, pC]
        refine tK (i := 12) (oi := zo76_6_12) (v := ?_) rfl (by kernel_rfl) (fun _ _ _ h => h) (Or.inl ⟨rfl, ?_⟩) hS ?_
        rotate_left
        · (intro w' hS'; (try dsimp only at hS'); dsimp only [zo76_6_12]; go_simp; try with_reducible rfl)
        simp only [Act.put, pA, pB, pC]
        refine tK (i := 13) (oi := zo76_6_13) (v := ?_) rfl (by kernel_rfl) (fun _ _ _ h => h) (Or.inl ⟨rfl, ?_⟩) hS ?_
        rotate_left
        · (intro w' hS'; (try dsimp only at hS'); dsimp only [zo76_6_13]; go_simp; try with_reducible rfl)
        simp only [Act.put, pA, pB, pC]
        refine tK (i := 14) (oi := zo76_6_14) (v := ?_) rfl (by kernel_rfl) (fun _ _ _ h => h) (Or.inl ⟨rfl, ?_⟩) hS ?_
        rotate_left
        · (intro w' hS'; (try dsimp only at hS'); dsimp only [zo76_6_14]; go_simp; try with_reducible rfl)
        simp only [Act.put, pA, pB, pC]
        refine tK (i := 15) (oi := zo76_6_15) (v := ?_) rfl (by kernel_rfl) (fun _ _ _ h => h) (Or.inl ⟨rfl, ?_⟩) hS ?_
        rotate_left
        · (intro w' hS'; (try dsimp only at hS'); dsimp only [zo76_6_15]; go_simp; try with_reducible rfl)
        simp only [Act.put, pA, pB, pC]
        refine tK (i := 16) (oi := zo76_6_16) (v := ?_) rfl (by kernel_rfl) (fun _ _ _ h => h) (Or.inl ⟨rfl, ?_⟩) hS ?_
        rotate_left
        · (intro w' hS'; (try dsimp only at hS'); dsimp only [zo76_6_16]; go_simp; try with_reducible rfl)
        simp only [Act.put, pA, pB, pC]
        refine tK (i := 17) (oi := zo76_6_17) (v := ?_) rfl (by kernel_rfl) (fun _ _ _ h => h) (Or.inl ⟨rfl, ?_⟩) hS ?_
        rotate_left
        · (intro w' hS'; (try dsimp only at hS'); dsimp only [zo76_6_17]; go_simp; try with_reducible rfl)
        simp only [Act.put, pA, pB, pC]
        refine tK (i := 18) (oi := zo76_6_18) (v := ?_) rfl (by kernel_rfl) (fun _ _ _ h => h) (Or.inl ⟨rfl, ?_⟩) hS ?_
        rotate_left
        · (intro w' hS'; (try dsimp only at hS'); dsimp only [zo76_6_18]; go_simp; try with_reducible rfl)
        simp only [Act.put, pA, pB, pC]
        refine tK (i := 19) (oi := zo76_6_19) (v := ?_) rfl (by kernel_rfl) (fun _ _ _ h => h) (Or.inl ⟨rfl, ?_⟩) hS ?_
        rotate_left
        · (intro w' hS'; (try dsimp only at hS'); dsimp only [zo76_6_19]; go_simp; try with_reducible rfl)
        simp only [Act.put, pA, pB, pC]
        refine tK (i := 20) (oi := zo76_6_20) (v := ?_) rfl (by kernel_rfl) (fun _ _ _ h => h) (Or.inl ⟨rfl, ?_⟩) hS ?_
        rotate_left
        · (intro w' hS'; (try dsimp only at hS'); dsimp only [zo76_6_20]; go_simp; try with_reducible rfl)
        simp only [Act.put, pA, pB, pC]
        refine tK (i := 21) (oi := zo76_6_21) (v := ?_) rfl (by kernel_rfl) (fun _ _ _ h => h) (Or.inl ⟨rfl, ?_⟩) hS ?_
        rotate_left
        · (intro w' hS'; (try dsimp only at hS'); dsimp only [zo76_6_21]; go_simp; try with_reducible rfl)
        simp only [Act.put, pA, pB, pC]
        refine tK (i := 22) (oi := zo76_6_22) (v := ?_) rfl (by kernel_rfl) (fun _ _ _ h => h) (Or.inl ⟨rfl, ?_⟩) hS ?_
        rotate_left
        · (intro w' hS'; (try dsimp only at hS'); dsimp only [zo76_6_22]; go_simp; try with_reducible rfl)
        simp only [Act.put, pA, pB, pC]
        refine tK (i := 23) (oi := zo76_6_23) (v := ?_) rfl (by kernel_rfl) (fun _ _ _ h => h) (Or.inl ⟨rfl, ?_⟩) hS ?_
        rotate_left
        · (intro w' hS'; (try dsimp only at hS'); dsimp only [zo76_6_23]; go_simp; try with_reducible rfl)
        simp only [Act.put, pA, pB, pC]
        refine tK (i := 24) (oi := zo76_6_24) (v := ?_) rfl (by kernel_rfl) (fun _ _ _ h => h) (Or.inl ⟨rfl, ?_⟩) hS ?_
        rotate_left
        · (intro w' hS'; (try dsimp only at hS'); dsimp only [zo76_6_24]; go_simp; try with_reducible rfl)
        simp only [Act.put, pA, pB, pC]
        refine tK (i := 25) (oi := zo76_6_25) (v := ?_) rfl (by kernel_rfl) (fun _ _ _ h => h) (Or.inl ⟨rfl, ?_⟩) hS ?_
        rotate_left
        · (intro w' hS'; (try dsimp only at hS'); dsimp only [zo76_6_25]; go_simp; try with_reducible rfl)
        simp only [Act.put, pA, pB, pC]
        refine tK (i := 26) (oi := zo76_6_26) (v := ?_) rfl (by kernel_rfl) (fun _ _ _ h => h) (Or.inl ⟨rfl, ?_⟩) hS ?_
        rotate_left
        · (intro w' hS'; (try dsimp only at hS'); dsimp only [zo76_6_26]; go_simp; try with_reducible rfl)
        simp only [Act.put, pA, pB, pC]
        refine tK (i := 27) (oi := zo76_6_27) (v := ?_) rfl (by kernel_rfl) (fun _ _ _ h => h) (Or.inl ⟨rfl, ?_⟩) hS ?_
        rotate_left
        · (intro w' hS'; (try dsimp only at hS'); dsimp only [zo76_6_27]; go_simp; try with_reducible rfl)
        simp only [Act.put, pA, pB, pC]
        refine tK (i := 28) (oi := zo76_6_28) (v := ?_) rfl (by kernel_rfl) (fun _ _ _ h => h) (Or.inl ⟨rfl, ?_⟩) hS ?_
        rotate_left
        · (intro w' hS'; (try dsimp only at hS'); dsimp only [zo76_6_28]; go_simp; try with_reducible rfl)
        simp only [Act.put, pA, pB, pC]
        refine tK (i := 29) (oi := zo76_6_29) (v := ?_) rfl (by kernel_rfl) (fun _ _ _ h => h) (Or.inl ⟨rfl, ?_⟩) hS ?_
        rotate_left
        · (intro w' hS'; (try dsimp only at hS'); dsimp only [zo76_6_29]; go_simp; try with_reducible rfl)
        simp only [Act.put, pA, pB, pC]
        refine tK (i := 30) (oi := zo76_6_30) (v := ?_) rfl (by kernel_rfl) (fun _ _ _ h => h) (Or.inl ⟨rfl, ?_⟩) hS ?_
        rotate_left
        · (intro w' hS'; (try dsimp only at hS'); dsimp only [zo76_6_30]; go_simp; try with_reducible rfl)
        simp only [Act.put, pA, pB, pC]
        refine tK (i := 31) (oi := zo76_6_31) (v := ?_) rfl (by kernel_rfl) (fun _ _ _ h => h) (Or.inl ⟨rfl, ?_⟩) hS ?_
        rotate_left
        · (intro w' hS'; (try dsimp only at hS'); dsimp only [zo76_6_31]; go_simp; try with_reducible rfl)
        simp only [Act.put, pA, pB, pC]
        refine tK (i := 32) (oi := zo76_6_32) (v := ?_) rfl (by kernel_rfl) (fun _ _ _ h => h) (Or.inl ⟨rfl, ?_⟩) hS ?_
        rotate_left
        · (intro w' hS'; (try dsimp only at hS'); dsimp only [zo76_6_32]; go_simp; try with_reducible rfl)
        simp only [Act.put, pA, pB, pC]
        refine tK (i := 33) (oi := zo76_6_33) (v := ?_) rfl (by kernel_rfl) (fun _ _ _ h => h) (Or.inl ⟨rfl, ?_⟩) hS ?_
        rotate_left
        · (intro w' hS'; (try dsimp only at hS'); dsimp only [zo76_6_33]; go_simp; try with_reducible rfl)
        simp only [Act.put, pA, pB, pC]
        refine wpAnyH_ready (rs := [34]) (by kernel_rfl) (by simp) ?_
        refine AllReadyH.cons (o := zo76_6_34) rfl (fun K hK => ?_) .nil
        refine step_call 155 #[.tmp 62, .tmp 70] _ rfl rfl #[.slice A1 xs[k].feats.length k1, .slice A2 ys[k].feats.length k2] Tryz.call155 (by go_simp) (HC.out _ (Q1.out.drewN m).drew (Q2.out.drewN m).drew) ?_
        rintro e w1 ⟨rfl, n1, rfl⟩
        refine ⟨_, rfl, ?_⟩
        replace hS : (fun w' : World => w'.cell? ⟨g, f + 1, none⟩ = some (.slice (some ⟨b, off, none⟩) xs.length c) ∧ w'.cell? ⟨g', f' + 1, none⟩ = some (.slice (some ⟨b', off', none⟩) ys.length d) ∧ w'.cell? ⟨b, off + k * 2, none⟩ = some (.string xs[k].label) ∧ w'.cell? ⟨b, off + k * 2 + 1, none⟩ = some (.slice A1 xs[k].feats.length k1) ∧ w'.cell? ⟨b', off' + k * 2, none⟩ = some (.string ys[k].label) ∧ w'.cell? ⟨b', off' + k * 2 + 1, none⟩ = some (.slice A2 ys[k].feats.length k2)) (((w.drewN m).drew).drewN n1) := hS
        dsimp only at hS
        refine hK.out _ _ ?_ (fun hHeld => ?_)
        · exact hS
        clear hK K hHeld
        simp only [Act.put, pA, pB, pC]
        refine tK (i := 35) (oi := zo76_6_35) (v := ?_) rfl (by kernel_rfl) (fun _ _ _ h => h) (Or.inl ⟨rfl, ?_⟩) hS ?_
        rotate_left
        · (intro w' hS'; (try dsimp only at hS'); dsimp only [zo76_6_35]; go_simp; try with_reducible rfl)
        simp only [Act.put, pA, pB, pC]
        refine tK (i := 36) (oi := zo76_6_36) (v := ?_) rfl (by kernel_rfl) (fun _ _ _ h => h) (Or.inl ⟨rfl, ?_⟩) hS ?_
        rotate_left
        · (intro w' hS'; (try dsimp only at hS'); dsimp only [zo76_6_36]; go_simp; try with_reducible rfl)
        simp only [Act.put, pA, pB, pC]
        refine wpAnyH_done (by kernel_rfl) ?_ _
        go_wp2_with fail
        go_roundw
        case rel =>
         refine ⟨k + 1, by omega, by go_num, fun j hj hj' hjk => ?_, _, by first | rfl | exact World.drewN_drewN _ _ _ | exact (show (w.drewN 1).drewN _ = _ from World.drewN_drewN _ _ _) | exact (show ((w.drewN m).drewN 1) = _ from World.drewN_drewN _ _ _) | exact (show ((w.drewN m).drewN 1).drewN _ = _ from (World.drewN_drewN _ _ _).trans (World.drewN_drewN _ _ _))⟩
         by_cases e : j = k
         · subst e; exact HK.out
         · exact HA.out j hj hj' (by omega)
        case measure => simp [intOf]; omega
      · simp only [decide_eq_false hkk] at C te
        have HC := Lib.hid C
        have HK : Hid (¬ xs[k] = ys[k]) := of_decide_eq_false (p := xs[k] = ys[k]) te
        clear hkk C te hla
        go_wp2_with fail
        have hS : (fun w' : World => w'.cell? ⟨g, f + 1, none⟩ = some (.slice (some ⟨b, off, none⟩) xs.length c) ∧ w'.cell? ⟨g', f' + 1, none⟩ = some (.slice (some ⟨b', off', none⟩) ys.length d) ∧ w'.cell? ⟨b, off + k * 2, none⟩ = some (.string xs[k].label) ∧ w'.cell? ⟨b, off + k * 2 + 1, none⟩ = some (.slice A1 xs[k].feats.length k1) ∧ w'.cell? ⟨b', off' + k * 2, none⟩ = some (.string ys[k].label) ∧ w'.cell? ⟨b', off' + k * 2 + 1, none⟩ = some (.slice A2 ys[k].feats.length k2)) (w.drewN m).drew := ⟨c0, c1, h0, h1, g0, g1⟩
        dsimp only at hS
        refine wp_region_held_drew (S := (fun w' : World => w'.cell? ⟨g, f + 1, none⟩ = some (.slice (some ⟨b, off, none⟩) xs.length c) ∧ w'.cell? ⟨g', f' + 1, none⟩ = some (.slice (some ⟨b', off', none⟩) ys.length d) ∧ w'.cell? ⟨b, off + k * 2, none⟩ = some (.string xs[k].label) ∧ w'.cell? ⟨b, off + k * 2 + 1, none⟩ = some (.slice A1 xs[k].feats.length k1) ∧ w'.cell? ⟨b', off' + k * 2, none⟩ = some (.string ys[k].label) ∧ w'.cell? ⟨b', off' + k * 2 + 1, none⟩ = some (.slice A2 ys[k].feats.length k2))) (by kernel_rfl) hS (fun _ => ?_)
        refine tK (i := 0) (oi := zo76_6_0) (v := ?_) rfl (by kernel_rfl) (fun _ _ _ h => h) (Or.inl ⟨rfl, ?_⟩) hS ?_
        rotate_left
        · (intro w' hS'; (try dsimp only at hS'); dsimp only [zo76_6_0]; go_simp; try with_reducible rfl)
        simp only [Act.put, pA, pB, pC]
        refine tK (i := 1) (oi := zo76_6_1) (v := ?_) rfl (by kernel_rfl) (fun _ _ _ h => h) (Or.inl ⟨rfl, ?_⟩) hS ?_
        rotate_left
        · (intro w' hS'; (try dsimp only at hS'); dsimp only [zo76_6_1]; go_simp; try with_reducible rfl)
        simp only [Act.put, pA, pB, pC]
        refine tK (i := 2) (oi := zo76_6_2) (v := ?_) rfl (by kernel_rfl) (fun _ _ _ h => h) (Or.inl ⟨rfl, ?_⟩) hS ?_
        rotate_left
        · (intro w' hS'; (try dsimp only at hS'); dsimp only [zo76_6_2]; go_simp; try with_reducible rfl)
        simp only [Act.put, pA, pB, pC]
        refine tK (i := 3) (oi := zo76_6_3) (v := ?_) rfl (by kernel_rfl) (fun _ _ _ h => h) (Or.inl ⟨rfl, ?_⟩) hS ?_
        rotate_left
        · (intro w' hS'; (try dsimp only at hS'); dsimp only [zo76_6_3]; go_simp; try with_reducible rfl)
        simp only [Act.put, pA, pB, pC]
        refine tK (i := 4) (oi := zo76_6_4) (v := ?_) rfl (by kernel_rfl) (fun _ _ _ h => h) (Or.inl ⟨rfl, ?_⟩) hS ?_
        rotate_left
        · (intro w' hS'; (try dsimp only at hS'); dsimp only [zo76_6_4]; go_simp; try with_reducible rfl)
        simp only [Act.put, pA, pB, pC]
        refine tK (i := 5) (oi := zo76_6_5) (v := ?_) rfl (by kernel_rfl) (fun _ _ _ h => h) (Or.inl ⟨rfl, ?_⟩) hS ?_
        rotate_left
        · (intro w' hS'; (try dsimp only at hS'); dsimp only [zo76_6_5]; go_simp; try with_reducible rfl)
        simp only [Act.put, pA, pB, pC]
        refine tK (i := 6) (oi := zo76_6_6) (v := ?_) rfl (by kernel_rfl) (fun _ _ _ h => h) (Or.inl ⟨rfl, ?_⟩) hS ?_
        rotate_left
        · (intro w' hS'; (try dsimp only at hS'); dsimp only [zo76_6_6]; go_simp; try with_reducible rfl)
        simp only [Act.put, pA, pB, pC]
        refine tK (i := 7) (oi := zo76_6_7) (v := ?_) rfl (by kernel_rfl) (fun _ _ _ h => h) (Or.inl ⟨rfl, ?_⟩) hS ?_
        rotate_left
        · (intro w' hS'; (try dsimp only at hS'); dsimp only [zo76_6_7]; go_simp; try with_reducible rfl)
        simp only [Act.put, pA, pB, pC]
        refine tK (i := 8) (oi := zo76_6_8) (v := ?_) rfl (by kernel_rfl) (fun _ _ _ h => h) (Or.inl ⟨rfl, ?_⟩) hS ?_
        rotate_left
        · (intro w' hS'; (try dsimp only at hS'); dsimp only [zo76_6_8]; go_simp; try with_reducible rfl)
        simp only [Act.put, pA, pB, pC]
        refine tK (i := 9) (oi := zo76_6_9) (v := ?_) rfl (by kernel_rfl) (fun _ _ _ h => h) (Or.inl ⟨rfl, ?_⟩) hS ?_
        rotate_left
        · (intro w' hS'; (try dsimp only at hS'); dsimp only [zo76_6_9]; go_simp; try with_reducible rfl)
        simp only [Act.put, pA, pB, pC]
        refine tK (i := 10) (oi := zo76_6_10) (v := ?_) rfl (by kernel_rfl) (fun _ _ _ h => h) (Or.inl ⟨rfl, ?_⟩) hS ?_
        rotate_left
        · (intro w' hS'; (try dsimp only at hS'); dsimp only [zo76_6_10]; go_simp; try with_reducible rfl)
        simp only [Act.put, pA, pB, pC]
        refine tK (i := 11) (oi := zo76_6_11) (v := ?_) rfl (by kernel_rfl) (fun _ _ _ h => h) (Or.inl ⟨rfl, ?_⟩) hS ?_
        rotate_left
        · (intro w' hS'; (try dsimp only at hS'); dsimp only [zo76_6_11]; go_simp; try with_reducible rfl)
        simp only [Act.put, pA, pB, pC]
        refine tK (i := 12) (oi := zo76_6_12) (v := ?_) rfl (by kernel_rfl) (fun _ _ _ h => h) (Or.inl ⟨rfl, ?_⟩) hS ?_
        rotate_left
        · (intro w' hS'; (try dsimp only at hS'); dsimp only [zo76_6_12]; go_simp; try with_reducible rfl)
        simp only [Act.put, pA, pB, pC]
        refine tK (i := 13) (oi := zo76_6_13) (v := ?_) rfl (by kernel_rfl) (fun _ _ _ h => h) (Or.inl ⟨rfl, ?_⟩) hS ?_
        rotate_left
        · (intro w' hS'; (try dsimp only at hS'); dsimp only [zo76_6_13]; go_simp; try with_reducible rfl)
        simp only [Act.put, pA, pB, pC]
        refine tK (i := 14) (oi := zo76_6_14) (v := ?_) rfl (by kernel_rfl) (fun _ _ _ h => h) (Or.inl ⟨rfl, ?_⟩) hS ?_
        rotate_left
        · (intro w' hS'; (try dsimp only at hS'); dsimp only [zo76_6_14]; go_simp; try with_reducible rfl)
        simp only [Act.put, pA, pB, pC]
        refine tK (i := 15) (oi := zo76_6_15) (v := ?_) rfl (by kernel_rfl) (fun _ _ _ h => h) (Or.inl ⟨rfl, ?_⟩) hS ?_
        rotate_left
        · (intro w' hS'; (try dsimp only at hS'); dsimp only [zo76_6_15]; go_simp; try with_reducible rfl)
        simp only [Act.put, pA, pB, pC]
        refine tK (i := 16) (oi := zo76_6_16) (v := ?_) rfl (by kernel_rfl) (fun _ _ _ h => h) (Or.inl ⟨rfl, ?_⟩) hS ?_
        rotate_left
        · (intro w' hS'; (try dsimp only at hS'); dsimp only [zo76_6_16]; go_simp; try with_reducible rfl)
        simp only [Act.put, pA, pB, pC]
        refine tK (i := 17) (oi := zo76_6_17) (v := ?_) rfl (by kernel_rfl) (fun _ _ _ h => h) (Or.inl ⟨rfl, ?_⟩) hS ?_
        rotate_left
        · (intro w' hS'; (try dsimp only at hS'); dsimp only [zo76_6_17]; go_simp; try with_reducible rfl)
        simp only [Act.put, pA, pB, pC]
        refine tK (i := 18) (oi := zo76_6_18) (v := ?_) rfl (by kernel_rfl) (fun _ _ _ h => h) (Or.inl ⟨rfl, ?_⟩) hS ?_
        rotate_left
        · (intro w' hS'; (try dsimp only at hS'); dsimp only [zo76_6_18]; go_simp; try with_reducible rfl)
        simp only [Act.put, pA, pB, pC]
        refine tK (i := 19) (oi := zo76_6_19) (v := ?_) rfl (by kernel_rfl) (fun _ _ _ h => h) (Or.inl ⟨rfl, ?_⟩) hS ?_
        rotate_left
        · (intro w' hS'; (try dsimp only at hS'); dsimp only [zo76_6_19]; go_simp; try with_reducible rfl)
        simp only [Act.put, pA, pB, pC]
        refine tK (i := 20) (oi := zo76_6_20) (v := ?_) rfl (by kernel_rfl) (fun _ _ _ h => h) (Or.inl ⟨rfl, ?_⟩) hS ?_
        rotate_left
        · (intro w' hS'; (try dsimp only at hS'); dsimp only [zo76_6_20]; go_simp; try with_reducible rfl)
        simp only [Act.put, pA, pB, pC]
        refine tK (i := 21) (oi := zo76_6_21) (v := ?_) rfl (by kernel_rfl) (fun _ _ _ h => h) (Or.inl ⟨rfl, ?_⟩) hS ?_
        rotate_left
        · (intro w' hS'; (try dsimp only at hS'); dsimp only [zo76_6_21]; go_simp; try with_reducible rfl)
        simp only [Act.put, pA, pB, pC]
        refine tK (i := 22) (oi := zo76_6_22) (v := ?_) rfl (by kernel_rfl) (fun _ _ _ h => h) (Or.inl ⟨rfl, ?_⟩) hS ?_
        rotate_left
        · (intro w' hS'; (try dsimp only at hS'); dsimp only [zo76_6_22]; go_simp; try with_reducible rfl)
        simp only [Act.put, pA, pB, pC]
        refine tK (i := 23) (oi := zo76_6_23) (v := ?_) rfl (by kernel_rfl) (fun _ _ _ h => h) (Or.inl ⟨rfl, ?_⟩) hS ?_
        rotate_left
        · (intro w' hS'; (try dsimp only at hS'); dsimp only [zo76_6_23]; go_simp; try with_reducible rfl)
        simp only [Act.put, pA, pB, pC]
        refine tK (i := 24) (oi := zo76_6_24) (v := ?_) rfl (by kernel_rfl) (fun _ _ _ h => h) (Or.inl ⟨rfl, ?_⟩) hS ?_
        rotate_left
        · (intro w' hS'; (try dsimp only at hS'); dsimp only [zo76_6_24]; go_simp; try with_reducible rfl)
        simp only [Act.put, pA, pB, pC]
        refine tK (i := 25) (oi := zo76_6_25) (v := ?_) rfl (by kernel_rfl) (fun _ _ _ h => h) (Or.inl ⟨rfl, ?_⟩) hS ?_
        rotate_left
        · (intro w' hS'; (try dsimp only at hS'); dsimp only [zo76_6_25]; go_simp; try with_reducible rfl)
        simp only [Act.put, pA, pB, pC]
        refine tK (i := 26) (oi := zo76_6_26) (v := ?_) rfl (by kernel_rfl) (fun _ _ _ h => h) (Or.inl ⟨rfl, ?_⟩) hS ?_
        rotate_left
        · (intro w' hS'; (try dsimp only at hS'); dsimp only [zo76_6_26]; go_simp; try with_reducible rfl)
        simp only [Act.put, pA, pB, pC]
        refine tK (i := 27) (oi := zo76_6_27) (v := ?_) rfl (by kernel_rfl) (fun _ _ _ h => h) (Or.inl ⟨rfl, ?_⟩) hS ?_
        rotate_left
        · (intro w' hS'; (try dsimp only at hS'); dsimp only [zo76_6_27]; go_simp; try with_reducible rfl)
        simp only [Act.put, pA, pB, pC]
        refine tK (i := 28) (oi := zo76_6_28) (v := ?_) rfl (by kernel_rfl) (fun _ _ _ h => h) (Or.inl ⟨rfl, ?_⟩) hS ?_
        rotate_left
        · (intro w' hS'; (try dsimp only at hS'); dsimp only [zo76_6_28]; go_simp; try with_reducible rfl)
        simp only [Act.put, pA, pB, pC]
        refine tK (i := 29) (oi := zo76_6_29) (v := ?_) rfl (by kernel_rfl) (fun _ _ _ h => h) (Or.inl ⟨rfl, ?_⟩) hS ?_
        rotate_left
        · (intro w' hS'; (try dsimp only at hS'); dsimp only [zo76_6_29]; go_simp; try with_reducible rfl)
        simp only [Act.put, pA, pB, pC]
        refine tK (i := 30) (oi := zo76_6_30) (v := ?_) rfl (by kernel_rfl) (fun _ _ _ h => h) (Or.inl ⟨rfl, ?_⟩) hS ?_
        rotate_left
        · (intro w' hS'; (try dsimp only at hS'); dsimp only [zo76_6_30]; go_simp; try with_reducible rfl)
        simp only [Act.put, pA, pB, pC]
        refine tK (i := 31) (oi := zo76_6_31) (v := ?_) rfl (by kernel_rfl) (fun _ _ _ h => h) (Or.inl ⟨rfl, ?_⟩) hS ?_
        rotate_left
        · (intro w' hS'; (try dsimp only at hS'); dsimp only [zo76_6_31]; go_simp; try with_reducible rfl)
        simp only [Act.put, pA, pB, pC]
        refine tK (i := 32) (oi := zo76_6_32) (v := ?_) rfl (by kernel_rfl) (fun _ _ _ h => h) (Or.inl ⟨rfl, ?_⟩) hS ?_
        rotate_left
        · (intro w' hS'; (try dsimp only at hS'); dsimp only [zo76_6_32]; go_simp; try with_reducible rfl)
        simp only [Act.put, pA, pB, pC]
        refine tK (i := 33) (oi := zo76_6_33) (v := ?_) rfl (by kernel_rfl) (fun _ _ _ h => h) (Or.inl ⟨rfl, ?_⟩) hS ?_
        rotate_left
        · (intro w' hS'; (try dsimp only at hS'); dsimp only [zo76_6_33]; go_simp; try with_reducible rfl)
        simp only [Act.put, pA, pB, pC]
        refine wpAnyH_ready (rs := [34]) (by kernel_rfl) (by simp) ?_
        refine AllReadyH.cons (o := zo76_6_34) rfl (fun K hK => ?_) .nil
        refine step_call 155 #[.tmp 62, .tmp 70] _ rfl rfl #[.slice A1 xs[k].feats.length k1, .slice A2 ys[k].feats.length k2] Tryz.call155 (by go_simp) (HC.out _ (Q1.out.drewN m).drew (Q2.out.drewN m).drew) ?_
        rintro e w1 ⟨rfl, n1, rfl⟩
        refine ⟨_, rfl, ?_⟩
        replace hS : (fun w' : World => w'.cell? ⟨g, f + 1, none⟩ = some (.slice (some ⟨b, off, none⟩) xs.length c) ∧ w'.cell? ⟨g', f' + 1, none⟩ = some (.slice (some ⟨b', off', none⟩) ys.length d) ∧ w'.cell? ⟨b, off + k * 2, none⟩ = some (.string xs[k].label) ∧ w'.cell? ⟨b, off + k * 2 + 1, none⟩ = some (.slice A1 xs[k].feats.length k1) ∧ w'.cell? ⟨b', off' + k * 2, none⟩ = some (.string ys[k].label) ∧ w'.cell? ⟨b', off' + k * 2 + 1, none⟩ = some (.slice A2 ys[k].feats.length k2)) (((w.drewN m).drew).drewN n1) := hS
        dsimp only at hS
        refine hK.out _ _ ?_ (fun hHeld => ?_)
        · exact hS
        clear hK K hHeld
        simp only [Act.put, pA, pB, pC]
        refine tK (i := 35) (oi := zo76_6_35) (v := ?_) rfl (by kernel_rfl) (fun _ _ _ h => h) (Or.inl ⟨rfl, ?_⟩) hS ?_
        rotate_left
        · (intro w' hS'; (try dsimp only at hS'); dsimp only [zo76_6_35]; go_simp; try with_reducible rfl)
        simp only [Act.put, pA, pB, pC]
        refine tK (i := 36) (oi := zo76_6_36) (v := ?_) rfl (by kernel_rfl) (fun _ _ _ h => h) (Or.inl ⟨rfl, ?_⟩) hS ?_
        rotate_left
        · (intro w' hS'; (try dsimp only at hS'); dsimp only [zo76_6_36]; go_simp; try with_reducible rfl)
        simp only [Act.put, pA, pB, pC]
        refine wpAnyH_done (by kernel_rfl) ?_ _
        go_wp2_with fail
        go_ret
        have hne : ¬ xs = ys := fun e => by subst e; exact HK.out rfl
        exact ⟨by simp [hne, nm], _, by first | rfl | exact World.drewN_drewN _ _ _ | exact (show (w.drewN 1).drewN _ = _ from World.drewN_drewN _ _ _) | exact (show ((w.drewN m).drewN 1) = _ from World.drewN_drewN _ _ _) | exact (show ((w.drewN m).drewN 1).drewN _ = _ from (World.drewN_drewN _ _ _).trans (World.drewN_drewN _ _ _))⟩
    · obtain rfl : k = xs.length := by omega
      have heq : xs = ys := List.ext_getElem HL.out (fun j h1 h2 => hall j h1 h2 h1)
      clear hall
      go_wp2_with fail
      go_ret
      exact ⟨by simp [heq, nm], _, rfl⟩
 · have hne : ((xs.length : Int) != (ys.length : Int)) = true := by rw [bne_iff_ne]; omega
   have hxy : ¬ xs = ys := fun e => hl (by rw [e])
   have HL := Lib.hid hxy
   clear hl hxy
   go_enter Tryz.func76, Tryz.ntmps76
   go_wp2_with fail
   go_quiet (fail)
   go_wp2_with fail
   go_ret
   exact ⟨by simp [HL.out, nm], _, by first | rfl | exact World.drewN_drewN _ _ _ | exact (show (w.drewN 1).drewN _ = _ from World.drewN_drewN _ _ _) | exact (show ((w.drewN m).drewN 1) = _ from World.drewN_drewN _ _ _) | exact (show ((w.drewN m).drewN 1).drewN _ = _ from (World.drewN_drewN _ _ _).trans (World.drewN_drewN _ _ _))⟩
end Go.Proofs.YtkfadfddhbpngaaGreat
