/- ValidSession of the reference. Conditions: none. -/
import Derived.Test.YtkfadfddhbpngaaGreatTky
import Derived.Deep.Cut
import Derived.Deep.CutRange
import Derived.Test.YtkfadfddhbpngaaGreatSsVy
namespace Go.Proofs.YtkfadfddhbpngaaGreat
open Go Go.RowKit
abbrev zo195_3_0 : Oper := { dst := some 9, op := .move (.tmp 0), type := 143, pos := "l26_sessions.go:28", after := #[], guard := none }
abbrev zo195_3_1 : Oper := { dst := some 10, op := .nilCheck (.tmp 9), type := 0, pos := "l26_sessions.go:28", after := #[{ on := 0, ground := .data }], guard := none }
abbrev zo195_3_2 : Oper := { dst := some 11, op := .fieldAddr 64 (.tmp 10) 0, type := 0, pos := "l26_sessions.go:28", after := #[{ on := 1, ground := .data }], guard := none }
abbrev zo195_3_3 : Oper := { dst := some 12, op := .load 62 (.tmp 11), type := 62, pos := "l26_sessions.go:28", after := #[{ on := 2, ground := .data }], guard := none }
abbrev zo195_3_4 : Oper := { dst := some 13, op := .move (.tmp 0), type := 143, pos := "l26_sessions.go:28", after := #[], guard := none }
abbrev zo195_3_5 : Oper := { dst := some 14, op := .nilCheck (.tmp 13), type := 0, pos := "l26_sessions.go:28", after := #[{ on := 4, ground := .data }], guard := none }
abbrev zo195_3_6 : Oper := { dst := some 15, op := .fieldAddr 64 (.tmp 14) 0, type := 0, pos := "l26_sessions.go:28", after := #[{ on := 5, ground := .data }], guard := none }
abbrev zo195_3_7 : Oper := { dst := some 16, op := .load 62 (.tmp 15), type := 62, pos := "l26_sessions.go:28", after := #[{ on := 6, ground := .data }], guard := none }
abbrev zo195_3_8 : Oper := { dst := some 17, op := .call { callee := .builtin .len, args := #[.tmp 16], argTypes := #[62] }, type := 3, pos := "l26_sessions.go:28", after := #[{ on := 7, ground := .data }], guard := none }
abbrev zo195_3_9 : Oper := { dst := some 18, op := .binOp .sub 3 (.tmp 17) (.const (.int .i64 1)) 3, type := 3, pos := "l26_sessions.go:28", after := #[{ on := 8, ground := .data }], guard := none }
abbrev zo195_3_10 : Oper := { dst := some 19, op := .indexAddr 62 (.tmp 12) (.tmp 18), type := 0, pos := "l26_sessions.go:28", after := #[{ on := 3, ground := .data }, { on := 9, ground := .data }], guard := none }
abbrev zo195_3_11 : Oper := { dst := some 20, op := .call { callee := .value (.func 197), args := #[.tmp 19], argTypes := #[145] }, type := 2, pos := "l26_sessions.go:28", after := #[{ on := 10, ground := .data }], guard := none }
abbrev zo195_3_12 : Oper := { dst := some 2, op := .assign (.tmp 20), type := 2, pos := "l26_sessions.go:28", after := #[{ on := 11, ground := .data }, { on := 11, ground := .chain }, { on := 0, ground := .phase }, { on := 1, ground := .phase }, { on := 2, ground := .phase }, { on := 3, ground := .phase }, { on := 4, ground := .phase }, { on := 5, ground := .phase }, { on := 6, ground := .phase }, { on := 7, ground := .phase }, { on := 8, ground := .phase }, { on := 9, ground := .phase }, { on := 10, ground := .phase }, { on := 11, ground := .phase }], guard := none }
abbrev zo138_1_0 : Oper := { dst := some 4, op := .move (.tmp 0), type := 93, pos := "l26_sessions.go:32", after := #[], guard := none }
abbrev zo138_1_1 : Oper := { dst := some 5, op := .nilCheck (.tmp 4), type := 0, pos := "l26_sessions.go:32", after := #[{ on := 0, ground := .data }], guard := none }
abbrev zo138_1_2 : Oper := { dst := some 6, op := .fieldAddr 67 (.tmp 5) 0, type := 0, pos := "l26_sessions.go:32", after := #[{ on := 1, ground := .data }], guard := none }
abbrev zo138_1_3 : Oper := { dst := some 7, op := .call { callee := .value (.func 43), args := #[.tmp 6], argTypes := #[105] }, type := 4, pos := "l26_sessions.go:32", after := #[{ on := 2, ground := .data }], guard := none }
abbrev zo138_1_4 : Oper := { dst := some 8, op := .unOp .not 4 (.tmp 7), type := 4, pos := "l26_sessions.go:32", after := #[{ on := 3, ground := .data }], guard := none }
abbrev zo138_1_5 : Oper := { dst := some 9, op := .move (.tmp 8), type := 4, pos := "l26_sessions.go:32", after := #[{ on := 4, ground := .data }, { on := 3, ground := .chain }], guard := none }
abbrev zo138_1_6 : Oper := { dst := some 10, op := .move (.tmp 0), type := 93, pos := "l26_sessions.go:32", after := #[{ on := 5, ground := .guard }], guard := some (5, false) }
abbrev zo138_1_7 : Oper := { dst := some 11, op := .nilCheck (.tmp 10), type := 0, pos := "l26_sessions.go:32", after := #[{ on := 6, ground := .data }, { on := 5, ground := .guard }], guard := some (5, false) }
abbrev zo138_1_8 : Oper := { dst := some 12, op := .fieldAddr 67 (.tmp 11) 1, type := 0, pos := "l26_sessions.go:32", after := #[{ on := 7, ground := .data }, { on := 5, ground := .guard }], guard := some (5, false) }
abbrev zo138_1_9 : Oper := { dst := some 13, op := .call { callee := .value (.func 194), args := #[.tmp 12], argTypes := #[143] }, type := 4, pos := "l26_sessions.go:32", after := #[{ on := 8, ground := .data }, { on := 5, ground := .chain }, { on := 5, ground := .guard }], guard := some (5, false) }
abbrev zo138_1_10 : Oper := { dst := some 14, op := .unOp .not 4 (.tmp 13), type := 4, pos := "l26_sessions.go:32", after := #[{ on := 9, ground := .data }, { on := 5, ground := .guard }], guard := some (5, false) }
abbrev zo138_1_11 : Oper := { dst := some 15, op := .pick (.tmp 9) (.const (.bool true)) (.tmp 14), type := 4, pos := "l26_sessions.go:32", after := #[{ on := 5, ground := .data }, { on := 10, ground := .data }], guard := none }
abbrev zo138_1_12 : Oper := { dst := some 16, op := .move (.tmp 15), type := 4, pos := "l26_sessions.go:32", after := #[{ on := 11, ground := .data }, { on := 9, ground := .chain }], guard := none }
abbrev zo138_1_13 : Oper := { dst := some 17, op := .move (.tmp 0), type := 93, pos := "l26_sessions.go:32", after := #[{ on := 12, ground := .guard }], guard := some (12, false) }
abbrev zo138_1_14 : Oper := { dst := some 18, op := .nilCheck (.tmp 17), type := 0, pos := "l26_sessions.go:32", after := #[{ on := 13, ground := .data }, { on := 12, ground := .guard }], guard := some (12, false) }
abbrev zo138_1_15 : Oper := { dst := some 19, op := .fieldAddr 67 (.tmp 18) 3, type := 0, pos := "l26_sessions.go:32", after := #[{ on := 14, ground := .data }, { on := 12, ground := .guard }], guard := some (12, false) }
abbrev zo138_1_16 : Oper := { dst := some 20, op := .load 2 (.tmp 19), type := 2, pos := "l26_sessions.go:32", after := #[{ on := 15, ground := .data }, { on := 12, ground := .guard }], guard := some (12, false) }
abbrev zo138_1_17 : Oper := { dst := some 21, op := .call { callee := .value (.func 111), args := #[.tmp 20, .const (.int .i64 0), .const (.int .i64 3600000)], argTypes := #[2, 2, 2] }, type := 4, pos := "l26_sessions.go:32", after := #[{ on := 16, ground := .data }, { on := 12, ground := .chain }, { on := 12, ground := .guard }], guard := some (12, false) }
abbrev zo138_1_18 : Oper := { dst := some 22, op := .unOp .not 4 (.tmp 21), type := 4, pos := "l26_sessions.go:32", after := #[{ on := 17, ground := .data }, { on := 12, ground := .guard }], guard := some (12, false) }
abbrev zo138_1_19 : Oper := { dst := some 23, op := .pick (.tmp 16) (.const (.bool true)) (.tmp 22), type := 4, pos := "l26_sessions.go:32", after := #[{ on := 12, ground := .data }, { on := 18, ground := .data }], guard := none }
abbrev zo138_1_20 : Oper := { dst := some 24, op := .move (.tmp 23), type := 4, pos := "l26_sessions.go:32", after := #[{ on := 19, ground := .data }, { on := 17, ground := .chain }], guard := none }
abbrev zo138_1_21 : Oper := { dst := some 25, op := .move (.tmp 0), type := 93, pos := "l26_sessions.go:32", after := #[{ on := 20, ground := .guard }], guard := some (20, false) }
abbrev zo138_1_22 : Oper := { dst := some 26, op := .nilCheck (.tmp 25), type := 0, pos := "l26_sessions.go:32", after := #[{ on := 21, ground := .data }, { on := 20, ground := .guard }], guard := some (20, false) }
abbrev zo138_1_23 : Oper := { dst := some 27, op := .fieldAddr 67 (.tmp 26) 1, type := 0, pos := "l26_sessions.go:32", after := #[{ on := 22, ground := .data }, { on := 20, ground := .guard }], guard := some (20, false) }
abbrev zo138_1_24 : Oper := { dst := some 28, op := .call { callee := .value (.func 195), args := #[.tmp 27], argTypes := #[143] }, type := 2, pos := "l26_sessions.go:32", after := #[{ on := 23, ground := .data }, { on := 20, ground := .chain }, { on := 20, ground := .guard }], guard := some (20, false) }
abbrev zo138_1_25 : Oper := { dst := some 29, op := .move (.tmp 0), type := 93, pos := "l26_sessions.go:32", after := #[{ on := 20, ground := .guard }], guard := some (20, false) }
abbrev zo138_1_26 : Oper := { dst := some 30, op := .nilCheck (.tmp 29), type := 0, pos := "l26_sessions.go:32", after := #[{ on := 25, ground := .data }, { on := 20, ground := .guard }], guard := some (20, false) }
abbrev zo138_1_27 : Oper := { dst := some 31, op := .fieldAddr 67 (.tmp 30) 3, type := 0, pos := "l26_sessions.go:32", after := #[{ on := 26, ground := .data }, { on := 20, ground := .guard }], guard := some (20, false) }
abbrev zo138_1_28 : Oper := { dst := some 32, op := .load 2 (.tmp 31), type := 2, pos := "l26_sessions.go:32", after := #[{ on := 27, ground := .data }, { on := 20, ground := .guard }], guard := some (20, false) }
abbrev zo138_1_29 : Oper := { dst := some 33, op := .binOp .gtr 2 (.tmp 28) (.tmp 32) 2, type := 4, pos := "l26_sessions.go:32", after := #[{ on := 24, ground := .data }, { on := 28, ground := .data }, { on := 20, ground := .guard }], guard := some (20, false) }
abbrev zo138_1_30 : Oper := { dst := some 34, op := .pick (.tmp 24) (.const (.bool true)) (.tmp 33), type := 4, pos := "l26_sessions.go:32", after := #[{ on := 20, ground := .data }, { on := 29, ground := .data }], guard := none }
abbrev zo138_5_0 : Oper := { dst := some 46, op := .call { callee := .value (.func 196), args := #[.tmp 3], argTypes := #[145] }, type := 4, pos := "l26_sessions.go:37", after := #[], guard := none }
abbrev zo138_5_1 : Oper := { dst := some 47, op := .unOp .not 4 (.tmp 46), type := 4, pos := "l26_sessions.go:37", after := #[{ on := 0, ground := .data }], guard := none }
abbrev zo138_5_2 : Oper := { dst := some 48, op := .move (.tmp 47), type := 4, pos := "l26_sessions.go:37", after := #[{ on := 1, ground := .data }, { on := 0, ground := .chain }], guard := none }
abbrev zo138_5_3 : Oper := { dst := some 49, op := .move (.tmp 0), type := 93, pos := "l26_sessions.go:37", after := #[{ on := 2, ground := .guard }], guard := some (2, false) }
abbrev zo138_5_4 : Oper := { dst := some 50, op := .nilCheck (.tmp 49), type := 0, pos := "l26_sessions.go:37", after := #[{ on := 3, ground := .data }, { on := 2, ground := .guard }], guard := some (2, false) }
abbrev zo138_5_5 : Oper := { dst := some 51, op := .fieldAddr 67 (.tmp 50) 2, type := 0, pos := "l26_sessions.go:37", after := #[{ on := 4, ground := .data }, { on := 2, ground := .guard }], guard := some (2, false) }
abbrev zo138_5_6 : Oper := { dst := some 52, op := .load 65 (.tmp 51), type := 65, pos := "l26_sessions.go:37", after := #[{ on := 5, ground := .data }, { on := 2, ground := .guard }], guard := some (2, false) }
abbrev zo138_5_7 : Oper := { dst := some 53, op := .indexAddr 65 (.tmp 52) (.const (.int .i64 0)), type := 0, pos := "l26_sessions.go:37", after := #[{ on := 6, ground := .data }, { on := 2, ground := .guard }], guard := some (2, false) }
abbrev zo138_5_8 : Oper := { dst := some 54, op := .fieldAddr 155 (.tmp 53) 2, type := 0, pos := "l26_sessions.go:37", after := #[{ on := 7, ground := .data }, { on := 2, ground := .guard }], guard := some (2, false) }
abbrev zo138_5_9 : Oper := { dst := some 55, op := .load 2 (.tmp 54), type := 2, pos := "l26_sessions.go:37", after := #[{ on := 8, ground := .data }, { on := 2, ground := .guard }], guard := some (2, false) }
abbrev zo138_5_10 : Oper := { dst := some 56, op := .move (.tmp 0), type := 93, pos := "l26_sessions.go:37", after := #[{ on := 2, ground := .guard }], guard := some (2, false) }
abbrev zo138_5_11 : Oper := { dst := some 57, op := .nilCheck (.tmp 56), type := 0, pos := "l26_sessions.go:37", after := #[{ on := 10, ground := .data }, { on := 2, ground := .guard }], guard := some (2, false) }
abbrev zo138_5_12 : Oper := { dst := some 58, op := .fieldAddr 67 (.tmp 57) 1, type := 0, pos := "l26_sessions.go:37", after := #[{ on := 11, ground := .data }, { on := 2, ground := .guard }], guard := some (2, false) }
abbrev zo138_5_13 : Oper := { dst := some 59, op := .call { callee := .value (.func 195), args := #[.tmp 58], argTypes := #[143] }, type := 2, pos := "l26_sessions.go:37", after := #[{ on := 12, ground := .data }, { on := 2, ground := .chain }, { on := 2, ground := .guard }], guard := some (2, false) }
abbrev zo138_5_14 : Oper := { dst := some 60, op := .binOp .leq 2 (.tmp 55) (.tmp 59) 2, type := 4, pos := "l26_sessions.go:37", after := #[{ on := 9, ground := .data }, { on := 13, ground := .data }, { on := 2, ground := .guard }], guard := some (2, false) }
abbrev zo138_5_15 : Oper := { dst := some 61, op := .pick (.tmp 48) (.const (.bool true)) (.tmp 60), type := 4, pos := "l26_sessions.go:37", after := #[{ on := 2, ground := .data }, { on := 14, ground := .data }], guard := none }
abbrev zo138_5_16 : Oper := { dst := some 62, op := .move (.tmp 61), type := 4, pos := "l26_sessions.go:37", after := #[{ on := 15, ground := .data }, { on := 13, ground := .chain }], guard := none }
abbrev zo138_5_17 : Oper := { dst := some 63, op := .call { callee := .value (.func 197), args := #[.tmp 3], argTypes := #[145] }, type := 2, pos := "l26_sessions.go:37", after := #[{ on := 16, ground := .chain }, { on := 16, ground := .guard }], guard := some (16, false) }
abbrev zo138_5_18 : Oper := { dst := some 64, op := .move (.tmp 0), type := 93, pos := "l26_sessions.go:37", after := #[{ on := 16, ground := .guard }], guard := some (16, false) }
abbrev zo138_5_19 : Oper := { dst := some 65, op := .nilCheck (.tmp 64), type := 0, pos := "l26_sessions.go:37", after := #[{ on := 18, ground := .data }, { on := 16, ground := .guard }], guard := some (16, false) }
abbrev zo138_5_20 : Oper := { dst := some 66, op := .fieldAddr 67 (.tmp 65) 3, type := 0, pos := "l26_sessions.go:37", after := #[{ on := 19, ground := .data }, { on := 16, ground := .guard }], guard := some (16, false) }
abbrev zo138_5_21 : Oper := { dst := some 67, op := .load 2 (.tmp 66), type := 2, pos := "l26_sessions.go:37", after := #[{ on := 20, ground := .data }, { on := 16, ground := .guard }], guard := some (16, false) }
abbrev zo138_5_22 : Oper := { dst := some 68, op := .binOp .gtr 2 (.tmp 63) (.tmp 67) 2, type := 4, pos := "l26_sessions.go:37", after := #[{ on := 17, ground := .data }, { on := 21, ground := .data }, { on := 16, ground := .guard }], guard := some (16, false) }
abbrev zo138_5_23 : Oper := { dst := some 69, op := .pick (.tmp 62) (.const (.bool true)) (.tmp 68), type := 4, pos := "l26_sessions.go:37", after := #[{ on := 16, ground := .data }, { on := 22, ground := .data }], guard := none }

set_option maxRecDepth 100000 in
set_option maxHeartbeats 1000000 in
theorem spec_l26End_c {o : Bool} {pe e : TypeId} {xs : List PStroke} {v : Value} {F : List Nat} {g f : Nat} (w : World) (c0 : w.cell? ⟨g, f, none⟩ = some v) (h : (pStrokes pe e).rep o w xs [v] F) (hxe : ∀ l ∈ xs, l.length ≤ 1048576) (hok : inkB xs = true) :
 Calls Tryz.prog 195 #[.pointer (some ⟨g, f, none⟩)] w fun e w' => e = .returned (.int .i64 (inkEndI xs)) ∧ ∃ n, w' = w.drewN n := by
 have hfew := inkB_few hok
 obtain ⟨A, c, rfl, hc1, hc2, hr⟩ := pStrokes_open h
 rcases Nat.eq_zero_or_pos xs.length with h0 | h0
 · have he := Lib.hid (inkEnd_nil h0)
   have g0 : ((xs.length : Int) == 0) = true := by simp [h0]
   clear hr h h0
   go_enter Tryz.func195, Tryz.ntmps195
   go_wp2_with fail
   go_ret
   exact ⟨ret_int he.out.symm, 0, rfl⟩
 · obtain ⟨j, hj⟩ : ∃ j, xs.length = j + 1 := ⟨xs.length - 1, by omega⟩
   have hjl : j < xs.length := by omega
   have he : Hid (inkEndI xs = lastT xs[j]) := by show _ = _; rw [inkEnd_pos hj, strk_get hjl]
   obtain ⟨b, off, u, Fk, rfl, hbb, _, hrk, _, hcell⟩ := hr j hjl
   have HC := Lib.hid (spec_l02Last_c (g := b) (f := off + j) w.drew hcell hrk.drew (ink_last hok hjl) (hxe _ (List.getElem_mem hjl)))
   have g0 : ((xs.length : Int) == 0) = false := by rw [beq_eq_false_iff_ne]; omega
   have kl : IntKind.i64.wrap ((xs.length : Int) - 1) = (j : Int) := (IntWalk.i64_in _ (by omega)).trans (by omega)
   have g1 : (j : Int) < (xs.length : Int) := by omega
   have g2 : (0 : Int) ≤ (j : Int) := by omega
   have HJ := Lib.hid hj
   clear hr h h0 hj hrk
   go_enter Tryz.func195, Tryz.ntmps195
   go_wp2_with fail
   have hS : (fun w' : World => w'.cell? ⟨g, f, none⟩ = some (.slice (some ⟨b, off, none⟩) xs.length c)) w.drew := c0
   dsimp only at hS
   refine wp_region_held_drew (S := (fun w' : World => w'.cell? ⟨g, f, none⟩ = some (.slice (some ⟨b, off, none⟩) xs.length c))) (by kernel_rfl) hS (fun _ => ?_)
   refine tK (i := 0) (oi := zo195_3_0) (v := ?_) rfl (by kernel_rfl) (fun _ _ _ h => h) (Or.inl ⟨rfl, ?_⟩) hS ?_
   rotate_left
   · (intro w' hS'; (try dsimp only at hS'); dsimp only [zo195_3_0]; go_simp; try with_reducible rfl)
   simp only [Act.put, pA, pB, pC]
   refine tK (i := 1) (oi := zo195_3_1) (v := ?_) rfl (by kernel_rfl) (fun _ _ _ h => h) (Or.inl ⟨rfl, ?_⟩) hS ?_
   rotate_left
   · (intro w' hS'; (try dsimp only at hS'); dsimp only [zo195_3_1]; go_simp; try with_reducible rfl)
   simp only [Act.put, pA, pB, pC]
   refine tK (i := 2) (oi := zo195_3_2) (v := ?_) rfl (by kernel_rfl) (fun _ _ _ h => h) (Or.inl ⟨rfl, ?_⟩) hS ?_
   rotate_left
   · (intro w' hS'; (try dsimp only at hS'); dsimp only [zo195_3_2]; go_simp; try with_reducible rfl)
   simp only [Act.put, pA, pB, pC]
   refine tK (i := 3) (oi := zo195_3_3) (v := ?_) rfl (by kernel_rfl) (fun _ _ _ h => h) (Or.inl ⟨rfl, ?_⟩) hS ?_
   rotate_left
   · (intro w' hS'; (try dsimp only at hS'); dsimp only [zo195_3_3]; go_simp; try with_reducible rfl)
   simp only [Act.put, pA, pB, pC]
   refine tK (i := 4) (oi := zo195_3_4) (v := ?_) rfl (by kernel_rfl) (fun _ _ _ h => h) (Or.inl ⟨rfl, ?_⟩) hS ?_
   rotate_left
   · (intro w' hS'; (try dsimp only at hS'); dsimp only [zo195_3_4]; go_simp; try with_reducible rfl)
   simp only [Act.put, pA, pB, pC]
   refine tK (i := 5) (oi := zo195_3_5) (v := ?_) rfl (by kernel_rfl) (fun _ _ _ h => h) (Or.inl ⟨rfl, ?_⟩) hS ?_
   rotate_left
   · (intro w' hS'; (try dsimp only at hS'); dsimp only [zo195_3_5]; go_simp; try with_reducible rfl)
   simp only [Act.put, pA, pB, pC]
   refine tK (i := 6) (oi := zo195_3_6) (v := ?_) rfl (by kernel_rfl) (fun _ _ _ h => h) (Or.inl ⟨rfl, ?_⟩) hS ?_
   rotate_left
   · (intro w' hS'; (try dsimp only at hS'); dsimp only [zo195_3_6]; go_simp; try with_reducible rfl)
   simp only [Act.put, pA, pB, pC]
   refine tK (i := 7) (oi := zo195_3_7) (v := ?_) rfl (by kernel_rfl) (fun _ _ _ h => h) (Or.inl ⟨rfl, ?_⟩) hS ?_
   rotate_left
   · (intro w' hS'; (try dsimp only at hS'); dsimp only [zo195_3_7]; go_simp; try with_reducible rfl)
   simp only [Act.put, pA, pB, pC]
   refine tK (i := 8) (oi := zo195_3_8) (v := ?_) rfl (by kernel_rfl) (fun _ _ _ h => h) (Or.inl ⟨rfl, ?_⟩) hS ?_
   rotate_left
   · (intro w' hS'; (try dsimp only at hS'); dsimp only [zo195_3_8]; go_simp; try with_reducible rfl)
   simp only [Act.put, pA, pB, pC]
   refine tK (i := 9) (oi := zo195_3_9) (v := ?_) rfl (by kernel_rfl) (fun _ _ _ h => h) (Or.inl ⟨rfl, ?_⟩) hS ?_
   rotate_left
   · (intro w' hS'; (try dsimp only at hS'); dsimp only [zo195_3_9]; go_simp; try with_reducible rfl)
   simp only [Act.put, pA, pB, pC]
   refine tK (i := 10) (oi := zo195_3_10) (v := ?_) rfl (by kernel_rfl) (fun _ _ _ h => h) (Or.inl ⟨rfl, ?_⟩) hS ?_
   rotate_left
   · (intro w' hS'; (try dsimp only at hS'); dsimp only [zo195_3_10]; go_simp; try with_reducible rfl)
   simp only [Act.put, pA, pB, pC]
   refine wpAnyH_ready (rs := [11]) (by kernel_rfl) (by simp) ?_
   refine AllReadyH.cons (o := zo195_3_11) rfl (fun K hK => ?_) .nil
   refine step_call 197 #[.tmp 19] _ rfl rfl #[.pointer (some ⟨b, off + j, none⟩)] Tryz.call197 (by go_simp) HC.out ?_
   rintro e w1 ⟨rfl, n1, rfl⟩
   refine ⟨_, rfl, ?_⟩
   replace hS : (fun w' : World => w'.cell? ⟨g, f, none⟩ = some (.slice (some ⟨b, off, none⟩) xs.length c)) (w.drew.drewN n1) := hS
   dsimp only at hS
   refine hK.out _ _ ?_ (fun hHeld => ?_)
   · exact hS
   clear hK K hHeld
   simp only [Act.put, pA, pB, pC]
   refine tK (i := 12) (oi := zo195_3_12) (v := ?_) rfl (by kernel_rfl) (fun _ _ _ h => h) (Or.inl ⟨rfl, ?_⟩) hS ?_
   rotate_left
   · (intro w' hS'; (try dsimp only at hS'); dsimp only [zo195_3_12]; go_simp; try with_reducible rfl)
   simp only [Act.put, pA, pB, pC]
   refine wpAnyH_done (by kernel_rfl) ?_ _
   go_wp2_with fail
   go_ret
   exact ⟨ret_int he.out.symm, _, (show (w.drewN 1).drewN n1 = _ from World.drewN_drewN _ _ _)⟩
set_option maxRecDepth 100000 in
set_option maxHeartbeats 8000000 in
theorem spec_l26Ok_c {I : Ids} {o : Bool} {q : PSess} {A0 A1 A2 A3 A4 A5 : Option Addr} {k0 k1 k2 k3 k4 k5 : Nat} {F0 F1 F2 F3 F4 F5 : List Nat} {g : Nat} {T : TypeId} {more : List Value} (w : World) (R : Row w g T ([.int .i64 q.setup.band, .slice A0 q.setup.temps.length k0, .int .i64 q.setup.points, .int .i64 q.setup.most, .int .i64 q.setup.pen, .slice A1 q.setup.entries.length k1, .int .i64 q.setup.dflt, .slice A2 q.setup.bigrams.length k2, .int .i64 q.setup.pause, .slice A3 q.strokes.length k3, .slice A4 q.opn.length k4, .int .i64 q.time, .slice A5 q.words.length k5] ++ more))
 (h0 : (pTemps I.ft I.tm).rep o w q.setup.temps [.slice A0 q.setup.temps.length k0] F0) (h1 : (pEntrys I.en).rep o w q.setup.entries [.slice A1 q.setup.entries.length k1] F1) (h2 : (pBigrams I.bg).rep o w q.setup.bigrams [.slice A2 q.setup.bigrams.length k2] F2) (h3 : (pStrokes I.pt I.st).rep o w q.strokes [.slice A3 q.strokes.length k3] F3) (h4 : (pPoints I.pt).rep o w q.opn [.slice A4 q.opn.length k4] F4) (h5 : (strs 9).rep o w q.words [.slice A5 q.words.length k5] F5) (hp : SsSmall q) (hb : SsBytes q) :
 Calls Tryz.prog 138 #[.pointer (some ⟨g, 0, none⟩)] w fun e w' => e = .returned (.bool (sessB q)) ∧ Below w.heap.size w w' := by
 have HS := Lib.hid (fun w' (q0 : (pTemps I.ft I.tm).rep o w' q.setup.temps [.slice A0 q.setup.temps.length k0] F0) (q1 : (pEntrys I.en).rep o w' q.setup.entries [.slice A1 q.setup.entries.length k1] F1) (q2 : (pBigrams I.bg).rep o w' q.setup.bigrams [.slice A2 q.setup.bigrams.length k2] F2) (hg : g < w'.heap.size) (c0 : w'.cell? ⟨g, 0, none⟩ = some (.int .i64 q.setup.band)) (c1 : w'.cell? ⟨g, 1, none⟩ = some (.slice A0 q.setup.temps.length k0)) (c2 : w'.cell? ⟨g, 2, none⟩ = some (.int .i64 q.setup.points)) (c3 : w'.cell? ⟨g, 3, none⟩ = some (.int .i64 q.setup.most)) (c4 : w'.cell? ⟨g, 4, none⟩ = some (.int .i64 q.setup.pen)) (c5 : w'.cell? ⟨g, 5, none⟩ = some (.slice A1 q.setup.entries.length k1)) (c6 : w'.cell? ⟨g, 6, none⟩ = some (.int .i64 q.setup.dflt)) (c7 : w'.cell? ⟨g, 7, none⟩ = some (.slice A2 q.setup.bigrams.length k2)) (c8 : w'.cell? ⟨g, 8, none⟩ = some (.int .i64 q.setup.pause)) => spec_l26Setup_c (p := q.setup) (f := 0) w' hg c0 c1 c2 c3 c4 c5 c6 c7 c8 q0 q1 q2 hp.s hb.s)
 have HI := Lib.hid (fun w' (q0 : (pStrokes I.pt I.st).rep o w' q.strokes [.slice A3 q.strokes.length k3] F3) (hg : g < w'.heap.size) (c9 : w'.cell? ⟨g, 9, none⟩ = some (.slice A3 q.strokes.length k3)) => spec_l02Ok_c w' c9 hg q0 hp.i hp.j)
 have HT : Hid (∀ w', Calls Tryz.prog 111 #[.int .i64 q.time, .int .i64 0, .int .i64 3600000] w' fun e w'' => e = .returned (.bool (inR q.time 0 3600000)) ∧ w'' = w') := fun w' => (spec_inR_c q.time 0 3600000 w').mono fun _ _ ⟨h1, h2⟩ => ⟨h1, h2.symm⟩
 have HW := Lib.hid (fun w' (q0 : (strs 9).rep o w' q.words [.slice A5 q.words.length k5] F5) => spec_l18Plain_c w' q0 hp.w hb.w)
 have bb : Below w.heap.size w w := Below.refl _ _
 obtain ⟨d1, hd1⟩ : ∃ d, Hid (d = setupB q.setup) := ⟨_, rfl⟩
 obtain ⟨d2, hd2⟩ : ∃ d, Hid (d = inkB q.strokes) := ⟨_, rfl⟩
 obtain ⟨d3, hd3⟩ : ∃ d, Hid (d = inR q.time 0 3600000) := ⟨_, rfl⟩
 rw [← hd1.out] at HS
 rw [← hd2.out] at HI
 rw [← hd3.out] at HT
 go_enter Tryz.func138, Tryz.ntmps138
 go_wp2_with fail
 replace R := R.drew
 have hS : (fun w' : World => w'.cell? ⟨g, 9, none⟩ = some (.slice A3 q.strokes.length k3) ∧ w'.cell? ⟨g, 11, none⟩ = some (.int .i64 q.time)) w.drew := ⟨R.cell' (i := 9) rfl, R.cell' (i := 11) rfl⟩
 dsimp only at hS
 refine wp_region_held_drew (S := (fun w' : World => w'.cell? ⟨g, 9, none⟩ = some (.slice A3 q.strokes.length k3) ∧ w'.cell? ⟨g, 11, none⟩ = some (.int .i64 q.time))) (by kernel_rfl) hS (fun _ => ?_)
 replace bb := bb.drew
 replace h0 := h0.drew
 replace h1 := h1.drew
 replace h2 := h2.drew
 replace h3 := h3.drew
 replace h4 := h4.drew
 replace h5 := h5.drew
 refine tK (i := 0) (oi := zo138_1_0) (v := ?_) rfl (by kernel_rfl) (fun _ _ _ h => h) (Or.inl ⟨rfl, ?_⟩) hS ?_
 rotate_left
 · (intro w' hS'; (try dsimp only at hS'); dsimp only [zo138_1_0]; go_simp; try with_reducible rfl)
 simp only [Act.put, pA, pB, pC]
 refine tK (i := 1) (oi := zo138_1_1) (v := ?_) rfl (by kernel_rfl) (fun _ _ _ h => h) (Or.inl ⟨rfl, ?_⟩) hS ?_
 rotate_left
 · (intro w' hS'; (try dsimp only at hS'); dsimp only [zo138_1_1]; go_simp; try with_reducible rfl)
 simp only [Act.put, pA, pB, pC]
 refine tK (i := 2) (oi := zo138_1_2) (v := ?_) rfl (by kernel_rfl) (fun _ _ _ h => h) (Or.inl ⟨rfl, ?_⟩) hS ?_
 rotate_left
 · (intro w' hS'; (try dsimp only at hS'); dsimp only [zo138_1_2]; go_simp; try with_reducible rfl)
 simp only [Act.put, pA, pB, pC]
 refine wpAnyH_ready (rs := [3]) (by kernel_rfl) (by simp) ?_
 refine AllReadyH.cons (o := zo138_1_3) rfl (fun K hK => ?_) .nil
 refine step_call 43 #[.tmp 6] _ rfl rfl #[.pointer (some ⟨g, 0, none⟩)] Tryz.call43 (by go_simp) (HS.out _ h0 h1 h2 R.lt (R.cell' (i := 0) rfl) (R.cell' (i := 1) rfl) (R.cell' (i := 2) rfl) (R.cell' (i := 3) rfl) (R.cell' (i := 4) rfl) (R.cell' (i := 5) rfl) (R.cell' (i := 6) rfl) (R.cell' (i := 7) rfl) (R.cell' (i := 8) rfl)) ?_
 rintro e w1 ⟨rfl, b1⟩
 refine ⟨_, rfl, ?_⟩
 replace R := R.later b1
 replace bb := bb.trans (b1.mono bb.size)
 replace h0 := h0.below b1
 replace h1 := h1.below b1
 replace h2 := h2.below b1
 replace h3 := h3.below b1
 replace h4 := h4.below b1
 replace h5 := h5.below b1
 replace hS : (fun w' : World => w'.cell? ⟨g, 9, none⟩ = some (.slice A3 q.strokes.length k3) ∧ w'.cell? ⟨g, 11, none⟩ = some (.int .i64 q.time)) w1 := ⟨R.cell' (i := 9) rfl, R.cell' (i := 11) rfl⟩
 dsimp only at hS
 refine hK.out _ _ ?_ (fun hHeld => ?_)
 · exact hS
 clear hK K hHeld
 simp only [Act.put, pA, pB, pC]
 cases d1
 · skip
   have HF := Lib.hid (sessB_setup hd1.out.symm)
   refine tK (i := 4) (oi := zo138_1_4) (v := ?_) rfl (by kernel_rfl) (fun _ _ _ h => h) (Or.inl ⟨rfl, ?_⟩) hS ?_
   rotate_left
   · (intro w' hS'; (try dsimp only at hS'); dsimp only [zo138_1_4]; go_simp; try with_reducible rfl)
   simp only [Act.put, pA, pB, pC]
   refine tK (i := 5) (oi := zo138_1_5) (v := ?_) rfl (by kernel_rfl) (fun _ _ _ h => h) (Or.inl ⟨rfl, ?_⟩) hS ?_
   rotate_left
   · (intro w' hS'; (try dsimp only at hS'); dsimp only [zo138_1_5]; go_simp; try with_reducible rfl)
   simp only [Act.put, pA, pB, pC]
   refine tK (i := 6) (oi := zo138_1_6) rfl (by kernel_rfl) (fun _ _ _ h => h) (Or.inr ⟨rfl, rfl⟩) hS ?_
   simp only [Act.put, pA, pB, pC]
   refine tK (i := 7) (oi := zo138_1_7) rfl (by kernel_rfl) (fun _ _ _ h => h) (Or.inr ⟨rfl, rfl⟩) hS ?_
   simp only [Act.put, pA, pB, pC]
   refine tK (i := 8) (oi := zo138_1_8) rfl (by kernel_rfl) (fun _ _ _ h => h) (Or.inr ⟨rfl, rfl⟩) hS ?_
   simp only [Act.put, pA, pB, pC]
   refine tK (i := 9) (oi := zo138_1_9) rfl (by kernel_rfl) (fun _ _ _ h => h) (Or.inr ⟨rfl, rfl⟩) hS ?_
   simp only [Act.put, pA, pB, pC]
   refine tK (i := 10) (oi := zo138_1_10) rfl (by kernel_rfl) (fun _ _ _ h => h) (Or.inr ⟨rfl, rfl⟩) hS ?_
   simp only [Act.put, pA, pB, pC]
   refine tK (i := 11) (oi := zo138_1_11) (v := ?_) rfl (by kernel_rfl) (fun _ _ _ h => h) (Or.inl ⟨rfl, ?_⟩) hS ?_
   rotate_left
   · (intro w' hS'; (try dsimp only at hS'); dsimp only [zo138_1_11]; go_simp; try with_reducible rfl)
   simp only [Act.put, pA, pB, pC]
   refine tK (i := 12) (oi := zo138_1_12) (v := ?_) rfl (by kernel_rfl) (fun _ _ _ h => h) (Or.inl ⟨rfl, ?_⟩) hS ?_
   rotate_left
   · (intro w' hS'; (try dsimp only at hS'); dsimp only [zo138_1_12]; go_simp; try with_reducible rfl)
   simp only [Act.put, pA, pB, pC]
   refine tK (i := 13) (oi := zo138_1_13) rfl (by kernel_rfl) (fun _ _ _ h => h) (Or.inr ⟨rfl, rfl⟩) hS ?_
   simp only [Act.put, pA, pB, pC]
   refine tK (i := 14) (oi := zo138_1_14) rfl (by kernel_rfl) (fun _ _ _ h => h) (Or.inr ⟨rfl, rfl⟩) hS ?_
   simp only [Act.put, pA, pB, pC]
   refine tK (i := 15) (oi := zo138_1_15) rfl (by kernel_rfl) (fun _ _ _ h => h) (Or.inr ⟨rfl, rfl⟩) hS ?_
   simp only [Act.put, pA, pB, pC]
   refine tK (i := 16) (oi := zo138_1_16) rfl (by kernel_rfl) (fun _ _ _ h => h) (Or.inr ⟨rfl, rfl⟩) hS ?_
   simp only [Act.put, pA, pB, pC]
   refine tK (i := 17) (oi := zo138_1_17) rfl (by kernel_rfl) (fun _ _ _ h => h) (Or.inr ⟨rfl, rfl⟩) hS ?_
   simp only [Act.put, pA, pB, pC]
   refine tK (i := 18) (oi := zo138_1_18) rfl (by kernel_rfl) (fun _ _ _ h => h) (Or.inr ⟨rfl, rfl⟩) hS ?_
   simp only [Act.put, pA, pB, pC]
   refine tK (i := 19) (oi := zo138_1_19) (v := ?_) rfl (by kernel_rfl) (fun _ _ _ h => h) (Or.inl ⟨rfl, ?_⟩) hS ?_
   rotate_left
   · (intro w' hS'; (try dsimp only at hS'); dsimp only [zo138_1_19]; go_simp; try with_reducible rfl)
   simp only [Act.put, pA, pB, pC]
   refine tK (i := 20) (oi := zo138_1_20) (v := ?_) rfl (by kernel_rfl) (fun _ _ _ h => h) (Or.inl ⟨rfl, ?_⟩) hS ?_
   rotate_left
   · (intro w' hS'; (try dsimp only at hS'); dsimp only [zo138_1_20]; go_simp; try with_reducible rfl)
   simp only [Act.put, pA, pB, pC]
   refine tK (i := 21) (oi := zo138_1_21) rfl (by kernel_rfl) (fun _ _ _ h => h) (Or.inr ⟨rfl, rfl⟩) hS ?_
   simp only [Act.put, pA, pB, pC]
   refine tK (i := 22) (oi := zo138_1_22) rfl (by kernel_rfl) (fun _ _ _ h => h) (Or.inr ⟨rfl, rfl⟩) hS ?_
   simp only [Act.put, pA, pB, pC]
   refine tK (i := 23) (oi := zo138_1_23) rfl (by kernel_rfl) (fun _ _ _ h => h) (Or.inr ⟨rfl, rfl⟩) hS ?_
   simp only [Act.put, pA, pB, pC]
   refine tK (i := 24) (oi := zo138_1_24) rfl (by kernel_rfl) (fun _ _ _ h => h) (Or.inr ⟨rfl, rfl⟩) hS ?_
   simp only [Act.put, pA, pB, pC]
   refine tK (i := 25) (oi := zo138_1_25) rfl (by kernel_rfl) (fun _ _ _ h => h) (Or.inr ⟨rfl, rfl⟩) hS ?_
   simp only [Act.put, pA, pB, pC]
   refine tK (i := 26) (oi := zo138_1_26) rfl (by kernel_rfl) (fun _ _ _ h => h) (Or.inr ⟨rfl, rfl⟩) hS ?_
   simp only [Act.put, pA, pB, pC]
   refine tK (i := 27) (oi := zo138_1_27) rfl (by kernel_rfl) (fun _ _ _ h => h) (Or.inr ⟨rfl, rfl⟩) hS ?_
   simp only [Act.put, pA, pB, pC]
   refine tK (i := 28) (oi := zo138_1_28) rfl (by kernel_rfl) (fun _ _ _ h => h) (Or.inr ⟨rfl, rfl⟩) hS ?_
   simp only [Act.put, pA, pB, pC]
   refine tK (i := 29) (oi := zo138_1_29) rfl (by kernel_rfl) (fun _ _ _ h => h) (Or.inr ⟨rfl, rfl⟩) hS ?_
   simp only [Act.put, pA, pB, pC]
   refine tK (i := 30) (oi := zo138_1_30) (v := ?_) rfl (by kernel_rfl) (fun _ _ _ h => h) (Or.inl ⟨rfl, ?_⟩) hS ?_
   rotate_left
   · (intro w' hS'; (try dsimp only at hS'); dsimp only [zo138_1_30]; go_simp; try with_reducible rfl)
   simp only [Act.put, pA, pB, pC]
   refine wpAnyH_done (by kernel_rfl) ?_ _
   go_wp2_with fail
   go_ret
   exact ⟨ret_boolI HF.out.symm, bb⟩
 refine tK (i := 4) (oi := zo138_1_4) (v := ?_) rfl (by kernel_rfl) (fun _ _ _ h => h) (Or.inl ⟨rfl, ?_⟩) hS ?_
 rotate_left
 · (intro w' hS'; (try dsimp only at hS'); dsimp only [zo138_1_4]; go_simp; try with_reducible rfl)
 simp only [Act.put, pA, pB, pC]
 refine tK (i := 5) (oi := zo138_1_5) (v := ?_) rfl (by kernel_rfl) (fun _ _ _ h => h) (Or.inl ⟨rfl, ?_⟩) hS ?_
 rotate_left
 · (intro w' hS'; (try dsimp only at hS'); dsimp only [zo138_1_5]; go_simp; try with_reducible rfl)
 simp only [Act.put, pA, pB, pC]
 refine tK (i := 6) (oi := zo138_1_6) (v := ?_) rfl (by kernel_rfl) (fun _ _ _ h => h) (Or.inl ⟨rfl, ?_⟩) hS ?_
 rotate_left
 · (intro w' hS'; (try dsimp only at hS'); dsimp only [zo138_1_6]; go_simp; try with_reducible rfl)
 simp only [Act.put, pA, pB, pC]
 refine tK (i := 7) (oi := zo138_1_7) (v := ?_) rfl (by kernel_rfl) (fun _ _ _ h => h) (Or.inl ⟨rfl, ?_⟩) hS ?_
 rotate_left
 · (intro w' hS'; (try dsimp only at hS'); dsimp only [zo138_1_7]; go_simp; try with_reducible rfl)
 simp only [Act.put, pA, pB, pC]
 refine tK (i := 8) (oi := zo138_1_8) (v := ?_) rfl (by kernel_rfl) (fun _ _ _ h => h) (Or.inl ⟨rfl, ?_⟩) hS ?_
 rotate_left
 · (intro w' hS'; (try dsimp only at hS'); dsimp only [zo138_1_8]; go_simp; try with_reducible rfl)
 simp only [Act.put, pA, pB, pC]
 refine wpAnyH_ready (rs := [9]) (by kernel_rfl) (by simp) ?_
 refine AllReadyH.cons (o := zo138_1_9) rfl (fun K hK => ?_) .nil
 refine step_call 194 #[.tmp 12] _ rfl rfl #[.pointer (some ⟨g, 9, none⟩)] Tryz.call194 (by go_simp) (HI.out _ h3 R.lt (R.cell' (i := 9) rfl)) ?_
 rintro e w2 ⟨rfl, b2⟩
 refine ⟨_, rfl, ?_⟩
 replace R := R.later b2
 replace bb := bb.trans (b2.mono bb.size)
 replace h0 := h0.below b2
 replace h1 := h1.below b2
 replace h2 := h2.below b2
 replace h3 := h3.below b2
 replace h4 := h4.below b2
 replace h5 := h5.below b2
 replace hS : (fun w' : World => w'.cell? ⟨g, 9, none⟩ = some (.slice A3 q.strokes.length k3) ∧ w'.cell? ⟨g, 11, none⟩ = some (.int .i64 q.time)) w2 := ⟨R.cell' (i := 9) rfl, R.cell' (i := 11) rfl⟩
 dsimp only at hS
 refine hK.out _ _ ?_ (fun hHeld => ?_)
 · exact hS
 clear hK K hHeld
 simp only [Act.put, pA, pB, pC]
 cases d2
 · skip
   have HF := Lib.hid (sessB_ink hd2.out.symm)
   refine tK (i := 10) (oi := zo138_1_10) (v := ?_) rfl (by kernel_rfl) (fun _ _ _ h => h) (Or.inl ⟨rfl, ?_⟩) hS ?_
   rotate_left
   · (intro w' hS'; (try dsimp only at hS'); dsimp only [zo138_1_10]; go_simp; try with_reducible rfl)
   simp only [Act.put, pA, pB, pC]
   refine tK (i := 11) (oi := zo138_1_11) (v := ?_) rfl (by kernel_rfl) (fun _ _ _ h => h) (Or.inl ⟨rfl, ?_⟩) hS ?_
   rotate_left
   · (intro w' hS'; (try dsimp only at hS'); dsimp only [zo138_1_11]; go_simp; try with_reducible rfl)
   simp only [Act.put, pA, pB, pC]
   refine tK (i := 12) (oi := zo138_1_12) (v := ?_) rfl (by kernel_rfl) (fun _ _ _ h => h) (Or.inl ⟨rfl, ?_⟩) hS ?_
   rotate_left
   · (intro w' hS'; (try dsimp only at hS'); dsimp only [zo138_1_12]; go_simp; try with_reducible rfl)
   simp only [Act.put, pA, pB, pC]
   refine tK (i := 13) (oi := zo138_1_13) rfl (by kernel_rfl) (fun _ _ _ h => h) (Or.inr ⟨rfl, rfl⟩) hS ?_
   simp only [Act.put, pA, pB, pC]
   refine tK (i := 14) (oi := zo138_1_14) rfl (by kernel_rfl) (fun _ _ _ h => h) (Or.inr ⟨rfl, rfl⟩) hS ?_
   simp only [Act.put, pA, pB, pC]
   refine tK (i := 15) (oi := zo138_1_15) rfl (by kernel_rfl) (fun _ _ _ h => h) (Or.inr ⟨rfl, rfl⟩) hS ?_
   simp only [Act.put, pA, pB, pC]
   refine tK (i := 16) (oi := zo138_1_16) rfl (by kernel_rfl) (fun _ _ _ h => h) (Or.inr ⟨rfl, rfl⟩) hS ?_
   simp only [Act.put, pA, pB, pC]
   refine tK (i := 17) (oi := zo138_1_17) rfl (by kernel_rfl) (fun _ _ _ h => h) (Or.inr ⟨rfl, rfl⟩) hS ?_
   simp only [Act.put, pA, pB, pC]
   refine tK (i := 18) (oi := zo138_1_18) rfl (by kernel_rfl) (fun _ _ _ h => h) (Or.inr ⟨rfl, rfl⟩) hS ?_
   simp only [Act.put, pA, pB, pC]
   refine tK (i := 19) (oi := zo138_1_19) (v := ?_) rfl (by kernel_rfl) (fun _ _ _ h => h) (Or.inl ⟨rfl, ?_⟩) hS ?_
   rotate_left
   · (intro w' hS'; (try dsimp only at hS'); dsimp only [zo138_1_19]; go_simp; try with_reducible rfl)
   simp only [Act.put, pA, pB, pC]
   refine tK (i := 20) (oi := zo138_1_20) (v := ?_) rfl (by kernel_rfl) (fun _ _ _ h => h) (Or.inl ⟨rfl, ?_⟩) hS ?_
   rotate_left
   · (intro w' hS'; (try dsimp only at hS'); dsimp only [zo138_1_20]; go_simp; try with_reducible rfl)
   simp only [Act.put, pA, pB, pC]
   refine tK (i := 21) (oi := zo138_1_21) rfl (by kernel_rfl) (fun _ _ _ h => h) (Or.inr ⟨rfl, rfl⟩) hS ?_
   simp only [Act.put, pA, pB, pC]
   refine tK (i := 22) (oi := zo138_1_22) rfl (by kernel_rfl) (fun _ _ _ h => h) (Or.inr ⟨rfl, rfl⟩) hS ?_
   simp only [Act.put, pA, pB, pC]
   refine tK (i := 23) (oi := zo138_1_23) rfl (by kernel_rfl) (fun _ _ _ h => h) (Or.inr ⟨rfl, rfl⟩) hS ?_
   simp only [Act.put, pA, pB, pC]
   refine tK (i := 24) (oi := zo138_1_24) rfl (by kernel_rfl) (fun _ _ _ h => h) (Or.inr ⟨rfl, rfl⟩) hS ?_
   simp only [Act.put, pA, pB, pC]
   refine tK (i := 25) (oi := zo138_1_25) rfl (by kernel_rfl) (fun _ _ _ h => h) (Or.inr ⟨rfl, rfl⟩) hS ?_
   simp only [Act.put, pA, pB, pC]
   refine tK (i := 26) (oi := zo138_1_26) rfl (by kernel_rfl) (fun _ _ _ h => h) (Or.inr ⟨rfl, rfl⟩) hS ?_
   simp only [Act.put, pA, pB, pC]
   refine tK (i := 27) (oi := zo138_1_27) rfl (by kernel_rfl) (fun _ _ _ h => h) (Or.inr ⟨rfl, rfl⟩) hS ?_
   simp only [Act.put, pA, pB, pC]
   refine tK (i := 28) (oi := zo138_1_28) rfl (by kernel_rfl) (fun _ _ _ h => h) (Or.inr ⟨rfl, rfl⟩) hS ?_
   simp only [Act.put, pA, pB, pC]
   refine tK (i := 29) (oi := zo138_1_29) rfl (by kernel_rfl) (fun _ _ _ h => h) (Or.inr ⟨rfl, rfl⟩) hS ?_
   simp only [Act.put, pA, pB, pC]
   refine tK (i := 30) (oi := zo138_1_30) (v := ?_) rfl (by kernel_rfl) (fun _ _ _ h => h) (Or.inl ⟨rfl, ?_⟩) hS ?_
   rotate_left
   · (intro w' hS'; (try dsimp only at hS'); dsimp only [zo138_1_30]; go_simp; try with_reducible rfl)
   simp only [Act.put, pA, pB, pC]
   refine wpAnyH_done (by kernel_rfl) ?_ _
   go_wp2_with fail
   go_ret
   exact ⟨ret_boolI HF.out.symm, bb⟩
 have HE : Hid (∀ w', (pStrokes I.pt I.st).rep o w' q.strokes [.slice A3 q.strokes.length k3] F3 → w'.cell? ⟨g, 9, none⟩ = some (.slice A3 q.strokes.length k3) → Calls Tryz.prog 195 #[.pointer (some ⟨g, 9, none⟩)] w' fun e w'' => e = .returned (.int .i64 (inkEndI q.strokes)) ∧ Below w'.heap.size w' w'') := fun w' q0 c9 => (spec_l26End_c w' c9 q0 hp.j hd2.out.symm).mono fun _ _ ⟨h1, n, h2⟩ => ⟨h1, h2 ▸ below_drewN (Below.refl _ _) n⟩
 refine tK (i := 10) (oi := zo138_1_10) (v := ?_) rfl (by kernel_rfl) (fun _ _ _ h => h) (Or.inl ⟨rfl, ?_⟩) hS ?_
 rotate_left
 · (intro w' hS'; (try dsimp only at hS'); dsimp only [zo138_1_10]; go_simp; try with_reducible rfl)
 simp only [Act.put, pA, pB, pC]
 refine tK (i := 11) (oi := zo138_1_11) (v := ?_) rfl (by kernel_rfl) (fun _ _ _ h => h) (Or.inl ⟨rfl, ?_⟩) hS ?_
 rotate_left
 · (intro w' hS'; (try dsimp only at hS'); dsimp only [zo138_1_11]; go_simp; try with_reducible rfl)
 simp only [Act.put, pA, pB, pC]
 refine tK (i := 12) (oi := zo138_1_12) (v := ?_) rfl (by kernel_rfl) (fun _ _ _ h => h) (Or.inl ⟨rfl, ?_⟩) hS ?_
 rotate_left
 · (intro w' hS'; (try dsimp only at hS'); dsimp only [zo138_1_12]; go_simp; try with_reducible rfl)
 simp only [Act.put, pA, pB, pC]
 refine tK (i := 13) (oi := zo138_1_13) (v := ?_) rfl (by kernel_rfl) (fun _ _ _ h => h) (Or.inl ⟨rfl, ?_⟩) hS ?_
 rotate_left
 · (intro w' hS'; (try dsimp only at hS'); dsimp only [zo138_1_13]; go_simp; try with_reducible rfl)
 simp only [Act.put, pA, pB, pC]
 refine tK (i := 14) (oi := zo138_1_14) (v := ?_) rfl (by kernel_rfl) (fun _ _ _ h => h) (Or.inl ⟨rfl, ?_⟩) hS ?_
 rotate_left
 · (intro w' hS'; (try dsimp only at hS'); dsimp only [zo138_1_14]; go_simp; try with_reducible rfl)
 simp only [Act.put, pA, pB, pC]
 refine tK (i := 15) (oi := zo138_1_15) (v := ?_) rfl (by kernel_rfl) (fun _ _ _ h => h) (Or.inl ⟨rfl, ?_⟩) hS ?_
 rotate_left
 · (intro w' hS'; (try dsimp only at hS'); dsimp only [zo138_1_15]; go_simp; try with_reducible rfl)
 simp only [Act.put, pA, pB, pC]
 refine tK (i := 16) (oi := zo138_1_16) (v := ?_) rfl (by kernel_rfl) (fun _ _ _ h => h) (Or.inl ⟨rfl, ?_⟩) hS ?_
 rotate_left
 · (intro w' hS'; (try dsimp only at hS'); dsimp only [zo138_1_16]; go_simp; try with_reducible rfl)
 simp only [Act.put, pA, pB, pC]
 refine wpAnyH_ready (rs := [17]) (by kernel_rfl) (by simp) ?_
 refine AllReadyH.cons (o := zo138_1_17) rfl (fun K hK => ?_) .nil
 refine step_call 111 #[.tmp 20, .const (.int .i64 0), .const (.int .i64 3600000)] _ rfl rfl #[.int .i64 q.time, .int .i64 0, .int .i64 3600000] Tryz.call111 (by go_simp) (HT.out _) ?_
 rintro e w3 ⟨rfl, rfl⟩
 refine ⟨_, rfl, ?_⟩
 refine hK.out _ _ ?_ (fun hHeld => ?_)
 · exact hS
 clear hK K hHeld
 simp only [Act.put, pA, pB, pC]
 cases d3
 · skip
   have HF := Lib.hid (sessB_time hd3.out.symm)
   refine tK (i := 18) (oi := zo138_1_18) (v := ?_) rfl (by kernel_rfl) (fun _ _ _ h => h) (Or.inl ⟨rfl, ?_⟩) hS ?_
   rotate_left
   · (intro w' hS'; (try dsimp only at hS'); dsimp only [zo138_1_18]; go_simp; try with_reducible rfl)
   simp only [Act.put, pA, pB, pC]
   refine tK (i := 19) (oi := zo138_1_19) (v := ?_) rfl (by kernel_rfl) (fun _ _ _ h => h) (Or.inl ⟨rfl, ?_⟩) hS ?_
   rotate_left
   · (intro w' hS'; (try dsimp only at hS'); dsimp only [zo138_1_19]; go_simp; try with_reducible rfl)
   simp only [Act.put, pA, pB, pC]
   refine tK (i := 20) (oi := zo138_1_20) (v := ?_) rfl (by kernel_rfl) (fun _ _ _ h => h) (Or.inl ⟨rfl, ?_⟩) hS ?_
   rotate_left
   · (intro w' hS'; (try dsimp only at hS'); dsimp only [zo138_1_20]; go_simp; try with_reducible rfl)
   simp only [Act.put, pA, pB, pC]
   refine tK (i := 21) (oi := zo138_1_21) rfl (by kernel_rfl) (fun _ _ _ h => h) (Or.inr ⟨rfl, rfl⟩) hS ?_
   simp only [Act.put, pA, pB, pC]
   refine tK (i := 22) (oi := zo138_1_22) rfl (by kernel_rfl) (fun _ _ _ h => h) (Or.inr ⟨rfl, rfl⟩) hS ?_
   simp only [Act.put, pA, pB, pC]
   refine tK (i := 23) (oi := zo138_1_23) rfl (by kernel_rfl) (fun _ _ _ h => h) (Or.inr ⟨rfl, rfl⟩) hS ?_
   simp only [Act.put, pA, pB, pC]
   refine tK (i := 24) (oi := zo138_1_24) rfl (by kernel_rfl) (fun _ _ _ h => h) (Or.inr ⟨rfl, rfl⟩) hS ?_
   simp only [Act.put, pA, pB, pC]
   refine tK (i := 25) (oi := zo138_1_25) rfl (by kernel_rfl) (fun _ _ _ h => h) (Or.inr ⟨rfl, rfl⟩) hS ?_
   simp only [Act.put, pA, pB, pC]
   refine tK (i := 26) (oi := zo138_1_26) rfl (by kernel_rfl) (fun _ _ _ h => h) (Or.inr ⟨rfl, rfl⟩) hS ?_
   simp only [Act.put, pA, pB, pC]
   refine tK (i := 27) (oi := zo138_1_27) rfl (by kernel_rfl) (fun _ _ _ h => h) (Or.inr ⟨rfl, rfl⟩) hS ?_
   simp only [Act.put, pA, pB, pC]
   refine tK (i := 28) (oi := zo138_1_28) rfl (by kernel_rfl) (fun _ _ _ h => h) (Or.inr ⟨rfl, rfl⟩) hS ?_
   simp only [Act.put, pA, pB, pC]
   refine tK (i := 29) (oi := zo138_1_29) rfl (by kernel_rfl) (fun _ _ _ h => h) (Or.inr ⟨rfl, rfl⟩) hS ?_
   simp only [Act.put, pA, pB, pC]
   refine tK (i := 30) (oi := zo138_1_30) (v := ?_) rfl (by kernel_rfl) (fun _ _ _ h => h) (Or.inl ⟨rfl, ?_⟩) hS ?_
   rotate_left
   · (intro w' hS'; (try dsimp only at hS'); dsimp only [zo138_1_30]; go_simp; try with_reducible rfl)
   simp only [Act.put, pA, pB, pC]
   refine wpAnyH_done (by kernel_rfl) ?_ _
   go_wp2_with fail
   go_ret
   exact ⟨ret_boolI HF.out.symm, bb⟩
 refine tK (i := 18) (oi := zo138_1_18) (v := ?_) rfl (by kernel_rfl) (fun _ _ _ h => h) (Or.inl ⟨rfl, ?_⟩) hS ?_
 rotate_left
 · (intro w' hS'; (try dsimp only at hS'); dsimp only [zo138_1_18]; go_simp; try with_reducible rfl)
 simp only [Act.put, pA, pB, pC]
 refine tK (i := 19) (oi := zo138_1_19) (v := ?_) rfl (by kernel_rfl) (fun _ _ _ h => h) (Or.inl ⟨rfl, ?_⟩) hS ?_
 rotate_left
 · (intro w' hS'; (try dsimp only at hS'); dsimp only [zo138_1_19]; go_simp; try with_reducible rfl)
 simp only [Act.put, pA, pB, pC]
 refine tK (i := 20) (oi := zo138_1_20) (v := ?_) rfl (by kernel_rfl) (fun _ _ _ h => h) (Or.inl ⟨rfl, ?_⟩) hS ?_
 rotate_left
 · (intro w' hS'; (try dsimp only at hS'); dsimp only [zo138_1_20]; go_simp; try with_reducible rfl)
 simp only [Act.put, pA, pB, pC]
 refine tK (i := 21) (oi := zo138_1_21) (v := ?_) rfl (by kernel_rfl) (fun _ _ _ h => h) (Or.inl ⟨rfl, ?_⟩) hS ?_
 rotate_left
 · (intro w' hS'; (try dsimp only at hS'); dsimp only [zo138_1_21]; go_simp; try with_reducible rfl)
 simp only [Act.put, pA, pB, pC]
 refine tK (i := 22) (oi := zo138_1_22) (v := ?_) rfl (by kernel_rfl) (fun _ _ _ h => h) (Or.inl ⟨rfl, ?_⟩) hS ?_
 rotate_left
 · (intro w' hS'; (try dsimp only at hS'); dsimp only [zo138_1_22]; go_simp; try with_reducible rfl)
 simp only [Act.put, pA, pB, pC]
 refine tK (i := 23) (oi := zo138_1_23) (v := ?_) rfl (by kernel_rfl) (fun _ _ _ h => h) (Or.inl ⟨rfl, ?_⟩) hS ?_
 rotate_left
 · (intro w' hS'; (try dsimp only at hS'); dsimp only [zo138_1_23]; go_simp; try with_reducible rfl)
 simp only [Act.put, pA, pB, pC]
 refine tK (i := 25) (oi := zo138_1_25) (v := ?_) rfl (by kernel_rfl) (fun _ _ _ h => h) (Or.inl ⟨rfl, ?_⟩) hS ?_
 rotate_left
 · (intro w' hS'; (try dsimp only at hS'); dsimp only [zo138_1_25]; go_simp; try with_reducible rfl)
 simp only [Act.put, pA, pB, pC]
 refine tK (i := 26) (oi := zo138_1_26) (v := ?_) rfl (by kernel_rfl) (fun _ _ _ h => h) (Or.inl ⟨rfl, ?_⟩) hS ?_
 rotate_left
 · (intro w' hS'; (try dsimp only at hS'); dsimp only [zo138_1_26]; go_simp; try with_reducible rfl)
 simp only [Act.put, pA, pB, pC]
 refine tK (i := 27) (oi := zo138_1_27) (v := ?_) rfl (by kernel_rfl) (fun _ _ _ h => h) (Or.inl ⟨rfl, ?_⟩) hS ?_
 rotate_left
 · (intro w' hS'; (try dsimp only at hS'); dsimp only [zo138_1_27]; go_simp; try with_reducible rfl)
 simp only [Act.put, pA, pB, pC]
 refine tK (i := 28) (oi := zo138_1_28) (v := ?_) rfl (by kernel_rfl) (fun _ _ _ h => h) (Or.inl ⟨rfl, ?_⟩) hS ?_
 rotate_left
 · (intro w' hS'; (try dsimp only at hS'); dsimp only [zo138_1_28]; go_simp; try with_reducible rfl)
 simp only [Act.put, pA, pB, pC]
 refine wpAnyH_ready (rs := [24]) (by kernel_rfl) (by simp) ?_
 refine AllReadyH.cons (o := zo138_1_24) rfl (fun K hK => ?_) .nil
 refine step_call 195 #[.tmp 27] _ rfl rfl #[.pointer (some ⟨g, 9, none⟩)] Tryz.call195 (by go_simp) (HE.out _ h3 (R.cell' (i := 9) rfl)) ?_
 rintro e w4 ⟨rfl, b4⟩
 refine ⟨_, rfl, ?_⟩
 replace R := R.later b4
 replace bb := bb.trans (b4.mono bb.size)
 replace h0 := h0.below b4
 replace h1 := h1.below b4
 replace h2 := h2.below b4
 replace h3 := h3.below b4
 replace h4 := h4.below b4
 replace h5 := h5.below b4
 replace hS : (fun w' : World => w'.cell? ⟨g, 9, none⟩ = some (.slice A3 q.strokes.length k3) ∧ w'.cell? ⟨g, 11, none⟩ = some (.int .i64 q.time)) w4 := ⟨R.cell' (i := 9) rfl, R.cell' (i := 11) rfl⟩
 dsimp only at hS
 refine hK.out _ _ ?_ (fun hHeld => ?_)
 · exact hS
 clear hK K hHeld
 simp only [Act.put, pA, pB, pC]
 by_cases he : inkEndI q.strokes ≤ q.time
 case neg =>
  have HF := Lib.hid (sessB_end he)
  have ge : (q.time < inkEndI q.strokes) = True := eq_true (by omega)
  clear he
  refine tK (i := 29) (oi := zo138_1_29) (v := ?_) rfl (by kernel_rfl) (fun _ _ _ h => h) (Or.inl ⟨rfl, ?_⟩) hS ?_
  rotate_left
  · (intro w' hS'; (try dsimp only at hS'); dsimp only [zo138_1_29]; go_simp; try with_reducible rfl)
  simp only [Act.put, pA, pB, pC]
  refine tK (i := 30) (oi := zo138_1_30) (v := ?_) rfl (by kernel_rfl) (fun _ _ _ h => h) (Or.inl ⟨rfl, ?_⟩) hS ?_
  rotate_left
  · (intro w' hS'; (try dsimp only at hS'); dsimp only [zo138_1_30]; go_simp; try with_reducible rfl)
  simp only [Act.put, pA, pB, pC]
  refine wpAnyH_done (by kernel_rfl) ?_ _
  go_wp2_with fail
  go_ret
  exact ⟨ret_boolI HF.out.symm, bb⟩
 have ge : (q.time < inkEndI q.strokes) = False := eq_false (by omega)
 have hok4 := Lib.hid he
 clear he
 refine tK (i := 29) (oi := zo138_1_29) (v := ?_) rfl (by kernel_rfl) (fun _ _ _ h => h) (Or.inl ⟨rfl, ?_⟩) hS ?_
 rotate_left
 · (intro w' hS'; (try dsimp only at hS'); dsimp only [zo138_1_29]; go_simp; try with_reducible rfl)
 simp only [Act.put, pA, pB, pC]
 refine tK (i := 30) (oi := zo138_1_30) (v := ?_) rfl (by kernel_rfl) (fun _ _ _ h => h) (Or.inl ⟨rfl, ?_⟩) hS ?_
 rotate_left
 · (intro w' hS'; (try dsimp only at hS'); dsimp only [zo138_1_30]; go_simp; try with_reducible rfl)
 simp only [Act.put, pA, pB, pC]
 refine wpAnyH_done (by kernel_rfl) ?_ _
 have hok1 := Lib.hid hd1.out.symm
 have hok2 := Lib.hid hd2.out.symm
 have hok3 := Lib.hid hd3.out.symm
 clear hd1 hd2 hd3
 have x2 := R.cell' (i := 10) rfl
 by_cases hz : q.opn.length = 0
 · have g0 : (0 < q.opn.length) = False := eq_false (by omega)
   have hop : Hid (openB q = true) := by show _ = _; simp [openB, hz]
   clear hz
   have hrest := Lib.hid (sessB_rest (q := q) hok1.out hok2.out hok3.out hok4.out hop.out)
   have x4 := R.cell' (i := 12) rfl
   generalize hd : q.words.all isWordB = d at HW hrest
   clear hd
   cases d
   · have HF : Hid (sessB q = false) := by show _ = _; rw [hrest.out, Bool.false_and]
     clear hrest
     go_wp2_with fail
     refine (HW.out _ h5).mono ?_
     rintro e w9 ⟨rfl, rfl⟩
     go_wp2_with fail
     go_ret
     exact ⟨ret_boolI HF.out.symm, bb⟩
   · by_cases h60 : q.words.length ≤ 60
     · have g6 : ((q.words.length : Int) ≤ 60) = True := eq_true (by omega)
       have HF : Hid (sessB q = true) := by show _ = _; rw [hrest.out, decide_eq_true h60]; rfl
       clear h60 hrest
       go_wp2_with fail
       refine (HW.out _ h5).mono ?_
       rintro e w9 ⟨rfl, rfl⟩
       go_wp2_with fail
       go_ret
       exact ⟨ret_boolI HF.out.symm, bb⟩
     · have g6 : ((q.words.length : Int) ≤ 60) = False := eq_false (by omega)
       have HF : Hid (sessB q = false) := by show _ = _; rw [hrest.out, decide_eq_false h60]; rfl
       clear h60 hrest
       go_wp2_with fail
       refine (HW.out _ h5).mono ?_
       rintro e w9 ⟨rfl, rfl⟩
       go_wp2_with fail
       go_ret
       exact ⟨ret_boolI HF.out.symm, bb⟩
 have hzp : 0 < q.opn.length := by omega
 have g0 : (0 < q.opn.length) = True := eq_true hzp
 have hob : openB q = (strokeB q.opn && (decide (inkEndI q.strokes < (pt q.opn 0).t) && decide (lastT q.opn ≤ q.time))) := by rw [show lastT q.opn = (pt q.opn (q.opn.length - 1)).t from rfl]; simp [openB, hz]
 have hp0 : (pt q.opn 0).t = q.opn[0].t := by rw [pt_get hzp]
 rw [hp0] at hob
 obtain ⟨_, _, hv4, _, _, ho⟩ := pPoints_open h4
 obtain ⟨bo, oo, ho1, nbo, _, _, _, po, _⟩ := ho 0 hzp
 simp only [Value.slice.injEq] at hv4
 obtain ⟨hv4, -, -⟩ := hv4
 subst hv4
 subst ho1
 clear ho
 simp only [Nat.zero_mul, Nat.add_zero] at po
 obtain ⟨d5, hd5⟩ : ∃ d, Hid (d = strokeB q.opn) := ⟨_, rfl⟩
 have HV := Lib.hid (fun w' (q0 : (pPoints I.pt).rep o w' q.opn [.slice (some ⟨bo, oo, none⟩) q.opn.length k4] F4) (c0 : w'.cell? ⟨w4.heap.size, 0, none⟩ = some (.slice (some ⟨bo, oo, none⟩) q.opn.length k4)) (hg : w4.heap.size < w'.heap.size) => spec_l02Stroke_c w' c0 hg q0 hp.o)
 rw [← hd5.out] at HV
 have HLO : Hid (∀ w', (pPoints I.pt).rep o w' q.opn [.slice (some ⟨bo, oo, none⟩) q.opn.length k4] F4 → w'.cell? ⟨w4.heap.size, 0, none⟩ = some (.slice (some ⟨bo, oo, none⟩) q.opn.length k4) → Calls Tryz.prog 197 #[.pointer (some ⟨w4.heap.size, 0, none⟩)] w' fun e w'' => e = .returned (.int .i64 (lastT q.opn)) ∧ Below w'.heap.size w' w'') := fun w' q0 c0 => (spec_l02Last_c w' c0 q0 hzp hp.o).mono fun _ _ ⟨h1, n, h2⟩ => ⟨h1, h2 ▸ below_drewN (Below.refl _ _) n⟩
 have hi0 : (0 : Int) < (q.opn.length : Int) := by omega
 clear hz hp0
 go_upto_region 5 with fail
 clear x2
 replace po := (((Below.refl _ _).alloc (Nat.le_refl _) (.cells #[.slice (some ⟨bo, oo, none⟩) q.opn.length k4] 141)).cell (p := ⟨_, _, none⟩) nbo).trans po
 replace nbo : bo < (w4.alloc (.cells #[.slice (some ⟨bo, oo, none⟩) q.opn.length k4] 141)).drew.heap.size := by simp; omega
 replace R := R.alloc (.cells #[.slice (some ⟨bo, oo, none⟩) q.opn.length k4] 141)
 have Q := Row.new w4 141 #[.slice (some ⟨bo, oo, none⟩) q.opn.length k4]
 replace bb := bb.alloc bb.size (.cells #[.slice (some ⟨bo, oo, none⟩) q.opn.length k4] 141)
 replace h0 := h0.alloc (.cells #[.slice (some ⟨bo, oo, none⟩) q.opn.length k4] 141)
 replace h1 := h1.alloc (.cells #[.slice (some ⟨bo, oo, none⟩) q.opn.length k4] 141)
 replace h2 := h2.alloc (.cells #[.slice (some ⟨bo, oo, none⟩) q.opn.length k4] 141)
 replace h3 := h3.alloc (.cells #[.slice (some ⟨bo, oo, none⟩) q.opn.length k4] 141)
 replace h4 := h4.alloc (.cells #[.slice (some ⟨bo, oo, none⟩) q.opn.length k4] 141)
 replace h5 := h5.alloc (.cells #[.slice (some ⟨bo, oo, none⟩) q.opn.length k4] 141)
 go_wp2_with fail
 replace R := R.drew
 replace Q := Q.drew
 have hS : (fun w' : World => w'.cell? ⟨g, 9, none⟩ = some (.slice A3 q.strokes.length k3) ∧ w'.cell? ⟨g, 10, none⟩ = some (.slice (some ⟨bo, oo, none⟩) q.opn.length k4) ∧ w'.cell? ⟨g, 11, none⟩ = some (.int .i64 q.time) ∧ w'.cell? ⟨w4.heap.size, 0, none⟩ = some (.slice (some ⟨bo, oo, none⟩) q.opn.length k4) ∧ w'.cell? ⟨bo, oo + 2, none⟩ = some (.int .i64 q.opn[0].t)) (w4.alloc (.cells #[.slice (some ⟨bo, oo, none⟩) q.opn.length k4] 141)).drew := ⟨R.cell' (i := 9) rfl, R.cell' (i := 10) rfl, R.cell' (i := 11) rfl, Q.cell' (i := 0) rfl, po⟩
 dsimp only at hS
 refine wp_region_held_drew (S := (fun w' : World => w'.cell? ⟨g, 9, none⟩ = some (.slice A3 q.strokes.length k3) ∧ w'.cell? ⟨g, 10, none⟩ = some (.slice (some ⟨bo, oo, none⟩) q.opn.length k4) ∧ w'.cell? ⟨g, 11, none⟩ = some (.int .i64 q.time) ∧ w'.cell? ⟨w4.heap.size, 0, none⟩ = some (.slice (some ⟨bo, oo, none⟩) q.opn.length k4) ∧ w'.cell? ⟨bo, oo + 2, none⟩ = some (.int .i64 q.opn[0].t))) (by kernel_rfl) hS (fun _ => ?_)
 replace bb := bb.drew
 replace h0 := h0.drew
 replace h1 := h1.drew
 replace h2 := h2.drew
 replace h3 := h3.drew
 replace h4 := h4.drew
 replace h5 := h5.drew
 refine wpAnyH_ready (rs := [0]) (by kernel_rfl) (by simp) ?_
 refine AllReadyH.cons (o := zo138_5_0) rfl (fun K hK => ?_) .nil
 refine step_call 196 #[.tmp 3] _ rfl rfl #[.pointer (some ⟨w4.heap.size, 0, none⟩)] Tryz.call196 (by go_simp) (HV.out _ h4 (Q.cell' (i := 0) rfl) Q.lt) ?_
 rintro e w5 ⟨rfl, b5⟩
 refine ⟨_, rfl, ?_⟩
 replace R := R.later b5
 replace Q := Q.later b5
 replace po := (b5.cell (p := ⟨_, _, none⟩) nbo).trans po
 replace nbo := Nat.lt_of_lt_of_le nbo b5.size
 replace bb := bb.trans (b5.mono bb.size)
 replace h0 := h0.below b5
 replace h1 := h1.below b5
 replace h2 := h2.below b5
 replace h3 := h3.below b5
 replace h4 := h4.below b5
 replace h5 := h5.below b5
 replace hS : (fun w' : World => w'.cell? ⟨g, 9, none⟩ = some (.slice A3 q.strokes.length k3) ∧ w'.cell? ⟨g, 10, none⟩ = some (.slice (some ⟨bo, oo, none⟩) q.opn.length k4) ∧ w'.cell? ⟨g, 11, none⟩ = some (.int .i64 q.time) ∧ w'.cell? ⟨w4.heap.size, 0, none⟩ = some (.slice (some ⟨bo, oo, none⟩) q.opn.length k4) ∧ w'.cell? ⟨bo, oo + 2, none⟩ = some (.int .i64 q.opn[0].t)) w5 := ⟨R.cell' (i := 9) rfl, R.cell' (i := 10) rfl, R.cell' (i := 11) rfl, Q.cell' (i := 0) rfl, po⟩
 dsimp only at hS
 refine hK.out _ _ ?_ (fun hHeld => ?_)
 · exact hS
 clear hK K hHeld
 simp only [Act.put, pA, pB, pC]
 cases d5
 · skip
   have HF := Lib.hid (sessB_open (by rw [hob, ← hd5.out]; rfl))
   refine tK (i := 1) (oi := zo138_5_1) (v := ?_) rfl (by kernel_rfl) (fun _ _ _ h => h) (Or.inl ⟨rfl, ?_⟩) hS ?_
   rotate_left
   · (intro w' hS'; (try dsimp only at hS'); dsimp only [zo138_5_1]; go_simp; try with_reducible rfl)
   simp only [Act.put, pA, pB, pC]
   refine tK (i := 2) (oi := zo138_5_2) (v := ?_) rfl (by kernel_rfl) (fun _ _ _ h => h) (Or.inl ⟨rfl, ?_⟩) hS ?_
   rotate_left
   · (intro w' hS'; (try dsimp only at hS'); dsimp only [zo138_5_2]; go_simp; try with_reducible rfl)
   simp only [Act.put, pA, pB, pC]
   refine tK (i := 3) (oi := zo138_5_3) rfl (by kernel_rfl) (fun _ _ _ h => h) (Or.inr ⟨rfl, rfl⟩) hS ?_
   simp only [Act.put, pA, pB, pC]
   refine tK (i := 4) (oi := zo138_5_4) rfl (by kernel_rfl) (fun _ _ _ h => h) (Or.inr ⟨rfl, rfl⟩) hS ?_
   simp only [Act.put, pA, pB, pC]
   refine tK (i := 5) (oi := zo138_5_5) rfl (by kernel_rfl) (fun _ _ _ h => h) (Or.inr ⟨rfl, rfl⟩) hS ?_
   simp only [Act.put, pA, pB, pC]
   refine tK (i := 6) (oi := zo138_5_6) rfl (by kernel_rfl) (fun _ _ _ h => h) (Or.inr ⟨rfl, rfl⟩) hS ?_
   simp only [Act.put, pA, pB, pC]
   refine tK (i := 7) (oi := zo138_5_7) rfl (by kernel_rfl) (fun _ _ _ h => h) (Or.inr ⟨rfl, rfl⟩) hS ?_
   simp only [Act.put, pA, pB, pC]
   refine tK (i := 8) (oi := zo138_5_8) rfl (by kernel_rfl) (fun _ _ _ h => h) (Or.inr ⟨rfl, rfl⟩) hS ?_
   simp only [Act.put, pA, pB, pC]
   refine tK (i := 9) (oi := zo138_5_9) rfl (by kernel_rfl) (fun _ _ _ h => h) (Or.inr ⟨rfl, rfl⟩) hS ?_
   simp only [Act.put, pA, pB, pC]
   refine tK (i := 10) (oi := zo138_5_10) rfl (by kernel_rfl) (fun _ _ _ h => h) (Or.inr ⟨rfl, rfl⟩) hS ?_
   simp only [Act.put, pA, pB, pC]
   refine tK (i := 11) (oi := zo138_5_11) rfl (by kernel_rfl) (fun _ _ _ h => h) (Or.inr ⟨rfl, rfl⟩) hS ?_
   simp only [Act.put, pA, pB, pC]
   refine tK (i := 12) (oi := zo138_5_12) rfl (by kernel_rfl) (fun _ _ _ h => h) (Or.inr ⟨rfl, rfl⟩) hS ?_
   simp only [Act.put, pA, pB, pC]
   refine tK (i := 13) (oi := zo138_5_13) rfl (by kernel_rfl) (fun _ _ _ h => h) (Or.inr ⟨rfl, rfl⟩) hS ?_
   simp only [Act.put, pA, pB, pC]
   refine tK (i := 14) (oi := zo138_5_14) rfl (by kernel_rfl) (fun _ _ _ h => h) (Or.inr ⟨rfl, rfl⟩) hS ?_
   simp only [Act.put, pA, pB, pC]
   refine tK (i := 15) (oi := zo138_5_15) (v := ?_) rfl (by kernel_rfl) (fun _ _ _ h => h) (Or.inl ⟨rfl, ?_⟩) hS ?_
   rotate_left
   · (intro w' hS'; (try dsimp only at hS'); dsimp only [zo138_5_15]; go_simp; try with_reducible rfl)
   simp only [Act.put, pA, pB, pC]
   refine tK (i := 16) (oi := zo138_5_16) (v := ?_) rfl (by kernel_rfl) (fun _ _ _ h => h) (Or.inl ⟨rfl, ?_⟩) hS ?_
   rotate_left
   · (intro w' hS'; (try dsimp only at hS'); dsimp only [zo138_5_16]; go_simp; try with_reducible rfl)
   simp only [Act.put, pA, pB, pC]
   refine tK (i := 17) (oi := zo138_5_17) rfl (by kernel_rfl) (fun _ _ _ h => h) (Or.inr ⟨rfl, rfl⟩) hS ?_
   simp only [Act.put, pA, pB, pC]
   refine tK (i := 18) (oi := zo138_5_18) rfl (by kernel_rfl) (fun _ _ _ h => h) (Or.inr ⟨rfl, rfl⟩) hS ?_
   simp only [Act.put, pA, pB, pC]
   refine tK (i := 19) (oi := zo138_5_19) rfl (by kernel_rfl) (fun _ _ _ h => h) (Or.inr ⟨rfl, rfl⟩) hS ?_
   simp only [Act.put, pA, pB, pC]
   refine tK (i := 20) (oi := zo138_5_20) rfl (by kernel_rfl) (fun _ _ _ h => h) (Or.inr ⟨rfl, rfl⟩) hS ?_
   simp only [Act.put, pA, pB, pC]
   refine tK (i := 21) (oi := zo138_5_21) rfl (by kernel_rfl) (fun _ _ _ h => h) (Or.inr ⟨rfl, rfl⟩) hS ?_
   simp only [Act.put, pA, pB, pC]
   refine tK (i := 22) (oi := zo138_5_22) rfl (by kernel_rfl) (fun _ _ _ h => h) (Or.inr ⟨rfl, rfl⟩) hS ?_
   simp only [Act.put, pA, pB, pC]
   refine tK (i := 23) (oi := zo138_5_23) (v := ?_) rfl (by kernel_rfl) (fun _ _ _ h => h) (Or.inl ⟨rfl, ?_⟩) hS ?_
   rotate_left
   · (intro w' hS'; (try dsimp only at hS'); dsimp only [zo138_5_23]; go_simp; try with_reducible rfl)
   simp only [Act.put, pA, pB, pC]
   refine wpAnyH_done (by kernel_rfl) ?_ _
   go_wp2_with fail
   go_ret
   exact ⟨ret_boolI HF.out.symm, bb⟩
 refine tK (i := 1) (oi := zo138_5_1) (v := ?_) rfl (by kernel_rfl) (fun _ _ _ h => h) (Or.inl ⟨rfl, ?_⟩) hS ?_
 rotate_left
 · (intro w' hS'; (try dsimp only at hS'); dsimp only [zo138_5_1]; go_simp; try with_reducible rfl)
 simp only [Act.put, pA, pB, pC]
 refine tK (i := 2) (oi := zo138_5_2) (v := ?_) rfl (by kernel_rfl) (fun _ _ _ h => h) (Or.inl ⟨rfl, ?_⟩) hS ?_
 rotate_left
 · (intro w' hS'; (try dsimp only at hS'); dsimp only [zo138_5_2]; go_simp; try with_reducible rfl)
 simp only [Act.put, pA, pB, pC]
 refine tK (i := 3) (oi := zo138_5_3) (v := ?_) rfl (by kernel_rfl) (fun _ _ _ h => h) (Or.inl ⟨rfl, ?_⟩) hS ?_
 rotate_left
 · (intro w' hS'; (try dsimp only at hS'); dsimp only [zo138_5_3]; go_simp; try with_reducible rfl)
 simp only [Act.put, pA, pB, pC]
 refine tK (i := 4) (oi := zo138_5_4) (v := ?_) rfl (by kernel_rfl) (fun _ _ _ h => h) (Or.inl ⟨rfl, ?_⟩) hS ?_
 rotate_left
 · (intro w' hS'; (try dsimp only at hS'); dsimp only [zo138_5_4]; go_simp; try with_reducible rfl)
 simp only [Act.put, pA, pB, pC]
 refine tK (i := 5) (oi := zo138_5_5) (v := ?_) rfl (by kernel_rfl) (fun _ _ _ h => h) (Or.inl ⟨rfl, ?_⟩) hS ?_
 rotate_left
 · (intro w' hS'; (try dsimp only at hS'); dsimp only [zo138_5_5]; go_simp; try with_reducible rfl)
 simp only [Act.put, pA, pB, pC]
 refine tK (i := 6) (oi := zo138_5_6) (v := ?_) rfl (by kernel_rfl) (fun _ _ _ h => h) (Or.inl ⟨rfl, ?_⟩) hS ?_
 rotate_left
 · (intro w' hS'; (try dsimp only at hS'); dsimp only [zo138_5_6]; go_simp; try with_reducible rfl)
 simp only [Act.put, pA, pB, pC]
 refine tK (i := 7) (oi := zo138_5_7) (v := ?_) rfl (by kernel_rfl) (fun _ _ _ h => h) (Or.inl ⟨rfl, ?_⟩) hS ?_
 rotate_left
 · (intro w' hS'; (try dsimp only at hS'); dsimp only [zo138_5_7]; go_simp; try with_reducible rfl)
 simp only [Act.put, pA, pB, pC]
 refine tK (i := 8) (oi := zo138_5_8) (v := ?_) rfl (by kernel_rfl) (fun _ _ _ h => h) (Or.inl ⟨rfl, ?_⟩) hS ?_
 rotate_left
 · (intro w' hS'; (try dsimp only at hS'); dsimp only [zo138_5_8]; go_simp; try with_reducible rfl)
 simp only [Act.put, pA, pB, pC]
 refine tK (i := 9) (oi := zo138_5_9) (v := ?_) rfl (by kernel_rfl) (fun _ _ _ h => h) (Or.inl ⟨rfl, ?_⟩) hS ?_
 rotate_left
 · (intro w' hS'; (try dsimp only at hS'); dsimp only [zo138_5_9]; go_simp; try with_reducible rfl)
 simp only [Act.put, pA, pB, pC]
 refine tK (i := 10) (oi := zo138_5_10) (v := ?_) rfl (by kernel_rfl) (fun _ _ _ h => h) (Or.inl ⟨rfl, ?_⟩) hS ?_
 rotate_left
 · (intro w' hS'; (try dsimp only at hS'); dsimp only [zo138_5_10]; go_simp; try with_reducible rfl)
 simp only [Act.put, pA, pB, pC]
 refine tK (i := 11) (oi := zo138_5_11) (v := ?_) rfl (by kernel_rfl) (fun _ _ _ h => h) (Or.inl ⟨rfl, ?_⟩) hS ?_
 rotate_left
 · (intro w' hS'; (try dsimp only at hS'); dsimp only [zo138_5_11]; go_simp; try with_reducible rfl)
 simp only [Act.put, pA, pB, pC]
 refine tK (i := 12) (oi := zo138_5_12) (v := ?_) rfl (by kernel_rfl) (fun _ _ _ h => h) (Or.inl ⟨rfl, ?_⟩) hS ?_
 rotate_left
 · (intro w' hS'; (try dsimp only at hS'); dsimp only [zo138_5_12]; go_simp; try with_reducible rfl)
 simp only [Act.put, pA, pB, pC]
 refine wpAnyH_ready (rs := [13]) (by kernel_rfl) (by simp) ?_
 refine AllReadyH.cons (o := zo138_5_13) rfl (fun K hK => ?_) .nil
 refine step_call 195 #[.tmp 58] _ rfl rfl #[.pointer (some ⟨g, 9, none⟩)] Tryz.call195 (by go_simp) (HE.out _ h3 (R.cell' (i := 9) rfl)) ?_
 rintro e w6 ⟨rfl, b6⟩
 refine ⟨_, rfl, ?_⟩
 replace R := R.later b6
 replace Q := Q.later b6
 replace po := (b6.cell (p := ⟨_, _, none⟩) nbo).trans po
 replace nbo := Nat.lt_of_lt_of_le nbo b6.size
 replace bb := bb.trans (b6.mono bb.size)
 replace h0 := h0.below b6
 replace h1 := h1.below b6
 replace h2 := h2.below b6
 replace h3 := h3.below b6
 replace h4 := h4.below b6
 replace h5 := h5.below b6
 replace hS : (fun w' : World => w'.cell? ⟨g, 9, none⟩ = some (.slice A3 q.strokes.length k3) ∧ w'.cell? ⟨g, 10, none⟩ = some (.slice (some ⟨bo, oo, none⟩) q.opn.length k4) ∧ w'.cell? ⟨g, 11, none⟩ = some (.int .i64 q.time) ∧ w'.cell? ⟨w4.heap.size, 0, none⟩ = some (.slice (some ⟨bo, oo, none⟩) q.opn.length k4) ∧ w'.cell? ⟨bo, oo + 2, none⟩ = some (.int .i64 q.opn[0].t)) w6 := ⟨R.cell' (i := 9) rfl, R.cell' (i := 10) rfl, R.cell' (i := 11) rfl, Q.cell' (i := 0) rfl, po⟩
 dsimp only at hS
 refine hK.out _ _ ?_ (fun hHeld => ?_)
 · exact hS
 clear hK K hHeld
 simp only [Act.put, pA, pB, pC]
 by_cases hfi : inkEndI q.strokes < q.opn[0].t
 case neg =>
  have HF := Lib.hid (sessB_open (by rw [hob, decide_eq_false hfi, Bool.false_and, Bool.and_false]))
  have gf : (q.opn[0].t ≤ inkEndI q.strokes) = True := eq_true (by omega)
  clear hfi
  refine tK (i := 14) (oi := zo138_5_14) (v := ?_) rfl (by kernel_rfl) (fun _ _ _ h => h) (Or.inl ⟨rfl, ?_⟩) hS ?_
  rotate_left
  · (intro w' hS'; (try dsimp only at hS'); dsimp only [zo138_5_14]; go_simp; try with_reducible rfl)
  simp only [Act.put, pA, pB, pC]
  refine tK (i := 15) (oi := zo138_5_15) (v := ?_) rfl (by kernel_rfl) (fun _ _ _ h => h) (Or.inl ⟨rfl, ?_⟩) hS ?_
  rotate_left
  · (intro w' hS'; (try dsimp only at hS'); dsimp only [zo138_5_15]; go_simp; try with_reducible rfl)
  simp only [Act.put, pA, pB, pC]
  refine tK (i := 16) (oi := zo138_5_16) (v := ?_) rfl (by kernel_rfl) (fun _ _ _ h => h) (Or.inl ⟨rfl, ?_⟩) hS ?_
  rotate_left
  · (intro w' hS'; (try dsimp only at hS'); dsimp only [zo138_5_16]; go_simp; try with_reducible rfl)
  simp only [Act.put, pA, pB, pC]
  refine tK (i := 17) (oi := zo138_5_17) rfl (by kernel_rfl) (fun _ _ _ h => h) (Or.inr ⟨rfl, rfl⟩) hS ?_
  simp only [Act.put, pA, pB, pC]
  refine tK (i := 18) (oi := zo138_5_18) rfl (by kernel_rfl) (fun _ _ _ h => h) (Or.inr ⟨rfl, rfl⟩) hS ?_
  simp only [Act.put, pA, pB, pC]
  refine tK (i := 19) (oi := zo138_5_19) rfl (by kernel_rfl) (fun _ _ _ h => h) (Or.inr ⟨rfl, rfl⟩) hS ?_
  simp only [Act.put, pA, pB, pC]
  refine tK (i := 20) (oi := zo138_5_20) rfl (by kernel_rfl) (fun _ _ _ h => h) (Or.inr ⟨rfl, rfl⟩) hS ?_
  simp only [Act.put, pA, pB, pC]
  refine tK (i := 21) (oi := zo138_5_21) rfl (by kernel_rfl) (fun _ _ _ h => h) (Or.inr ⟨rfl, rfl⟩) hS ?_
  simp only [Act.put, pA, pB, pC]
  refine tK (i := 22) (oi := zo138_5_22) rfl (by kernel_rfl) (fun _ _ _ h => h) (Or.inr ⟨rfl, rfl⟩) hS ?_
  simp only [Act.put, pA, pB, pC]
  refine tK (i := 23) (oi := zo138_5_23) (v := ?_) rfl (by kernel_rfl) (fun _ _ _ h => h) (Or.inl ⟨rfl, ?_⟩) hS ?_
  rotate_left
  · (intro w' hS'; (try dsimp only at hS'); dsimp only [zo138_5_23]; go_simp; try with_reducible rfl)
  simp only [Act.put, pA, pB, pC]
  refine wpAnyH_done (by kernel_rfl) ?_ _
  go_wp2_with fail
  go_ret
  exact ⟨ret_boolI HF.out.symm, bb⟩
 have gf : (q.opn[0].t ≤ inkEndI q.strokes) = False := eq_false (by omega)
 refine tK (i := 14) (oi := zo138_5_14) (v := ?_) rfl (by kernel_rfl) (fun _ _ _ h => h) (Or.inl ⟨rfl, ?_⟩) hS ?_
 rotate_left
 · (intro w' hS'; (try dsimp only at hS'); dsimp only [zo138_5_14]; go_simp; try with_reducible rfl)
 simp only [Act.put, pA, pB, pC]
 refine tK (i := 15) (oi := zo138_5_15) (v := ?_) rfl (by kernel_rfl) (fun _ _ _ h => h) (Or.inl ⟨rfl, ?_⟩) hS ?_
 rotate_left
 · (intro w' hS'; (try dsimp only at hS'); dsimp only [zo138_5_15]; go_simp; try with_reducible rfl)
 simp only [Act.put, pA, pB, pC]
 refine tK (i := 16) (oi := zo138_5_16) (v := ?_) rfl (by kernel_rfl) (fun _ _ _ h => h) (Or.inl ⟨rfl, ?_⟩) hS ?_
 rotate_left
 · (intro w' hS'; (try dsimp only at hS'); dsimp only [zo138_5_16]; go_simp; try with_reducible rfl)
 simp only [Act.put, pA, pB, pC]
 refine tK (i := 18) (oi := zo138_5_18) (v := ?_) rfl (by kernel_rfl) (fun _ _ _ h => h) (Or.inl ⟨rfl, ?_⟩) hS ?_
 rotate_left
 · (intro w' hS'; (try dsimp only at hS'); dsimp only [zo138_5_18]; go_simp; try with_reducible rfl)
 simp only [Act.put, pA, pB, pC]
 refine tK (i := 19) (oi := zo138_5_19) (v := ?_) rfl (by kernel_rfl) (fun _ _ _ h => h) (Or.inl ⟨rfl, ?_⟩) hS ?_
 rotate_left
 · (intro w' hS'; (try dsimp only at hS'); dsimp only [zo138_5_19]; go_simp; try with_reducible rfl)
 simp only [Act.put, pA, pB, pC]
 refine tK (i := 20) (oi := zo138_5_20) (v := ?_) rfl (by kernel_rfl) (fun _ _ _ h => h) (Or.inl ⟨rfl, ?_⟩) hS ?_
 rotate_left
 · (intro w' hS'; (try dsimp only at hS'); dsimp only [zo138_5_20]; go_simp; try with_reducible rfl)
 simp only [Act.put, pA, pB, pC]
 refine tK (i := 21) (oi := zo138_5_21) (v := ?_) rfl (by kernel_rfl) (fun _ _ _ h => h) (Or.inl ⟨rfl, ?_⟩) hS ?_
 rotate_left
 · (intro w' hS'; (try dsimp only at hS'); dsimp only [zo138_5_21]; go_simp; try with_reducible rfl)
 simp only [Act.put, pA, pB, pC]
 refine wpAnyH_ready (rs := [17]) (by kernel_rfl) (by simp) ?_
 refine AllReadyH.cons (o := zo138_5_17) rfl (fun K hK => ?_) .nil
 refine step_call 197 #[.tmp 3] _ rfl rfl #[.pointer (some ⟨w4.heap.size, 0, none⟩)] Tryz.call197 (by go_simp) (HLO.out _ h4 (Q.cell' (i := 0) rfl)) ?_
 rintro e w7 ⟨rfl, b7⟩
 refine ⟨_, rfl, ?_⟩
 replace R := R.later b7
 replace Q := Q.later b7
 replace po := (b7.cell (p := ⟨_, _, none⟩) nbo).trans po
 replace nbo := Nat.lt_of_lt_of_le nbo b7.size
 replace bb := bb.trans (b7.mono bb.size)
 replace h0 := h0.below b7
 replace h1 := h1.below b7
 replace h2 := h2.below b7
 replace h3 := h3.below b7
 replace h4 := h4.below b7
 replace h5 := h5.below b7
 replace hS : (fun w' : World => w'.cell? ⟨g, 9, none⟩ = some (.slice A3 q.strokes.length k3) ∧ w'.cell? ⟨g, 10, none⟩ = some (.slice (some ⟨bo, oo, none⟩) q.opn.length k4) ∧ w'.cell? ⟨g, 11, none⟩ = some (.int .i64 q.time) ∧ w'.cell? ⟨w4.heap.size, 0, none⟩ = some (.slice (some ⟨bo, oo, none⟩) q.opn.length k4) ∧ w'.cell? ⟨bo, oo + 2, none⟩ = some (.int .i64 q.opn[0].t)) w7 := ⟨R.cell' (i := 9) rfl, R.cell' (i := 10) rfl, R.cell' (i := 11) rfl, Q.cell' (i := 0) rfl, po⟩
 dsimp only at hS
 refine hK.out _ _ ?_ (fun hHeld => ?_)
 · exact hS
 clear hK K hHeld
 simp only [Act.put, pA, pB, pC]
 by_cases hla : lastT q.opn ≤ q.time
 case neg =>
  have HF := Lib.hid (sessB_open (by rw [hob, decide_eq_false hla, Bool.and_false, Bool.and_false]))
  have gl : (q.time < lastT q.opn) = True := eq_true (by omega)
  clear hla
  refine tK (i := 22) (oi := zo138_5_22) (v := ?_) rfl (by kernel_rfl) (fun _ _ _ h => h) (Or.inl ⟨rfl, ?_⟩) hS ?_
  rotate_left
  · (intro w' hS'; (try dsimp only at hS'); dsimp only [zo138_5_22]; go_simp; try with_reducible rfl)
  simp only [Act.put, pA, pB, pC]
  refine tK (i := 23) (oi := zo138_5_23) (v := ?_) rfl (by kernel_rfl) (fun _ _ _ h => h) (Or.inl ⟨rfl, ?_⟩) hS ?_
  rotate_left
  · (intro w' hS'; (try dsimp only at hS'); dsimp only [zo138_5_23]; go_simp; try with_reducible rfl)
  simp only [Act.put, pA, pB, pC]
  refine wpAnyH_done (by kernel_rfl) ?_ _
  go_wp2_with fail
  go_ret
  exact ⟨ret_boolI HF.out.symm, bb⟩
 have gl : (q.time < lastT q.opn) = False := eq_false (by omega)
 have hop : Hid (openB q = true) := by show _ = _; rw [hob, ← hd5.out, decide_eq_true hfi, decide_eq_true hla]; rfl
 clear hfi hla
 refine tK (i := 22) (oi := zo138_5_22) (v := ?_) rfl (by kernel_rfl) (fun _ _ _ h => h) (Or.inl ⟨rfl, ?_⟩) hS ?_
 rotate_left
 · (intro w' hS'; (try dsimp only at hS'); dsimp only [zo138_5_22]; go_simp; try with_reducible rfl)
 simp only [Act.put, pA, pB, pC]
 refine tK (i := 23) (oi := zo138_5_23) (v := ?_) rfl (by kernel_rfl) (fun _ _ _ h => h) (Or.inl ⟨rfl, ?_⟩) hS ?_
 rotate_left
 · (intro w' hS'; (try dsimp only at hS'); dsimp only [zo138_5_23]; go_simp; try with_reducible rfl)
 simp only [Act.put, pA, pB, pC]
 refine wpAnyH_done (by kernel_rfl) ?_ _
 have hrest := Lib.hid (sessB_rest (q := q) hok1.out hok2.out hok3.out hok4.out hop.out)
 have x4 := R.cell' (i := 12) rfl
 generalize hd : q.words.all isWordB = d at HW hrest
 clear hd
 cases d
 · have HF : Hid (sessB q = false) := by show _ = _; rw [hrest.out, Bool.false_and]
   clear hrest
   go_wp2_with fail
   refine (HW.out _ h5).mono ?_
   rintro e w9 ⟨rfl, rfl⟩
   go_wp2_with fail
   go_ret
   exact ⟨ret_boolI HF.out.symm, bb⟩
 · by_cases h60 : q.words.length ≤ 60
   · have g6 : ((q.words.length : Int) ≤ 60) = True := eq_true (by omega)
     have HF : Hid (sessB q = true) := by show _ = _; rw [hrest.out, decide_eq_true h60]; rfl
     clear h60 hrest
     go_wp2_with fail
     refine (HW.out _ h5).mono ?_
     rintro e w9 ⟨rfl, rfl⟩
     go_wp2_with fail
     go_ret
     exact ⟨ret_boolI HF.out.symm, bb⟩
   · have g6 : ((q.words.length : Int) ≤ 60) = False := eq_false (by omega)
     have HF : Hid (sessB q = false) := by show _ = _; rw [hrest.out, decide_eq_false h60]; rfl
     clear h60 hrest
     go_wp2_with fail
     refine (HW.out _ h5).mono ?_
     rintro e w9 ⟨rfl, rfl⟩
     go_wp2_with fail
     go_ret
     exact ⟨ret_boolI HF.out.symm, bb⟩
end Go.Proofs.YtkfadfddhbpngaaGreat
