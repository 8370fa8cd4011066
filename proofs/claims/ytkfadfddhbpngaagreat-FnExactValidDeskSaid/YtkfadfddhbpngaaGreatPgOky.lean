/- Pages: is a page valid, in the reference? Conditions: none. -/
import Derived.Test.YtkfadfddhbpngaaGreatTky
import Derived.Test.YtkfadfddhbpngaaGreatPgFollowy
namespace Go.Proofs.YtkfadfddhbpngaaGreat
open Go Go.RowKit
abbrev zo139_1_0 : Oper := { dst := some 3, op := .move (.tmp 0), type := 95, pos := "l27_pages.go:109", after := #[], guard := none }
abbrev zo139_1_1 : Oper := { dst := some 4, op := .nilCheck (.tmp 3), type := 0, pos := "l27_pages.go:109", after := #[{ on := 0, ground := .data }], guard := none }
abbrev zo139_1_2 : Oper := { dst := some 5, op := .fieldAddr 71 (.tmp 4) 0, type := 0, pos := "l27_pages.go:109", after := #[{ on := 1, ground := .data }], guard := none }
abbrev zo139_1_3 : Oper := { dst := some 6, op := .load 68 (.tmp 5), type := 68, pos := "l27_pages.go:109", after := #[{ on := 2, ground := .data }], guard := none }
abbrev zo139_1_4 : Oper := { dst := some 7, op := .call { callee := .value (.func 199), args := #[.tmp 6], argTypes := #[68] }, type := 4, pos := "l27_pages.go:109", after := #[{ on := 3, ground := .data }], guard := none }
abbrev zo139_1_5 : Oper := { dst := some 8, op := .move (.tmp 7), type := 4, pos := "l27_pages.go:109", after := #[{ on := 4, ground := .data }, { on := 4, ground := .chain }], guard := none }
abbrev zo139_1_6 : Oper := { dst := some 9, op := .move (.tmp 0), type := 95, pos := "l27_pages.go:109", after := #[{ on := 5, ground := .guard }], guard := some (5, true) }
abbrev zo139_1_7 : Oper := { dst := some 10, op := .nilCheck (.tmp 9), type := 0, pos := "l27_pages.go:109", after := #[{ on := 6, ground := .data }, { on := 5, ground := .guard }], guard := some (5, true) }
abbrev zo139_1_8 : Oper := { dst := some 11, op := .fieldAddr 71 (.tmp 10) 1, type := 0, pos := "l27_pages.go:109", after := #[{ on := 7, ground := .data }, { on := 5, ground := .guard }], guard := some (5, true) }
abbrev zo139_1_9 : Oper := { dst := some 12, op := .load 69 (.tmp 11), type := 69, pos := "l27_pages.go:109", after := #[{ on := 8, ground := .data }, { on := 5, ground := .guard }], guard := some (5, true) }
abbrev zo139_1_10 : Oper := { dst := some 13, op := .call { callee := .builtin .len, args := #[.tmp 12], argTypes := #[69] }, type := 3, pos := "l27_pages.go:109", after := #[{ on := 9, ground := .data }, { on := 5, ground := .guard }], guard := some (5, true) }
abbrev zo139_1_11 : Oper := { dst := some 14, op := .binOp .leq 3 (.tmp 13) (.const (.int .i64 30)) 3, type := 4, pos := "l27_pages.go:109", after := #[{ on := 10, ground := .data }, { on := 5, ground := .guard }], guard := some (5, true) }
abbrev zo139_1_12 : Oper := { dst := some 15, op := .pick (.tmp 8) (.tmp 14) (.const (.bool false)), type := 4, pos := "l27_pages.go:109", after := #[{ on := 5, ground := .data }, { on := 11, ground := .data }], guard := none }
abbrev zo139_1_13 : Oper := { dst := some 16, op := .move (.tmp 15), type := 4, pos := "l27_pages.go:109", after := #[{ on := 12, ground := .data }, { on := 5, ground := .chain }], guard := none }
abbrev zo139_1_14 : Oper := { dst := some 17, op := .move (.tmp 0), type := 95, pos := "l27_pages.go:109", after := #[{ on := 13, ground := .guard }], guard := some (13, true) }
abbrev zo139_1_15 : Oper := { dst := some 18, op := .nilCheck (.tmp 17), type := 0, pos := "l27_pages.go:109", after := #[{ on := 14, ground := .data }, { on := 13, ground := .guard }], guard := some (13, true) }
abbrev zo139_1_16 : Oper := { dst := some 19, op := .fieldAddr 71 (.tmp 18) 2, type := 0, pos := "l27_pages.go:109", after := #[{ on := 15, ground := .data }, { on := 13, ground := .guard }], guard := some (13, true) }
abbrev zo139_1_17 : Oper := { dst := some 20, op := .load 69 (.tmp 19), type := 69, pos := "l27_pages.go:109", after := #[{ on := 16, ground := .data }, { on := 13, ground := .guard }], guard := some (13, true) }
abbrev zo139_1_18 : Oper := { dst := some 21, op := .call { callee := .builtin .len, args := #[.tmp 20], argTypes := #[69] }, type := 3, pos := "l27_pages.go:109", after := #[{ on := 17, ground := .data }, { on := 13, ground := .guard }], guard := some (13, true) }
abbrev zo139_1_19 : Oper := { dst := some 22, op := .binOp .leq 3 (.tmp 21) (.const (.int .i64 30)) 3, type := 4, pos := "l27_pages.go:109", after := #[{ on := 18, ground := .data }, { on := 13, ground := .guard }], guard := some (13, true) }
abbrev zo139_1_20 : Oper := { dst := some 23, op := .pick (.tmp 16) (.tmp 22) (.const (.bool false)), type := 4, pos := "l27_pages.go:109", after := #[{ on := 13, ground := .data }, { on := 19, ground := .data }], guard := none }
abbrev zo139_1_21 : Oper := { dst := some 24, op := .move (.tmp 23), type := 4, pos := "l27_pages.go:109", after := #[{ on := 20, ground := .data }, { on := 13, ground := .chain }], guard := none }
abbrev zo139_1_22 : Oper := { dst := some 25, op := .move (.tmp 0), type := 95, pos := "l27_pages.go:109", after := #[{ on := 21, ground := .guard }], guard := some (21, true) }
abbrev zo139_1_23 : Oper := { dst := some 26, op := .nilCheck (.tmp 25), type := 0, pos := "l27_pages.go:109", after := #[{ on := 22, ground := .data }, { on := 21, ground := .guard }], guard := some (21, true) }
abbrev zo139_1_24 : Oper := { dst := some 27, op := .fieldAddr 71 (.tmp 26) 0, type := 0, pos := "l27_pages.go:109", after := #[{ on := 23, ground := .data }, { on := 21, ground := .guard }], guard := some (21, true) }
abbrev zo139_1_25 : Oper := { dst := some 28, op := .load 68 (.tmp 27), type := 68, pos := "l27_pages.go:109", after := #[{ on := 24, ground := .data }, { on := 21, ground := .guard }], guard := some (21, true) }
abbrev zo139_1_26 : Oper := { dst := some 29, op := .move (.tmp 0), type := 95, pos := "l27_pages.go:109", after := #[{ on := 21, ground := .guard }], guard := some (21, true) }
abbrev zo139_1_27 : Oper := { dst := some 30, op := .nilCheck (.tmp 29), type := 0, pos := "l27_pages.go:109", after := #[{ on := 26, ground := .data }, { on := 21, ground := .guard }], guard := some (21, true) }
abbrev zo139_1_28 : Oper := { dst := some 31, op := .fieldAddr 71 (.tmp 30) 1, type := 0, pos := "l27_pages.go:109", after := #[{ on := 27, ground := .data }, { on := 21, ground := .guard }], guard := some (21, true) }
abbrev zo139_1_29 : Oper := { dst := some 32, op := .load 69 (.tmp 31), type := 69, pos := "l27_pages.go:109", after := #[{ on := 28, ground := .data }, { on := 21, ground := .guard }], guard := some (21, true) }
abbrev zo139_1_30 : Oper := { dst := some 33, op := .call { callee := .value (.func 200), args := #[.tmp 28, .tmp 32, .const (.bool true)], argTypes := #[68, 69, 4] }, type := 4, pos := "l27_pages.go:109", after := #[{ on := 25, ground := .data }, { on := 29, ground := .data }, { on := 21, ground := .chain }, { on := 21, ground := .guard }], guard := some (21, true) }
abbrev zo139_1_31 : Oper := { dst := some 34, op := .pick (.tmp 24) (.tmp 33) (.const (.bool false)), type := 4, pos := "l27_pages.go:109", after := #[{ on := 21, ground := .data }, { on := 30, ground := .data }], guard := none }
abbrev zo139_1_32 : Oper := { dst := some 35, op := .move (.tmp 34), type := 4, pos := "l27_pages.go:109", after := #[{ on := 31, ground := .data }, { on := 30, ground := .chain }], guard := none }
abbrev zo139_1_33 : Oper := { dst := some 36, op := .move (.tmp 0), type := 95, pos := "l27_pages.go:109", after := #[{ on := 32, ground := .guard }], guard := some (32, true) }
abbrev zo139_1_34 : Oper := { dst := some 37, op := .nilCheck (.tmp 36), type := 0, pos := "l27_pages.go:109", after := #[{ on := 33, ground := .data }, { on := 32, ground := .guard }], guard := some (32, true) }
abbrev zo139_1_35 : Oper := { dst := some 38, op := .fieldAddr 71 (.tmp 37) 0, type := 0, pos := "l27_pages.go:109", after := #[{ on := 34, ground := .data }, { on := 32, ground := .guard }], guard := some (32, true) }
abbrev zo139_1_36 : Oper := { dst := some 39, op := .load 68 (.tmp 38), type := 68, pos := "l27_pages.go:109", after := #[{ on := 35, ground := .data }, { on := 32, ground := .guard }], guard := some (32, true) }
abbrev zo139_1_37 : Oper := { dst := some 40, op := .move (.tmp 0), type := 95, pos := "l27_pages.go:109", after := #[{ on := 32, ground := .guard }], guard := some (32, true) }
abbrev zo139_1_38 : Oper := { dst := some 41, op := .nilCheck (.tmp 40), type := 0, pos := "l27_pages.go:109", after := #[{ on := 37, ground := .data }, { on := 32, ground := .guard }], guard := some (32, true) }
abbrev zo139_1_39 : Oper := { dst := some 42, op := .fieldAddr 71 (.tmp 41) 2, type := 0, pos := "l27_pages.go:109", after := #[{ on := 38, ground := .data }, { on := 32, ground := .guard }], guard := some (32, true) }
abbrev zo139_1_40 : Oper := { dst := some 43, op := .load 69 (.tmp 42), type := 69, pos := "l27_pages.go:109", after := #[{ on := 39, ground := .data }, { on := 32, ground := .guard }], guard := some (32, true) }
abbrev zo139_1_41 : Oper := { dst := some 44, op := .call { callee := .value (.func 200), args := #[.tmp 39, .tmp 43, .const (.bool false)], argTypes := #[68, 69, 4] }, type := 4, pos := "l27_pages.go:109", after := #[{ on := 36, ground := .data }, { on := 40, ground := .data }, { on := 32, ground := .chain }, { on := 32, ground := .guard }], guard := some (32, true) }
abbrev zo139_1_42 : Oper := { dst := some 45, op := .pick (.tmp 35) (.tmp 44) (.const (.bool false)), type := 4, pos := "l27_pages.go:109", after := #[{ on := 32, ground := .data }, { on := 41, ground := .data }], guard := none }
abbrev zo139_1_43 : Oper := { dst := some 2, op := .assign (.tmp 45), type := 4, pos := "l27_pages.go:109", after := #[{ on := 42, ground := .data }, { on := 41, ground := .chain }, { on := 0, ground := .phase }, { on := 1, ground := .phase }, { on := 2, ground := .phase }, { on := 3, ground := .phase }, { on := 4, ground := .phase }, { on := 5, ground := .phase }, { on := 6, ground := .phase }, { on := 7, ground := .phase }, { on := 8, ground := .phase }, { on := 9, ground := .phase }, { on := 10, ground := .phase }, { on := 11, ground := .phase }, { on := 12, ground := .phase }, { on := 13, ground := .phase }, { on := 14, ground := .phase }, { on := 15, ground := .phase }, { on := 16, ground := .phase }, { on := 17, ground := .phase }, { on := 18, ground := .phase }, { on := 19, ground := .phase }, { on := 20, ground := .phase }, { on := 21, ground := .phase }, { on := 22, ground := .phase }, { on := 23, ground := .phase }, { on := 24, ground := .phase }, { on := 25, ground := .phase }, { on := 26, ground := .phase }, { on := 27, ground := .phase }, { on := 28, ground := .phase }, { on := 29, ground := .phase }, { on := 30, ground := .phase }, { on := 31, ground := .phase }, { on := 32, ground := .phase }, { on := 33, ground := .phase }, { on := 34, ground := .phase }, { on := 35, ground := .phase }, { on := 36, ground := .phase }, { on := 37, ground := .phase }, { on := 38, ground := .phase }, { on := 39, ground := .phase }, { on := 40, ground := .phase }, { on := 41, ground := .phase }, { on := 42, ground := .phase }], guard := none }

set_option maxRecDepth 100000 in
set_option maxHeartbeats 1000000 in
theorem spec_l27OkF_c {el es : TypeId} {o : Bool} {p : PPage} {a b c : Value} {F1 F2 F3 : List Nat} {g f : Nat} (w : World) (gl : g < w.heap.size) (y0 : w.cell? ⟨g, f, none⟩ = some a) (y1 : w.cell? ⟨g, f + 1, none⟩ = some b) (y2 : w.cell? ⟨g, f + 2, none⟩ = some c) (h1 : (pLines el).rep o w p.lines [a] F1) (h2 : (pSteps es).rep o w p.done [b] F2) (h3 : (pSteps es).rep o w p.undone [c] F3) (hp : PSmall p) (hq : PBytes p) :
 Calls Tryz.prog 139 #[.pointer (some ⟨g, f, none⟩)] w fun e w' => e = .returned (.bool (validB p)) ∧ Below w.heap.size w w' := by
 have CV := fun w' (q : (pLines el).rep o w' p.lines [a] F1) => spec_l27Lines_c w' q hp.l hp.w hq.l
 obtain ⟨A1, k1, rfl⟩ := slice_len h1
 obtain ⟨A2, k2, rfl⟩ := slice_len h2
 obtain ⟨A3, k3, rfl⟩ := slice_len h3
 have hd1 := hp.d
 have hd2 := hp.u
 have H1 := Lib.hid h1
 have H2 := Lib.hid h2
 have H3 := Lib.hid h3
 clear h1 h2 h3
 cases hv : linesOkB p.lines
 · simp only [hv] at CV
   have HC := Lib.hid CV
   have HF : Hid (validB p = false) := by show _ = _; simp [validB, hv]
   clear CV hv
   go_enter Tryz.func139, Tryz.ntmps139
   go_wp2_with fail
   go_quiet ((go_at_call 199; exact Calls.quiet_of_same ((HC.out _ (by first | exact H1.out | exact H1.out.drew | exact H1.out.drewN _)).mono fun _ _ k => ⟨k.1, k.2.symm⟩)))
   go_wp2_with fail
   go_ret
   exact ⟨ret_boolF HF.out.symm, below_drewN (Below.refl _ _) _⟩
 · have hok := (linesOk_iff _).1 hv
   have HV := Lib.hid hv
   simp only [hv] at CV
   have HC := Lib.hid CV
   clear CV hv
   by_cases hd : p.done.length ≤ 30
   · by_cases hu : p.undone.length ≤ 30
     · have g1d : decide ((p.done.length : Int) ≤ 30) = true := decide_eq_true (by omega)
       have g2d : decide ((p.undone.length : Int) ≤ 30) = true := decide_eq_true (by omega)
       have g1 : (p.done.length : Int) ≤ 30 := by omega
       have g2 : (p.undone.length : Int) ≤ 30 := by omega
       have CT := fun w' (q : (pLines el).rep o w' p.lines [.slice A1 p.lines.length k1] F1) (q' : (pSteps es).rep o w' p.done [.slice A2 p.done.length k2] F2) => spec_l27All_c true w' q q' hok hd hq.d
       have CF := fun w' (q : (pLines el).rep o w' p.lines [.slice A1 p.lines.length k1] F1) (q' : (pSteps es).rep o w' p.undone [.slice A3 p.undone.length k3] F3) => spec_l27All_c false w' q q' hok hu hq.u
       have hval : validB p = (followB true p.lines p.done.reverse && followB false p.lines p.undone.reverse) := by simp [validB, HV.out, hd, hu]
       have HVAL := Lib.hid hval
       have HCF := Lib.hid CF
       clear hval CF
       cases ht : followB true p.lines p.done.reverse
       · have HF : Hid (validB p = false) := by show _ = _; rw [HVAL.out, ht]; rfl
         simp only [ht] at CT
         have HCT := Lib.hid CT
         clear CT ht
         go_enter Tryz.func139, Tryz.ntmps139
         go_wp2_with fail
         have hS : (fun w' => w'.cell? ⟨g, f, none⟩ = some (.slice A1 p.lines.length k1) ∧ w'.cell? ⟨g, f + 1, none⟩ = some (.slice A2 p.done.length k2) ∧ w'.cell? ⟨g, f + 2, none⟩ = some (.slice A3 p.undone.length k3)) w.drew := ⟨y0, y1, y2⟩
         dsimp only at hS
         refine wp_region_held_drew (S := (fun w' => w'.cell? ⟨g, f, none⟩ = some (.slice A1 p.lines.length k1) ∧ w'.cell? ⟨g, f + 1, none⟩ = some (.slice A2 p.done.length k2) ∧ w'.cell? ⟨g, f + 2, none⟩ = some (.slice A3 p.undone.length k3))) (by kernel_rfl) hS (fun _ => ?_)
         refine tK (i := 0) (oi := zo139_1_0) (v := ?_) rfl (by kernel_rfl) (fun _ _ _ h => h) (Or.inl ⟨rfl, ?_⟩) hS ?_
         rotate_left
         · (intro w' hS'; (try dsimp only at hS'); dsimp only [zo139_1_0]; go_simp; try with_reducible rfl)
         simp only [Act.put, pA, pB, pC]
         refine tK (i := 1) (oi := zo139_1_1) (v := ?_) rfl (by kernel_rfl) (fun _ _ _ h => h) (Or.inl ⟨rfl, ?_⟩) hS ?_
         rotate_left
         · (intro w' hS'; (try dsimp only at hS'); dsimp only [zo139_1_1]; go_simp; try with_reducible rfl)
         simp only [Act.put, pA, pB, pC]
         refine tK (i := 2) (oi := zo139_1_2) (v := ?_) rfl (by kernel_rfl) (fun _ _ _ h => h) (Or.inl ⟨rfl, ?_⟩) hS ?_
         rotate_left
         · (intro w' hS'; (try dsimp only at hS'); dsimp only [zo139_1_2]; go_simp; try with_reducible rfl)
         simp only [Act.put, pA, pB, pC]
         refine tK (i := 3) (oi := zo139_1_3) (v := ?_) rfl (by kernel_rfl) (fun _ _ _ h => h) (Or.inl ⟨rfl, ?_⟩) hS ?_
         rotate_left
         · (intro w' hS'; (try dsimp only at hS'); dsimp only [zo139_1_3]; go_simp; try with_reducible rfl)
         simp only [Act.put, pA, pB, pC]
         refine wpAnyH_ready (rs := [4]) (by kernel_rfl) (by simp) ?_
         refine AllReadyH.cons (o := zo139_1_4) rfl (fun K hK => ?_) .nil
         refine step_call 199 #[.tmp 6] _ rfl rfl #[.slice A1 p.lines.length k1] Tryz.call199 (by simp [Act.eval]) (HC.out _ H1.out.drew) ?_
         rintro e w1 ⟨rfl, rfl⟩
         refine ⟨_, rfl, ?_⟩
         refine hK.out _ _ ?_ (fun hHeld => ?_)
         · exact hS
         clear hK K hHeld
         simp only [Act.put, pA, pB, pC]
         refine tK (i := 5) (oi := zo139_1_5) (v := ?_) rfl (by kernel_rfl) (fun _ _ _ h => h) (Or.inl ⟨rfl, ?_⟩) hS ?_
         rotate_left
         · (intro w' hS'; (try dsimp only at hS'); dsimp only [zo139_1_5]; go_simp; try with_reducible rfl)
         simp only [Act.put, pA, pB, pC]
         refine tK (i := 6) (oi := zo139_1_6) (v := ?_) rfl (by kernel_rfl) (fun _ _ _ h => h) (Or.inl ⟨rfl, ?_⟩) hS ?_
         rotate_left
         · (intro w' hS'; (try dsimp only at hS'); dsimp only [zo139_1_6]; go_simp; try with_reducible rfl)
         simp only [Act.put, pA, pB, pC]
         refine tK (i := 7) (oi := zo139_1_7) (v := ?_) rfl (by kernel_rfl) (fun _ _ _ h => h) (Or.inl ⟨rfl, ?_⟩) hS ?_
         rotate_left
         · (intro w' hS'; (try dsimp only at hS'); dsimp only [zo139_1_7]; go_simp; try with_reducible rfl)
         simp only [Act.put, pA, pB, pC]
         refine tK (i := 8) (oi := zo139_1_8) (v := ?_) rfl (by kernel_rfl) (fun _ _ _ h => h) (Or.inl ⟨rfl, ?_⟩) hS ?_
         rotate_left
         · (intro w' hS'; (try dsimp only at hS'); dsimp only [zo139_1_8]; go_simp; try with_reducible rfl)
         simp only [Act.put, pA, pB, pC]
         refine tK (i := 9) (oi := zo139_1_9) (v := ?_) rfl (by kernel_rfl) (fun _ _ _ h => h) (Or.inl ⟨rfl, ?_⟩) hS ?_
         rotate_left
         · (intro w' hS'; (try dsimp only at hS'); dsimp only [zo139_1_9]; go_simp; try with_reducible rfl)
         simp only [Act.put, pA, pB, pC]
         refine tK (i := 10) (oi := zo139_1_10) (v := ?_) rfl (by kernel_rfl) (fun _ _ _ h => h) (Or.inl ⟨rfl, ?_⟩) hS ?_
         rotate_left
         · (intro w' hS'; (try dsimp only at hS'); dsimp only [zo139_1_10]; go_simp; try with_reducible rfl)
         simp only [Act.put, pA, pB, pC]
         refine tK (i := 11) (oi := zo139_1_11) (v := ?_) rfl (by kernel_rfl) (fun _ _ _ h => h) (Or.inl ⟨rfl, ?_⟩) hS ?_
         rotate_left
         · (intro w' hS'; (try dsimp only at hS'); dsimp only [zo139_1_11]; go_simp; try with_reducible rfl)
         simp only [Act.put, pA, pB, pC]
         refine tK (i := 12) (oi := zo139_1_12) (v := ?_) rfl (by kernel_rfl) (fun _ _ _ h => h) (Or.inl ⟨rfl, ?_⟩) hS ?_
         rotate_left
         · (intro w' hS'; (try dsimp only at hS'); dsimp only [zo139_1_12]; go_simp; try with_reducible rfl)
         simp only [Act.put, pA, pB, pC]
         refine tK (i := 13) (oi := zo139_1_13) (v := ?_) rfl (by kernel_rfl) (fun _ _ _ h => h) (Or.inl ⟨rfl, ?_⟩) hS ?_
         rotate_left
         · (intro w' hS'; (try dsimp only at hS'); dsimp only [zo139_1_13]; go_simp; try with_reducible rfl)
         simp only [Act.put, pA, pB, pC]
         refine tK (i := 14) (oi := zo139_1_14) (v := ?_) rfl (by kernel_rfl) (fun _ _ _ h => h) (Or.inl ⟨rfl, ?_⟩) hS ?_
         rotate_left
         · (intro w' hS'; (try dsimp only at hS'); dsimp only [zo139_1_14]; go_simp; try with_reducible rfl)
         simp only [Act.put, pA, pB, pC]
         refine tK (i := 15) (oi := zo139_1_15) (v := ?_) rfl (by kernel_rfl) (fun _ _ _ h => h) (Or.inl ⟨rfl, ?_⟩) hS ?_
         rotate_left
         · (intro w' hS'; (try dsimp only at hS'); dsimp only [zo139_1_15]; go_simp; try with_reducible rfl)
         simp only [Act.put, pA, pB, pC]
         refine tK (i := 16) (oi := zo139_1_16) (v := ?_) rfl (by kernel_rfl) (fun _ _ _ h => h) (Or.inl ⟨rfl, ?_⟩) hS ?_
         rotate_left
         · (intro w' hS'; (try dsimp only at hS'); dsimp only [zo139_1_16]; go_simp; try with_reducible rfl)
         simp only [Act.put, pA, pB, pC]
         refine tK (i := 17) (oi := zo139_1_17) (v := ?_) rfl (by kernel_rfl) (fun _ _ _ h => h) (Or.inl ⟨rfl, ?_⟩) hS ?_
         rotate_left
         · (intro w' hS'; (try dsimp only at hS'); dsimp only [zo139_1_17]; go_simp; try with_reducible rfl)
         simp only [Act.put, pA, pB, pC]
         refine tK (i := 18) (oi := zo139_1_18) (v := ?_) rfl (by kernel_rfl) (fun _ _ _ h => h) (Or.inl ⟨rfl, ?_⟩) hS ?_
         rotate_left
         · (intro w' hS'; (try dsimp only at hS'); dsimp only [zo139_1_18]; go_simp; try with_reducible rfl)
         simp only [Act.put, pA, pB, pC]
         refine tK (i := 19) (oi := zo139_1_19) (v := ?_) rfl (by kernel_rfl) (fun _ _ _ h => h) (Or.inl ⟨rfl, ?_⟩) hS ?_
         rotate_left
         · (intro w' hS'; (try dsimp only at hS'); dsimp only [zo139_1_19]; go_simp; try with_reducible rfl)
         simp only [Act.put, pA, pB, pC]
         refine tK (i := 20) (oi := zo139_1_20) (v := ?_) rfl (by kernel_rfl) (fun _ _ _ h => h) (Or.inl ⟨rfl, ?_⟩) hS ?_
         rotate_left
         · (intro w' hS'; (try dsimp only at hS'); dsimp only [zo139_1_20]; go_simp; try with_reducible rfl)
         simp only [Act.put, pA, pB, pC]
         refine tK (i := 21) (oi := zo139_1_21) (v := ?_) rfl (by kernel_rfl) (fun _ _ _ h => h) (Or.inl ⟨rfl, ?_⟩) hS ?_
         rotate_left
         · (intro w' hS'; (try dsimp only at hS'); dsimp only [zo139_1_21]; go_simp; try with_reducible rfl)
         simp only [Act.put, pA, pB, pC]
         refine tK (i := 22) (oi := zo139_1_22) (v := ?_) rfl (by kernel_rfl) (fun _ _ _ h => h) (Or.inl ⟨rfl, ?_⟩) hS ?_
         rotate_left
         · (intro w' hS'; (try dsimp only at hS'); dsimp only [zo139_1_22]; go_simp; try with_reducible rfl)
         simp only [Act.put, pA, pB, pC]
         refine tK (i := 23) (oi := zo139_1_23) (v := ?_) rfl (by kernel_rfl) (fun _ _ _ h => h) (Or.inl ⟨rfl, ?_⟩) hS ?_
         rotate_left
         · (intro w' hS'; (try dsimp only at hS'); dsimp only [zo139_1_23]; go_simp; try with_reducible rfl)
         simp only [Act.put, pA, pB, pC]
         refine tK (i := 24) (oi := zo139_1_24) (v := ?_) rfl (by kernel_rfl) (fun _ _ _ h => h) (Or.inl ⟨rfl, ?_⟩) hS ?_
         rotate_left
         · (intro w' hS'; (try dsimp only at hS'); dsimp only [zo139_1_24]; go_simp; try with_reducible rfl)
         simp only [Act.put, pA, pB, pC]
         refine tK (i := 25) (oi := zo139_1_25) (v := ?_) rfl (by kernel_rfl) (fun _ _ _ h => h) (Or.inl ⟨rfl, ?_⟩) hS ?_
         rotate_left
         · (intro w' hS'; (try dsimp only at hS'); dsimp only [zo139_1_25]; go_simp; try with_reducible rfl)
         simp only [Act.put, pA, pB, pC]
         refine tK (i := 26) (oi := zo139_1_26) (v := ?_) rfl (by kernel_rfl) (fun _ _ _ h => h) (Or.inl ⟨rfl, ?_⟩) hS ?_
         rotate_left
         · (intro w' hS'; (try dsimp only at hS'); dsimp only [zo139_1_26]; go_simp; try with_reducible rfl)
         simp only [Act.put, pA, pB, pC]
         refine tK (i := 27) (oi := zo139_1_27) (v := ?_) rfl (by kernel_rfl) (fun _ _ _ h => h) (Or.inl ⟨rfl, ?_⟩) hS ?_
         rotate_left
         · (intro w' hS'; (try dsimp only at hS'); dsimp only [zo139_1_27]; go_simp; try with_reducible rfl)
         simp only [Act.put, pA, pB, pC]
         refine tK (i := 28) (oi := zo139_1_28) (v := ?_) rfl (by kernel_rfl) (fun _ _ _ h => h) (Or.inl ⟨rfl, ?_⟩) hS ?_
         rotate_left
         · (intro w' hS'; (try dsimp only at hS'); dsimp only [zo139_1_28]; go_simp; try with_reducible rfl)
         simp only [Act.put, pA, pB, pC]
         refine tK (i := 29) (oi := zo139_1_29) (v := ?_) rfl (by kernel_rfl) (fun _ _ _ h => h) (Or.inl ⟨rfl, ?_⟩) hS ?_
         rotate_left
         · (intro w' hS'; (try dsimp only at hS'); dsimp only [zo139_1_29]; go_simp; try with_reducible rfl)
         simp only [Act.put, pA, pB, pC]
         refine wpAnyH_ready (rs := [30]) (by kernel_rfl) (by simp) ?_
         refine AllReadyH.cons (o := zo139_1_30) rfl (fun K hK => ?_) .nil
         refine step_call 200 #[.tmp 28, .tmp 32, .const (.bool true)] _ rfl rfl #[.slice A1 p.lines.length k1, .slice A2 p.done.length k2, .bool true] Tryz.call200 (by simp [Act.eval]) (HCT.out _ H1.out.drew H2.out.drew) ?_
         rintro e w1 ⟨rfl, b1⟩
         refine ⟨_, rfl, ?_⟩
         obtain ⟨hcc, hff⟩ := bcell b1
         replace hS : w1.cell? ⟨g, f, none⟩ = some (.slice A1 p.lines.length k1) ∧ w1.cell? ⟨g, f + 1, none⟩ = some (.slice A2 p.done.length k2) ∧ w1.cell? ⟨g, f + 2, none⟩ = some (.slice A3 p.undone.length k3) := ⟨(hcc _ _ gl).trans y0, (hcc _ _ gl).trans y1, (hcc _ _ gl).trans y2⟩
         refine hK.out _ _ ?_ (fun hHeld => ?_)
         · exact hS
         clear hK K hHeld
         simp only [Act.put, pA, pB, pC]
         refine tK (i := 31) (oi := zo139_1_31) (v := ?_) rfl (by kernel_rfl) (fun _ _ _ h => h) (Or.inl ⟨rfl, ?_⟩) hS ?_
         rotate_left
         · (intro w' hS'; (try dsimp only at hS'); dsimp only [zo139_1_31]; go_simp; try with_reducible rfl)
         simp only [Act.put, pA, pB, pC]
         refine tK (i := 32) (oi := zo139_1_32) (v := ?_) rfl (by kernel_rfl) (fun _ _ _ h => h) (Or.inl ⟨rfl, ?_⟩) hS ?_
         rotate_left
         · (intro w' hS'; (try dsimp only at hS'); dsimp only [zo139_1_32]; go_simp; try with_reducible rfl)
         simp only [Act.put, pA, pB, pC]
         refine tK (i := 33) (oi := zo139_1_33) rfl (by kernel_rfl) (fun _ _ _ h => h) (Or.inr ⟨rfl, rfl⟩) hS ?_
         simp only [Act.put, pA, pB, pC]
         refine tK (i := 34) (oi := zo139_1_34) rfl (by kernel_rfl) (fun _ _ _ h => h) (Or.inr ⟨rfl, rfl⟩) hS ?_
         simp only [Act.put, pA, pB, pC]
         refine tK (i := 35) (oi := zo139_1_35) rfl (by kernel_rfl) (fun _ _ _ h => h) (Or.inr ⟨rfl, rfl⟩) hS ?_
         simp only [Act.put, pA, pB, pC]
         refine tK (i := 36) (oi := zo139_1_36) rfl (by kernel_rfl) (fun _ _ _ h => h) (Or.inr ⟨rfl, rfl⟩) hS ?_
         simp only [Act.put, pA, pB, pC]
         refine tK (i := 37) (oi := zo139_1_37) rfl (by kernel_rfl) (fun _ _ _ h => h) (Or.inr ⟨rfl, rfl⟩) hS ?_
         simp only [Act.put, pA, pB, pC]
         refine tK (i := 38) (oi := zo139_1_38) rfl (by kernel_rfl) (fun _ _ _ h => h) (Or.inr ⟨rfl, rfl⟩) hS ?_
         simp only [Act.put, pA, pB, pC]
         refine tK (i := 39) (oi := zo139_1_39) rfl (by kernel_rfl) (fun _ _ _ h => h) (Or.inr ⟨rfl, rfl⟩) hS ?_
         simp only [Act.put, pA, pB, pC]
         refine tK (i := 40) (oi := zo139_1_40) rfl (by kernel_rfl) (fun _ _ _ h => h) (Or.inr ⟨rfl, rfl⟩) hS ?_
         simp only [Act.put, pA, pB, pC]
         refine tK (i := 41) (oi := zo139_1_41) rfl (by kernel_rfl) (fun _ _ _ h => h) (Or.inr ⟨rfl, rfl⟩) hS ?_
         simp only [Act.put, pA, pB, pC]
         refine tK (i := 42) (oi := zo139_1_42) (v := ?_) rfl (by kernel_rfl) (fun _ _ _ h => h) (Or.inl ⟨rfl, ?_⟩) hS ?_
         rotate_left
         · (intro w' hS'; (try dsimp only at hS'); dsimp only [zo139_1_42]; go_simp; try with_reducible rfl)
         simp only [Act.put, pA, pB, pC]
         refine tK (i := 43) (oi := zo139_1_43) (v := ?_) rfl (by kernel_rfl) (fun _ _ _ h => h) (Or.inl ⟨rfl, ?_⟩) hS ?_
         rotate_left
         · (intro w' hS'; (try dsimp only at hS'); dsimp only [zo139_1_43]; go_simp; try with_reducible rfl)
         simp only [Act.put, pA, pB, pC]
         refine wpAnyH_done (by kernel_rfl) ?_ _
         go_wp2_with fail
         go_ret
         exact ⟨ret_boolF HF.out.symm, ((Below.refl _ _).drew).trans (b1.mono (by simp))⟩
       · have HF : Hid (validB p = followB false p.lines p.undone.reverse) := by show _ = _; rw [HVAL.out, ht]; rfl
         simp only [ht] at CT
         have HCT := Lib.hid CT
         clear CT ht
         go_enter Tryz.func139, Tryz.ntmps139
         go_wp2_with fail
         have hS : (fun w' => w'.cell? ⟨g, f, none⟩ = some (.slice A1 p.lines.length k1) ∧ w'.cell? ⟨g, f + 1, none⟩ = some (.slice A2 p.done.length k2) ∧ w'.cell? ⟨g, f + 2, none⟩ = some (.slice A3 p.undone.length k3)) w.drew := ⟨y0, y1, y2⟩
         dsimp only at hS
         refine wp_region_held_drew (S := (fun w' => w'.cell? ⟨g, f, none⟩ = some (.slice A1 p.lines.length k1) ∧ w'.cell? ⟨g, f + 1, none⟩ = some (.slice A2 p.done.length k2) ∧ w'.cell? ⟨g, f + 2, none⟩ = some (.slice A3 p.undone.length k3))) (by kernel_rfl) hS (fun _ => ?_)
         refine tK (i := 0) (oi := zo139_1_0) (v := ?_) rfl (by kernel_rfl) (fun _ _ _ h => h) (Or.inl ⟨rfl, ?_⟩) hS ?_
         rotate_left
         · (intro w' hS'; (try dsimp only at hS'); dsimp only [zo139_1_0]; go_simp; try with_reducible rfl)
         simp only [Act.put, pA, pB, pC]
         refine tK (i := 1) (oi := zo139_1_1) (v := ?_) rfl (by kernel_rfl) (fun _ _ _ h => h) (Or.inl ⟨rfl, ?_⟩) hS ?_
         rotate_left
         · (intro w' hS'; (try dsimp only at hS'); dsimp only [zo139_1_1]; go_simp; try with_reducible rfl)
         simp only [Act.put, pA, pB, pC]
         refine tK (i := 2) (oi := zo139_1_2) (v := ?_) rfl (by kernel_rfl) (fun _ _ _ h => h) (Or.inl ⟨rfl, ?_⟩) hS ?_
         rotate_left
         · (intro w' hS'; (try dsimp only at hS'); dsimp only [zo139_1_2]; go_simp; try with_reducible rfl)
         simp only [Act.put, pA, pB, pC]
         refine tK (i := 3) (oi := zo139_1_3) (v := ?_) rfl (by kernel_rfl) (fun _ _ _ h => h) (Or.inl ⟨rfl, ?_⟩) hS ?_
         rotate_left
         · (intro w' hS'; (try dsimp only at hS'); dsimp only [zo139_1_3]; go_simp; try with_reducible rfl)
         simp only [Act.put, pA, pB, pC]
         refine wpAnyH_ready (rs := [4]) (by kernel_rfl) (by simp) ?_
         refine AllReadyH.cons (o := zo139_1_4) rfl (fun K hK => ?_) .nil
         refine step_call 199 #[.tmp 6] _ rfl rfl #[.slice A1 p.lines.length k1] Tryz.call199 (by simp [Act.eval]) (HC.out _ H1.out.drew) ?_
         rintro e w1 ⟨rfl, rfl⟩
         refine ⟨_, rfl, ?_⟩
         refine hK.out _ _ ?_ (fun hHeld => ?_)
         · exact hS
         clear hK K hHeld
         simp only [Act.put, pA, pB, pC]
         refine tK (i := 5) (oi := zo139_1_5) (v := ?_) rfl (by kernel_rfl) (fun _ _ _ h => h) (Or.inl ⟨rfl, ?_⟩) hS ?_
         rotate_left
         · (intro w' hS'; (try dsimp only at hS'); dsimp only [zo139_1_5]; go_simp; try with_reducible rfl)
         simp only [Act.put, pA, pB, pC]
         refine tK (i := 6) (oi := zo139_1_6) (v := ?_) rfl (by kernel_rfl) (fun _ _ _ h => h) (Or.inl ⟨rfl, ?_⟩) hS ?_
         rotate_left
         · (intro w' hS'; (try dsimp only at hS'); dsimp only [zo139_1_6]; go_simp; try with_reducible rfl)
         simp only [Act.put, pA, pB, pC]
         refine tK (i := 7) (oi := zo139_1_7) (v := ?_) rfl (by kernel_rfl) (fun _ _ _ h => h) (Or.inl ⟨rfl, ?_⟩) hS ?_
         rotate_left
         · (intro w' hS'; (try dsimp only at hS'); dsimp only [zo139_1_7]; go_simp; try with_reducible rfl)
         simp only [Act.put, pA, pB, pC]
         refine tK (i := 8) (oi := zo139_1_8) (v := ?_) rfl (by kernel_rfl) (fun _ _ _ h => h) (Or.inl ⟨rfl, ?_⟩) hS ?_
         rotate_left
         · (intro w' hS'; (try dsimp only at hS'); dsimp only [zo139_1_8]; go_simp; try with_reducible rfl)
         simp only [Act.put, pA, pB, pC]
         refine tK (i := 9) (oi := zo139_1_9) (v := ?_) rfl (by kernel_rfl) (fun _ _ _ h => h) (Or.inl ⟨rfl, ?_⟩) hS ?_
         rotate_left
         · (intro w' hS'; (try dsimp only at hS'); dsimp only [zo139_1_9]; go_simp; try with_reducible rfl)
         simp only [Act.put, pA, pB, pC]
         refine tK (i := 10) (oi := zo139_1_10) (v := ?_) rfl (by kernel_rfl) (fun _ _ _ h => h) (Or.inl ⟨rfl, ?_⟩) hS ?_
         rotate_left
         · (intro w' hS'; (try dsimp only at hS'); dsimp only [zo139_1_10]; go_simp; try with_reducible rfl)
         simp only [Act.put, pA, pB, pC]
         refine tK (i := 11) (oi := zo139_1_11) (v := ?_) rfl (by kernel_rfl) (fun _ _ _ h => h) (Or.inl ⟨rfl, ?_⟩) hS ?_
         rotate_left
         · (intro w' hS'; (try dsimp only at hS'); dsimp only [zo139_1_11]; go_simp; try with_reducible rfl)
         simp only [Act.put, pA, pB, pC]
         refine tK (i := 12) (oi := zo139_1_12) (v := ?_) rfl (by kernel_rfl) (fun _ _ _ h => h) (Or.inl ⟨rfl, ?_⟩) hS ?_
         rotate_left
         · (intro w' hS'; (try dsimp only at hS'); dsimp only [zo139_1_12]; go_simp; try with_reducible rfl)
         simp only [Act.put, pA, pB, pC]
         refine tK (i := 13) (oi := zo139_1_13) (v := ?_) rfl (by kernel_rfl) (fun _ _ _ h => h) (Or.inl ⟨rfl, ?_⟩) hS ?_
         rotate_left
         · (intro w' hS'; (try dsimp only at hS'); dsimp only [zo139_1_13]; go_simp; try with_reducible rfl)
         simp only [Act.put, pA, pB, pC]
         refine tK (i := 14) (oi := zo139_1_14) (v := ?_) rfl (by kernel_rfl) (fun _ _ _ h => h) (Or.inl ⟨rfl, ?_⟩) hS ?_
         rotate_left
         · (intro w' hS'; (try dsimp only at hS'); dsimp only [zo139_1_14]; go_simp; try with_reducible rfl)
         simp only [Act.put, pA, pB, pC]
         refine tK (i := 15) (oi := zo139_1_15) (v := ?_) rfl (by kernel_rfl) (fun _ _ _ h => h) (Or.inl ⟨rfl, ?_⟩) hS ?_
         rotate_left
         · (intro w' hS'; (try dsimp only at hS'); dsimp only [zo139_1_15]; go_simp; try with_reducible rfl)
         simp only [Act.put, pA, pB, pC]
         refine tK (i := 16) (oi := zo139_1_16) (v := ?_) rfl (by kernel_rfl) (fun _ _ _ h => h) (Or.inl ⟨rfl, ?_⟩) hS ?_
         rotate_left
         · (intro w' hS'; (try dsimp only at hS'); dsimp only [zo139_1_16]; go_simp; try with_reducible rfl)
         simp only [Act.put, pA, pB, pC]
         refine tK (i := 17) (oi := zo139_1_17) (v := ?_) rfl (by kernel_rfl) (fun _ _ _ h => h) (Or.inl ⟨rfl, ?_⟩) hS ?_
         rotate_left
         · (intro w' hS'; (try dsimp only at hS'); dsimp only [zo139_1_17]; go_simp; try with_reducible rfl)
         simp only [Act.put, pA, pB, pC]
         refine tK (i := 18) (oi := zo139_1_18) (v := ?_) rfl (by kernel_rfl) (fun _ _ _ h => h) (Or.inl ⟨rfl, ?_⟩) hS ?_
         rotate_left
         · (intro w' hS'; (try dsimp only at hS'); dsimp only [zo139_1_18]; go_simp; try with_reducible rfl)
         simp only [Act.put, pA, pB, pC]
         refine tK (i := 19) (oi := zo139_1_19) (v := ?_) rfl (by kernel_rfl) (fun _ _ _ h => h) (Or.inl ⟨rfl, ?_⟩) hS ?_
         rotate_left
         · (intro w' hS'; (try dsimp only at hS'); dsimp only [zo139_1_19]; go_simp; try with_reducible rfl)
         simp only [Act.put, pA, pB, pC]
         refine tK (i := 20) (oi := zo139_1_20) (v := ?_) rfl (by kernel_rfl) (fun _ _ _ h => h) (Or.inl ⟨rfl, ?_⟩) hS ?_
         rotate_left
         · (intro w' hS'; (try dsimp only at hS'); dsimp only [zo139_1_20]; go_simp; try with_reducible rfl)
         simp only [Act.put, pA, pB, pC]
         refine tK (i := 21) (oi := zo139_1_21) (v := ?_) rfl (by kernel_rfl) (fun _ _ _ h => h) (Or.inl ⟨rfl, ?_⟩) hS ?_
         rotate_left
         · (intro w' hS'; (try dsimp only at hS'); dsimp only [zo139_1_21]; go_simp; try with_reducible rfl)
         simp only [Act.put, pA, pB, pC]
         refine tK (i := 22) (oi := zo139_1_22) (v := ?_) rfl (by kernel_rfl) (fun _ _ _ h => h) (Or.inl ⟨rfl, ?_⟩) hS ?_
         rotate_left
         · (intro w' hS'; (try dsimp only at hS'); dsimp only [zo139_1_22]; go_simp; try with_reducible rfl)
         simp only [Act.put, pA, pB, pC]
         refine tK (i := 23) (oi := zo139_1_23) (v := ?_) rfl (by kernel_rfl) (fun _ _ _ h => h) (Or.inl ⟨rfl, ?_⟩) hS ?_
         rotate_left
         · (intro w' hS'; (try dsimp only at hS'); dsimp only [zo139_1_23]; go_simp; try with_reducible rfl)
         simp only [Act.put, pA, pB, pC]
         refine tK (i := 24) (oi := zo139_1_24) (v := ?_) rfl (by kernel_rfl) (fun _ _ _ h => h) (Or.inl ⟨rfl, ?_⟩) hS ?_
         rotate_left
         · (intro w' hS'; (try dsimp only at hS'); dsimp only [zo139_1_24]; go_simp; try with_reducible rfl)
         simp only [Act.put, pA, pB, pC]
         refine tK (i := 25) (oi := zo139_1_25) (v := ?_) rfl (by kernel_rfl) (fun _ _ _ h => h) (Or.inl ⟨rfl, ?_⟩) hS ?_
         rotate_left
         · (intro w' hS'; (try dsimp only at hS'); dsimp only [zo139_1_25]; go_simp; try with_reducible rfl)
         simp only [Act.put, pA, pB, pC]
         refine tK (i := 26) (oi := zo139_1_26) (v := ?_) rfl (by kernel_rfl) (fun _ _ _ h => h) (Or.inl ⟨rfl, ?_⟩) hS ?_
         rotate_left
         · (intro w' hS'; (try dsimp only at hS'); dsimp only [zo139_1_26]; go_simp; try with_reducible rfl)
         simp only [Act.put, pA, pB, pC]
         refine tK (i := 27) (oi := zo139_1_27) (v := ?_) rfl (by kernel_rfl) (fun _ _ _ h => h) (Or.inl ⟨rfl, ?_⟩) hS ?_
         rotate_left
         · (intro w' hS'; (try dsimp only at hS'); dsimp only [zo139_1_27]; go_simp; try with_reducible rfl)
         simp only [Act.put, pA, pB, pC]
         refine tK (i := 28) (oi := zo139_1_28) (v := ?_) rfl (by kernel_rfl) (fun _ _ _ h => h) (Or.inl ⟨rfl, ?_⟩) hS ?_
         rotate_left
         · (intro w' hS'; (try dsimp only at hS'); dsimp only [zo139_1_28]; go_simp; try with_reducible rfl)
         simp only [Act.put, pA, pB, pC]
         refine tK (i := 29) (oi := zo139_1_29) (v := ?_) rfl (by kernel_rfl) (fun _ _ _ h => h) (Or.inl ⟨rfl, ?_⟩) hS ?_
         rotate_left
         · (intro w' hS'; (try dsimp only at hS'); dsimp only [zo139_1_29]; go_simp; try with_reducible rfl)
         simp only [Act.put, pA, pB, pC]
         refine wpAnyH_ready (rs := [30]) (by kernel_rfl) (by simp) ?_
         refine AllReadyH.cons (o := zo139_1_30) rfl (fun K hK => ?_) .nil
         refine step_call 200 #[.tmp 28, .tmp 32, .const (.bool true)] _ rfl rfl #[.slice A1 p.lines.length k1, .slice A2 p.done.length k2, .bool true] Tryz.call200 (by simp [Act.eval]) (HCT.out _ H1.out.drew H2.out.drew) ?_
         rintro e w1 ⟨rfl, b1⟩
         refine ⟨_, rfl, ?_⟩
         obtain ⟨hcc, hff⟩ := bcell b1
         replace hS : w1.cell? ⟨g, f, none⟩ = some (.slice A1 p.lines.length k1) ∧ w1.cell? ⟨g, f + 1, none⟩ = some (.slice A2 p.done.length k2) ∧ w1.cell? ⟨g, f + 2, none⟩ = some (.slice A3 p.undone.length k3) := ⟨(hcc _ _ gl).trans y0, (hcc _ _ gl).trans y1, (hcc _ _ gl).trans y2⟩
         refine hK.out _ _ ?_ (fun hHeld => ?_)
         · exact hS
         clear hK K hHeld
         simp only [Act.put, pA, pB, pC]
         refine tK (i := 31) (oi := zo139_1_31) (v := ?_) rfl (by kernel_rfl) (fun _ _ _ h => h) (Or.inl ⟨rfl, ?_⟩) hS ?_
         rotate_left
         · (intro w' hS'; (try dsimp only at hS'); dsimp only [zo139_1_31]; go_simp; try with_reducible rfl)
         simp only [Act.put, pA, pB, pC]
         refine tK (i := 32) (oi := zo139_1_32) (v := ?_) rfl (by kernel_rfl) (fun _ _ _ h => h) (Or.inl ⟨rfl, ?_⟩) hS ?_
         rotate_left
         · (intro w' hS'; (try dsimp only at hS'); dsimp only [zo139_1_32]; go_simp; try with_reducible rfl)
         simp only [Act.put, pA, pB, pC]
         refine tK (i := 33) (oi := zo139_1_33) (v := ?_) rfl (by kernel_rfl) (fun _ _ _ h => h) (Or.inl ⟨rfl, ?_⟩) hS ?_
         rotate_left
         · (intro w' hS'; (try dsimp only at hS'); dsimp only [zo139_1_33]; go_simp; try with_reducible rfl)
         simp only [Act.put, pA, pB, pC]
         refine tK (i := 34) (oi := zo139_1_34) (v := ?_) rfl (by kernel_rfl) (fun _ _ _ h => h) (Or.inl ⟨rfl, ?_⟩) hS ?_
         rotate_left
         · (intro w' hS'; (try dsimp only at hS'); dsimp only [zo139_1_34]; go_simp; try with_reducible rfl)
         simp only [Act.put, pA, pB, pC]
         refine tK (i := 35) (oi := zo139_1_35) (v := ?_) rfl (by kernel_rfl) (fun _ _ _ h => h) (Or.inl ⟨rfl, ?_⟩) hS ?_
         rotate_left
         · (intro w' hS'; (try dsimp only at hS'); dsimp only [zo139_1_35]; go_simp; try with_reducible rfl)
         simp only [Act.put, pA, pB, pC]
         refine tK (i := 36) (oi := zo139_1_36) (v := ?_) rfl (by kernel_rfl) (fun _ _ _ h => h) (Or.inl ⟨rfl, ?_⟩) hS ?_
         rotate_left
         · (intro w' hS'; (try dsimp only at hS'); dsimp only [zo139_1_36]; go_simp; try with_reducible rfl)
         simp only [Act.put, pA, pB, pC]
         refine tK (i := 37) (oi := zo139_1_37) (v := ?_) rfl (by kernel_rfl) (fun _ _ _ h => h) (Or.inl ⟨rfl, ?_⟩) hS ?_
         rotate_left
         · (intro w' hS'; (try dsimp only at hS'); dsimp only [zo139_1_37]; go_simp; try with_reducible rfl)
         simp only [Act.put, pA, pB, pC]
         refine tK (i := 38) (oi := zo139_1_38) (v := ?_) rfl (by kernel_rfl) (fun _ _ _ h => h) (Or.inl ⟨rfl, ?_⟩) hS ?_
         rotate_left
         · (intro w' hS'; (try dsimp only at hS'); dsimp only [zo139_1_38]; go_simp; try with_reducible rfl)
         simp only [Act.put, pA, pB, pC]
         refine tK (i := 39) (oi := zo139_1_39) (v := ?_) rfl (by kernel_rfl) (fun _ _ _ h => h) (Or.inl ⟨rfl, ?_⟩) hS ?_
         rotate_left
         · (intro w' hS'; (try dsimp only at hS'); dsimp only [zo139_1_39]; go_simp; try with_reducible rfl)
         simp only [Act.put, pA, pB, pC]
         refine tK (i := 40) (oi := zo139_1_40) (v := ?_) rfl (by kernel_rfl) (fun _ _ _ h => h) (Or.inl ⟨rfl, ?_⟩) hS ?_
         rotate_left
         · (intro w' hS'; (try dsimp only at hS'); dsimp only [zo139_1_40]; go_simp; try with_reducible rfl)
         simp only [Act.put, pA, pB, pC]
         refine wpAnyH_ready (rs := [41]) (by kernel_rfl) (by simp) ?_
         refine AllReadyH.cons (o := zo139_1_41) rfl (fun K hK => ?_) .nil
         refine step_call 200 #[.tmp 39, .tmp 43, .const (.bool false)] _ rfl rfl #[.slice A1 p.lines.length k1, .slice A3 p.undone.length k3, .bool false] Tryz.call200 (by simp [Act.eval]) (HCF.out _ (H1.out.drew.below b1) (H3.out.drew.below b1)) ?_
         rintro e w2 ⟨rfl, b2⟩
         refine ⟨_, rfl, ?_⟩
         obtain ⟨hcc2, hff2⟩ := bcell b2
         replace hS : w2.cell? ⟨g, f, none⟩ = some (.slice A1 p.lines.length k1) ∧ w2.cell? ⟨g, f + 1, none⟩ = some (.slice A2 p.done.length k2) ∧ w2.cell? ⟨g, f + 2, none⟩ = some (.slice A3 p.undone.length k3) := ⟨(hcc2 _ _ (Nat.lt_of_lt_of_le gl b1.size)).trans hS.1, (hcc2 _ _ (Nat.lt_of_lt_of_le gl b1.size)).trans hS.2.1, (hcc2 _ _ (Nat.lt_of_lt_of_le gl b1.size)).trans hS.2.2⟩
         refine hK.out _ _ ?_ (fun hHeld => ?_)
         · exact hS
         clear hK K hHeld
         simp only [Act.put, pA, pB, pC]
         refine tK (i := 42) (oi := zo139_1_42) (v := ?_) rfl (by kernel_rfl) (fun _ _ _ h => h) (Or.inl ⟨rfl, ?_⟩) hS ?_
         rotate_left
         · (intro w' hS'; (try dsimp only at hS'); dsimp only [zo139_1_42]; go_simp; try with_reducible rfl)
         simp only [Act.put, pA, pB, pC]
         refine tK (i := 43) (oi := zo139_1_43) (v := ?_) rfl (by kernel_rfl) (fun _ _ _ h => h) (Or.inl ⟨rfl, ?_⟩) hS ?_
         rotate_left
         · (intro w' hS'; (try dsimp only at hS'); dsimp only [zo139_1_43]; go_simp; try with_reducible rfl)
         simp only [Act.put, pA, pB, pC]
         refine wpAnyH_done (by kernel_rfl) ?_ _
         go_wp2_with fail
         go_ret
         exact ⟨ret_boolF HF.out.symm, bt (((Below.refl _ _).drew).trans (b1.mono (by simp))) b2⟩
     · have g1 : (p.done.length : Int) ≤ 30 := by omega
       have g2 : ((p.undone.length : Int) ≤ 30) = False := eq_false (by omega)
       have HF : Hid (validB p = false) := by show _ = _; simp [validB, hu]
       go_enter Tryz.func139, Tryz.ntmps139
       go_wp2_with fail
       have hS : (fun w' => w'.cell? ⟨g, f, none⟩ = some (.slice A1 p.lines.length k1) ∧ w'.cell? ⟨g, f + 1, none⟩ = some (.slice A2 p.done.length k2) ∧ w'.cell? ⟨g, f + 2, none⟩ = some (.slice A3 p.undone.length k3)) w.drew := ⟨y0, y1, y2⟩
       dsimp only at hS
       refine wp_region_held_drew (S := (fun w' => w'.cell? ⟨g, f, none⟩ = some (.slice A1 p.lines.length k1) ∧ w'.cell? ⟨g, f + 1, none⟩ = some (.slice A2 p.done.length k2) ∧ w'.cell? ⟨g, f + 2, none⟩ = some (.slice A3 p.undone.length k3))) (by kernel_rfl) hS (fun _ => ?_)
       refine tK (i := 0) (oi := zo139_1_0) (v := ?_) rfl (by kernel_rfl) (fun _ _ _ h => h) (Or.inl ⟨rfl, ?_⟩) hS ?_
       rotate_left
       · (intro w' hS'; (try dsimp only at hS'); dsimp only [zo139_1_0]; go_simp; try with_reducible rfl)
       simp only [Act.put, pA, pB, pC]
       refine tK (i := 1) (oi := zo139_1_1) (v := ?_) rfl (by kernel_rfl) (fun _ _ _ h => h) (Or.inl ⟨rfl, ?_⟩) hS ?_
       rotate_left
       · (intro w' hS'; (try dsimp only at hS'); dsimp only [zo139_1_1]; go_simp; try with_reducible rfl)
       simp only [Act.put, pA, pB, pC]
       refine tK (i := 2) (oi := zo139_1_2) (v := ?_) rfl (by kernel_rfl) (fun _ _ _ h => h) (Or.inl ⟨rfl, ?_⟩) hS ?_
       rotate_left
       · (intro w' hS'; (try dsimp only at hS'); dsimp only [zo139_1_2]; go_simp; try with_reducible rfl)
       simp only [Act.put, pA, pB, pC]
       refine tK (i := 3) (oi := zo139_1_3) (v := ?_) rfl (by kernel_rfl) (fun _ _ _ h => h) (Or.inl ⟨rfl, ?_⟩) hS ?_
       rotate_left
       · (intro w' hS'; (try dsimp only at hS'); dsimp only [zo139_1_3]; go_simp; try with_reducible rfl)
       simp only [Act.put, pA, pB, pC]
       refine wpAnyH_ready (rs := [4]) (by kernel_rfl) (by simp) ?_
       refine AllReadyH.cons (o := zo139_1_4) rfl (fun K hK => ?_) .nil
       refine step_call 199 #[.tmp 6] _ rfl rfl #[.slice A1 p.lines.length k1] Tryz.call199 (by simp [Act.eval]) (HC.out _ H1.out.drew) ?_
       rintro e w1 ⟨rfl, rfl⟩
       refine ⟨_, rfl, ?_⟩
       refine hK.out _ _ ?_ (fun hHeld => ?_)
       · exact hS
       clear hK K hHeld
       simp only [Act.put, pA, pB, pC]
       refine tK (i := 5) (oi := zo139_1_5) (v := ?_) rfl (by kernel_rfl) (fun _ _ _ h => h) (Or.inl ⟨rfl, ?_⟩) hS ?_
       rotate_left
       · (intro w' hS'; (try dsimp only at hS'); dsimp only [zo139_1_5]; go_simp; try with_reducible rfl)
       simp only [Act.put, pA, pB, pC]
       refine tK (i := 6) (oi := zo139_1_6) (v := ?_) rfl (by kernel_rfl) (fun _ _ _ h => h) (Or.inl ⟨rfl, ?_⟩) hS ?_
       rotate_left
       · (intro w' hS'; (try dsimp only at hS'); dsimp only [zo139_1_6]; go_simp; try with_reducible rfl)
       simp only [Act.put, pA, pB, pC]
       refine tK (i := 7) (oi := zo139_1_7) (v := ?_) rfl (by kernel_rfl) (fun _ _ _ h => h) (Or.inl ⟨rfl, ?_⟩) hS ?_
       rotate_left
       · (intro w' hS'; (try dsimp only at hS'); dsimp only [zo139_1_7]; go_simp; try with_reducible rfl)
       simp only [Act.put, pA, pB, pC]
       refine tK (i := 8) (oi := zo139_1_8) (v := ?_) rfl (by kernel_rfl) (fun _ _ _ h => h) (Or.inl ⟨rfl, ?_⟩) hS ?_
       rotate_left
       · (intro w' hS'; (try dsimp only at hS'); dsimp only [zo139_1_8]; go_simp; try with_reducible rfl)
       simp only [Act.put, pA, pB, pC]
       refine tK (i := 9) (oi := zo139_1_9) (v := ?_) rfl (by kernel_rfl) (fun _ _ _ h => h) (Or.inl ⟨rfl, ?_⟩) hS ?_
       rotate_left
       · (intro w' hS'; (try dsimp only at hS'); dsimp only [zo139_1_9]; go_simp; try with_reducible rfl)
       simp only [Act.put, pA, pB, pC]
       refine tK (i := 10) (oi := zo139_1_10) (v := ?_) rfl (by kernel_rfl) (fun _ _ _ h => h) (Or.inl ⟨rfl, ?_⟩) hS ?_
       rotate_left
       · (intro w' hS'; (try dsimp only at hS'); dsimp only [zo139_1_10]; go_simp; try with_reducible rfl)
       simp only [Act.put, pA, pB, pC]
       refine tK (i := 11) (oi := zo139_1_11) (v := ?_) rfl (by kernel_rfl) (fun _ _ _ h => h) (Or.inl ⟨rfl, ?_⟩) hS ?_
       rotate_left
       · (intro w' hS'; (try dsimp only at hS'); dsimp only [zo139_1_11]; go_simp; try with_reducible rfl)
       simp only [Act.put, pA, pB, pC]
       refine tK (i := 12) (oi := zo139_1_12) (v := ?_) rfl (by kernel_rfl) (fun _ _ _ h => h) (Or.inl ⟨rfl, ?_⟩) hS ?_
       rotate_left
       · (intro w' hS'; (try dsimp only at hS'); dsimp only [zo139_1_12]; go_simp; try with_reducible rfl)
       simp only [Act.put, pA, pB, pC]
       refine tK (i := 13) (oi := zo139_1_13) (v := ?_) rfl (by kernel_rfl) (fun _ _ _ h => h) (Or.inl ⟨rfl, ?_⟩) hS ?_
       rotate_left
       · (intro w' hS'; (try dsimp only at hS'); dsimp only [zo139_1_13]; go_simp; try with_reducible rfl)
       simp only [Act.put, pA, pB, pC]
       refine tK (i := 14) (oi := zo139_1_14) (v := ?_) rfl (by kernel_rfl) (fun _ _ _ h => h) (Or.inl ⟨rfl, ?_⟩) hS ?_
       rotate_left
       · (intro w' hS'; (try dsimp only at hS'); dsimp only [zo139_1_14]; go_simp; try with_reducible rfl)
       simp only [Act.put, pA, pB, pC]
       refine tK (i := 15) (oi := zo139_1_15) (v := ?_) rfl (by kernel_rfl) (fun _ _ _ h => h) (Or.inl ⟨rfl, ?_⟩) hS ?_
       rotate_left
       · (intro w' hS'; (try dsimp only at hS'); dsimp only [zo139_1_15]; go_simp; try with_reducible rfl)
       simp only [Act.put, pA, pB, pC]
       refine tK (i := 16) (oi := zo139_1_16) (v := ?_) rfl (by kernel_rfl) (fun _ _ _ h => h) (Or.inl ⟨rfl, ?_⟩) hS ?_
       rotate_left
       · (intro w' hS'; (try dsimp only at hS'); dsimp only [zo139_1_16]; go_simp; try with_reducible rfl)
       simp only [Act.put, pA, pB, pC]
       refine tK (i := 17) (oi := zo139_1_17) (v := ?_) rfl (by kernel_rfl) (fun _ _ _ h => h) (Or.inl ⟨rfl, ?_⟩) hS ?_
       rotate_left
       · (intro w' hS'; (try dsimp only at hS'); dsimp only [zo139_1_17]; go_simp; try with_reducible rfl)
       simp only [Act.put, pA, pB, pC]
       refine tK (i := 18) (oi := zo139_1_18) (v := ?_) rfl (by kernel_rfl) (fun _ _ _ h => h) (Or.inl ⟨rfl, ?_⟩) hS ?_
       rotate_left
       · (intro w' hS'; (try dsimp only at hS'); dsimp only [zo139_1_18]; go_simp; try with_reducible rfl)
       simp only [Act.put, pA, pB, pC]
       refine tK (i := 19) (oi := zo139_1_19) (v := ?_) rfl (by kernel_rfl) (fun _ _ _ h => h) (Or.inl ⟨rfl, ?_⟩) hS ?_
       rotate_left
       · (intro w' hS'; (try dsimp only at hS'); dsimp only [zo139_1_19]; go_simp; try with_reducible rfl)
       simp only [Act.put, pA, pB, pC]
       refine tK (i := 20) (oi := zo139_1_20) (v := ?_) rfl (by kernel_rfl) (fun _ _ _ h => h) (Or.inl ⟨rfl, ?_⟩) hS ?_
       rotate_left
       · (intro w' hS'; (try dsimp only at hS'); dsimp only [zo139_1_20]; go_simp; try with_reducible rfl)
       simp only [Act.put, pA, pB, pC]
       refine tK (i := 21) (oi := zo139_1_21) (v := ?_) rfl (by kernel_rfl) (fun _ _ _ h => h) (Or.inl ⟨rfl, ?_⟩) hS ?_
       rotate_left
       · (intro w' hS'; (try dsimp only at hS'); dsimp only [zo139_1_21]; go_simp; try with_reducible rfl)
       simp only [Act.put, pA, pB, pC]
       refine tK (i := 22) (oi := zo139_1_22) rfl (by kernel_rfl) (fun _ _ _ h => h) (Or.inr ⟨rfl, rfl⟩) hS ?_
       simp only [Act.put, pA, pB, pC]
       refine tK (i := 23) (oi := zo139_1_23) rfl (by kernel_rfl) (fun _ _ _ h => h) (Or.inr ⟨rfl, rfl⟩) hS ?_
       simp only [Act.put, pA, pB, pC]
       refine tK (i := 24) (oi := zo139_1_24) rfl (by kernel_rfl) (fun _ _ _ h => h) (Or.inr ⟨rfl, rfl⟩) hS ?_
       simp only [Act.put, pA, pB, pC]
       refine tK (i := 25) (oi := zo139_1_25) rfl (by kernel_rfl) (fun _ _ _ h => h) (Or.inr ⟨rfl, rfl⟩) hS ?_
       simp only [Act.put, pA, pB, pC]
       refine tK (i := 26) (oi := zo139_1_26) rfl (by kernel_rfl) (fun _ _ _ h => h) (Or.inr ⟨rfl, rfl⟩) hS ?_
       simp only [Act.put, pA, pB, pC]
       refine tK (i := 27) (oi := zo139_1_27) rfl (by kernel_rfl) (fun _ _ _ h => h) (Or.inr ⟨rfl, rfl⟩) hS ?_
       simp only [Act.put, pA, pB, pC]
       refine tK (i := 28) (oi := zo139_1_28) rfl (by kernel_rfl) (fun _ _ _ h => h) (Or.inr ⟨rfl, rfl⟩) hS ?_
       simp only [Act.put, pA, pB, pC]
       refine tK (i := 29) (oi := zo139_1_29) rfl (by kernel_rfl) (fun _ _ _ h => h) (Or.inr ⟨rfl, rfl⟩) hS ?_
       simp only [Act.put, pA, pB, pC]
       refine tK (i := 30) (oi := zo139_1_30) rfl (by kernel_rfl) (fun _ _ _ h => h) (Or.inr ⟨rfl, rfl⟩) hS ?_
       simp only [Act.put, pA, pB, pC]
       refine tK (i := 31) (oi := zo139_1_31) (v := ?_) rfl (by kernel_rfl) (fun _ _ _ h => h) (Or.inl ⟨rfl, ?_⟩) hS ?_
       rotate_left
       · (intro w' hS'; (try dsimp only at hS'); dsimp only [zo139_1_31]; go_simp; try with_reducible rfl)
       simp only [Act.put, pA, pB, pC]
       refine tK (i := 32) (oi := zo139_1_32) (v := ?_) rfl (by kernel_rfl) (fun _ _ _ h => h) (Or.inl ⟨rfl, ?_⟩) hS ?_
       rotate_left
       · (intro w' hS'; (try dsimp only at hS'); dsimp only [zo139_1_32]; go_simp; try with_reducible rfl)
       simp only [Act.put, pA, pB, pC]
       refine tK (i := 33) (oi := zo139_1_33) rfl (by kernel_rfl) (fun _ _ _ h => h) (Or.inr ⟨rfl, rfl⟩) hS ?_
       simp only [Act.put, pA, pB, pC]
       refine tK (i := 34) (oi := zo139_1_34) rfl (by kernel_rfl) (fun _ _ _ h => h) (Or.inr ⟨rfl, rfl⟩) hS ?_
       simp only [Act.put, pA, pB, pC]
       refine tK (i := 35) (oi := zo139_1_35) rfl (by kernel_rfl) (fun _ _ _ h => h) (Or.inr ⟨rfl, rfl⟩) hS ?_
       simp only [Act.put, pA, pB, pC]
       refine tK (i := 36) (oi := zo139_1_36) rfl (by kernel_rfl) (fun _ _ _ h => h) (Or.inr ⟨rfl, rfl⟩) hS ?_
       simp only [Act.put, pA, pB, pC]
       refine tK (i := 37) (oi := zo139_1_37) rfl (by kernel_rfl) (fun _ _ _ h => h) (Or.inr ⟨rfl, rfl⟩) hS ?_
       simp only [Act.put, pA, pB, pC]
       refine tK (i := 38) (oi := zo139_1_38) rfl (by kernel_rfl) (fun _ _ _ h => h) (Or.inr ⟨rfl, rfl⟩) hS ?_
       simp only [Act.put, pA, pB, pC]
       refine tK (i := 39) (oi := zo139_1_39) rfl (by kernel_rfl) (fun _ _ _ h => h) (Or.inr ⟨rfl, rfl⟩) hS ?_
       simp only [Act.put, pA, pB, pC]
       refine tK (i := 40) (oi := zo139_1_40) rfl (by kernel_rfl) (fun _ _ _ h => h) (Or.inr ⟨rfl, rfl⟩) hS ?_
       simp only [Act.put, pA, pB, pC]
       refine tK (i := 41) (oi := zo139_1_41) rfl (by kernel_rfl) (fun _ _ _ h => h) (Or.inr ⟨rfl, rfl⟩) hS ?_
       simp only [Act.put, pA, pB, pC]
       refine tK (i := 42) (oi := zo139_1_42) (v := ?_) rfl (by kernel_rfl) (fun _ _ _ h => h) (Or.inl ⟨rfl, ?_⟩) hS ?_
       rotate_left
       · (intro w' hS'; (try dsimp only at hS'); dsimp only [zo139_1_42]; go_simp; try with_reducible rfl)
       simp only [Act.put, pA, pB, pC]
       refine tK (i := 43) (oi := zo139_1_43) (v := ?_) rfl (by kernel_rfl) (fun _ _ _ h => h) (Or.inl ⟨rfl, ?_⟩) hS ?_
       rotate_left
       · (intro w' hS'; (try dsimp only at hS'); dsimp only [zo139_1_43]; go_simp; try with_reducible rfl)
       simp only [Act.put, pA, pB, pC]
       refine wpAnyH_done (by kernel_rfl) ?_ _
       go_wp2_with fail
       go_ret
       exact ⟨ret_boolF HF.out.symm, (Below.refl _ _).drew⟩
   · have g1 : ((p.done.length : Int) ≤ 30) = False := eq_false (by omega)
     have HF : Hid (validB p = false) := by show _ = _; simp [validB, hd]
     go_enter Tryz.func139, Tryz.ntmps139
     go_wp2_with fail
     have hS : (fun w' => w'.cell? ⟨g, f, none⟩ = some (.slice A1 p.lines.length k1) ∧ w'.cell? ⟨g, f + 1, none⟩ = some (.slice A2 p.done.length k2) ∧ w'.cell? ⟨g, f + 2, none⟩ = some (.slice A3 p.undone.length k3)) w.drew := ⟨y0, y1, y2⟩
     dsimp only at hS
     refine wp_region_held_drew (S := (fun w' => w'.cell? ⟨g, f, none⟩ = some (.slice A1 p.lines.length k1) ∧ w'.cell? ⟨g, f + 1, none⟩ = some (.slice A2 p.done.length k2) ∧ w'.cell? ⟨g, f + 2, none⟩ = some (.slice A3 p.undone.length k3))) (by kernel_rfl) hS (fun _ => ?_)
     refine tK (i := 0) (oi := zo139_1_0) (v := ?_) rfl (by kernel_rfl) (fun _ _ _ h => h) (Or.inl ⟨rfl, ?_⟩) hS ?_
     rotate_left
     · (intro w' hS'; (try dsimp only at hS'); dsimp only [zo139_1_0]; go_simp; try with_reducible rfl)
     simp only [Act.put, pA, pB, pC]
     refine tK (i := 1) (oi := zo139_1_1) (v := ?_) rfl (by kernel_rfl) (fun _ _ _ h => h) (Or.inl ⟨rfl, ?_⟩) hS ?_
     rotate_left
     · (intro w' hS'; (try dsimp only at hS'); dsimp only [zo139_1_1]; go_simp; try with_reducible rfl)
     simp only [Act.put, pA, pB, pC]
     refine tK (i := 2) (oi := zo139_1_2) (v := ?_) rfl (by kernel_rfl) (fun _ _ _ h => h) (Or.inl ⟨rfl, ?_⟩) hS ?_
     rotate_left
     · (intro w' hS'; (try dsimp only at hS'); dsimp only [zo139_1_2]; go_simp; try with_reducible rfl)
     simp only [Act.put, pA, pB, pC]
     refine tK (i := 3) (oi := zo139_1_3) (v := ?_) rfl (by kernel_rfl) (fun _ _ _ h => h) (Or.inl ⟨rfl, ?_⟩) hS ?_
     rotate_left
     · (intro w' hS'; (try dsimp only at hS'); dsimp only [zo139_1_3]; go_simp; try with_reducible rfl)
     simp only [Act.put, pA, pB, pC]
     refine wpAnyH_ready (rs := [4]) (by kernel_rfl) (by simp) ?_
     refine AllReadyH.cons (o := zo139_1_4) rfl (fun K hK => ?_) .nil
     refine step_call 199 #[.tmp 6] _ rfl rfl #[.slice A1 p.lines.length k1] Tryz.call199 (by simp [Act.eval]) (HC.out _ H1.out.drew) ?_
     rintro e w1 ⟨rfl, rfl⟩
     refine ⟨_, rfl, ?_⟩
     refine hK.out _ _ ?_ (fun hHeld => ?_)
     · exact hS
     clear hK K hHeld
     simp only [Act.put, pA, pB, pC]
     refine tK (i := 5) (oi := zo139_1_5) (v := ?_) rfl (by kernel_rfl) (fun _ _ _ h => h) (Or.inl ⟨rfl, ?_⟩) hS ?_
     rotate_left
     · (intro w' hS'; (try dsimp only at hS'); dsimp only [zo139_1_5]; go_simp; try with_reducible rfl)
     simp only [Act.put, pA, pB, pC]
     refine tK (i := 6) (oi := zo139_1_6) (v := ?_) rfl (by kernel_rfl) (fun _ _ _ h => h) (Or.inl ⟨rfl, ?_⟩) hS ?_
     rotate_left
     · (intro w' hS'; (try dsimp only at hS'); dsimp only [zo139_1_6]; go_simp; try with_reducible rfl)
     simp only [Act.put, pA, pB, pC]
     refine tK (i := 7) (oi := zo139_1_7) (v := ?_) rfl (by kernel_rfl) (fun _ _ _ h => h) (Or.inl ⟨rfl, ?_⟩) hS ?_
     rotate_left
     · (intro w' hS'; (try dsimp only at hS'); dsimp only [zo139_1_7]; go_simp; try with_reducible rfl)
     simp only [Act.put, pA, pB, pC]
     refine tK (i := 8) (oi := zo139_1_8) (v := ?_) rfl (by kernel_rfl) (fun _ _ _ h => h) (Or.inl ⟨rfl, ?_⟩) hS ?_
     rotate_left
     · (intro w' hS'; (try dsimp only at hS'); dsimp only [zo139_1_8]; go_simp; try with_reducible rfl)
     simp only [Act.put, pA, pB, pC]
     refine tK (i := 9) (oi := zo139_1_9) (v := ?_) rfl (by kernel_rfl) (fun _ _ _ h => h) (Or.inl ⟨rfl, ?_⟩) hS ?_
     rotate_left
     · (intro w' hS'; (try dsimp only at hS'); dsimp only [zo139_1_9]; go_simp; try with_reducible rfl)
     simp only [Act.put, pA, pB, pC]
     refine tK (i := 10) (oi := zo139_1_10) (v := ?_) rfl (by kernel_rfl) (fun _ _ _ h => h) (Or.inl ⟨rfl, ?_⟩) hS ?_
     rotate_left
     · (intro w' hS'; (try dsimp only at hS'); dsimp only [zo139_1_10]; go_simp; try with_reducible rfl)
     simp only [Act.put, pA, pB, pC]
     refine tK (i := 11) (oi := zo139_1_11) (v := ?_) rfl (by kernel_rfl) (fun _ _ _ h => h) (Or.inl ⟨rfl, ?_⟩) hS ?_
     rotate_left
     · (intro w' hS'; (try dsimp only at hS'); dsimp only [zo139_1_11]; go_simp; try with_reducible rfl)
     simp only [Act.put, pA, pB, pC]
     refine tK (i := 12) (oi := zo139_1_12) (v := ?_) rfl (by kernel_rfl) (fun _ _ _ h => h) (Or.inl ⟨rfl, ?_⟩) hS ?_
     rotate_left
     · (intro w' hS'; (try dsimp only at hS'); dsimp only [zo139_1_12]; go_simp; try with_reducible rfl)
     simp only [Act.put, pA, pB, pC]
     refine tK (i := 13) (oi := zo139_1_13) (v := ?_) rfl (by kernel_rfl) (fun _ _ _ h => h) (Or.inl ⟨rfl, ?_⟩) hS ?_
     rotate_left
     · (intro w' hS'; (try dsimp only at hS'); dsimp only [zo139_1_13]; go_simp; try with_reducible rfl)
     simp only [Act.put, pA, pB, pC]
     refine tK (i := 14) (oi := zo139_1_14) rfl (by kernel_rfl) (fun _ _ _ h => h) (Or.inr ⟨rfl, rfl⟩) hS ?_
     simp only [Act.put, pA, pB, pC]
     refine tK (i := 15) (oi := zo139_1_15) rfl (by kernel_rfl) (fun _ _ _ h => h) (Or.inr ⟨rfl, rfl⟩) hS ?_
     simp only [Act.put, pA, pB, pC]
     refine tK (i := 16) (oi := zo139_1_16) rfl (by kernel_rfl) (fun _ _ _ h => h) (Or.inr ⟨rfl, rfl⟩) hS ?_
     simp only [Act.put, pA, pB, pC]
     refine tK (i := 17) (oi := zo139_1_17) rfl (by kernel_rfl) (fun _ _ _ h => h) (Or.inr ⟨rfl, rfl⟩) hS ?_
     simp only [Act.put, pA, pB, pC]
     refine tK (i := 18) (oi := zo139_1_18) rfl (by kernel_rfl) (fun _ _ _ h => h) (Or.inr ⟨rfl, rfl⟩) hS ?_
     simp only [Act.put, pA, pB, pC]
     refine tK (i := 19) (oi := zo139_1_19) rfl (by kernel_rfl) (fun _ _ _ h => h) (Or.inr ⟨rfl, rfl⟩) hS ?_
     simp only [Act.put, pA, pB, pC]
     refine tK (i := 20) (oi := zo139_1_20) (v := ?_) rfl (by kernel_rfl) (fun _ _ _ h => h) (Or.inl ⟨rfl, ?_⟩) hS ?_
     rotate_left
     · (intro w' hS'; (try dsimp only at hS'); dsimp only [zo139_1_20]; go_simp; try with_reducible rfl)
     simp only [Act.put, pA, pB, pC]
     refine tK (i := 21) (oi := zo139_1_21) (v := ?_) rfl (by kernel_rfl) (fun _ _ _ h => h) (Or.inl ⟨rfl, ?_⟩) hS ?_
     rotate_left
     · (intro w' hS'; (try dsimp only at hS'); dsimp only [zo139_1_21]; go_simp; try with_reducible rfl)
     simp only [Act.put, pA, pB, pC]
     refine tK (i := 22) (oi := zo139_1_22) rfl (by kernel_rfl) (fun _ _ _ h => h) (Or.inr ⟨rfl, rfl⟩) hS ?_
     simp only [Act.put, pA, pB, pC]
     refine tK (i := 23) (oi := zo139_1_23) rfl (by kernel_rfl) (fun _ _ _ h => h) (Or.inr ⟨rfl, rfl⟩) hS ?_
     simp only [Act.put, pA, pB, pC]
     refine tK (i := 24) (oi := zo139_1_24) rfl (by kernel_rfl) (fun _ _ _ h => h) (Or.inr ⟨rfl, rfl⟩) hS ?_
     simp only [Act.put, pA, pB, pC]
     refine tK (i := 25) (oi := zo139_1_25) rfl (by kernel_rfl) (fun _ _ _ h => h) (Or.inr ⟨rfl, rfl⟩) hS ?_
     simp only [Act.put, pA, pB, pC]
     refine tK (i := 26) (oi := zo139_1_26) rfl (by kernel_rfl) (fun _ _ _ h => h) (Or.inr ⟨rfl, rfl⟩) hS ?_
     simp only [Act.put, pA, pB, pC]
     refine tK (i := 27) (oi := zo139_1_27) rfl (by kernel_rfl) (fun _ _ _ h => h) (Or.inr ⟨rfl, rfl⟩) hS ?_
     simp only [Act.put, pA, pB, pC]
     refine tK (i := 28) (oi := zo139_1_28) rfl (by kernel_rfl) (fun _ _ _ h => h) (Or.inr ⟨rfl, rfl⟩) hS ?_
     simp only [Act.put, pA, pB, pC]
     refine tK (i := 29) (oi := zo139_1_29) rfl (by kernel_rfl) (fun _ _ _ h => h) (Or.inr ⟨rfl, rfl⟩) hS ?_
     simp only [Act.put, pA, pB, pC]
     refine tK (i := 30) (oi := zo139_1_30) rfl (by kernel_rfl) (fun _ _ _ h => h) (Or.inr ⟨rfl, rfl⟩) hS ?_
     simp only [Act.put, pA, pB, pC]
     refine tK (i := 31) (oi := zo139_1_31) (v := ?_) rfl (by kernel_rfl) (fun _ _ _ h => h) (Or.inl ⟨rfl, ?_⟩) hS ?_
     rotate_left
     · (intro w' hS'; (try dsimp only at hS'); dsimp only [zo139_1_31]; go_simp; try with_reducible rfl)
     simp only [Act.put, pA, pB, pC]
     refine tK (i := 32) (oi := zo139_1_32) (v := ?_) rfl (by kernel_rfl) (fun _ _ _ h => h) (Or.inl ⟨rfl, ?_⟩) hS ?_
     rotate_left
     · (intro w' hS'; (try dsimp only at hS'); dsimp only [zo139_1_32]; go_simp; try with_reducible rfl)
     simp only [Act.put, pA, pB, pC]
     refine tK (i := 33) (oi := zo139_1_33) rfl (by kernel_rfl) (fun _ _ _ h => h) (Or.inr ⟨rfl, rfl⟩) hS ?_
     simp only [Act.put, pA, pB, pC]
     refine tK (i := 34) (oi := zo139_1_34) rfl (by kernel_rfl) (fun _ _ _ h => h) (Or.inr ⟨rfl, rfl⟩) hS ?_
     simp only [Act.put, pA, pB, pC]
     refine tK (i := 35) (oi := zo139_1_35) rfl (by kernel_rfl) (fun _ _ _ h => h) (Or.inr ⟨rfl, rfl⟩) hS ?_
     simp only [Act.put, pA, pB, pC]
     refine tK (i := 36) (oi := zo139_1_36) rfl (by kernel_rfl) (fun _ _ _ h => h) (Or.inr ⟨rfl, rfl⟩) hS ?_
     simp only [Act.put, pA, pB, pC]
     refine tK (i := 37) (oi := zo139_1_37) rfl (by kernel_rfl) (fun _ _ _ h => h) (Or.inr ⟨rfl, rfl⟩) hS ?_
     simp only [Act.put, pA, pB, pC]
     refine tK (i := 38) (oi := zo139_1_38) rfl (by kernel_rfl) (fun _ _ _ h => h) (Or.inr ⟨rfl, rfl⟩) hS ?_
     simp only [Act.put, pA, pB, pC]
     refine tK (i := 39) (oi := zo139_1_39) rfl (by kernel_rfl) (fun _ _ _ h => h) (Or.inr ⟨rfl, rfl⟩) hS ?_
     simp only [Act.put, pA, pB, pC]
     refine tK (i := 40) (oi := zo139_1_40) rfl (by kernel_rfl) (fun _ _ _ h => h) (Or.inr ⟨rfl, rfl⟩) hS ?_
     simp only [Act.put, pA, pB, pC]
     refine tK (i := 41) (oi := zo139_1_41) rfl (by kernel_rfl) (fun _ _ _ h => h) (Or.inr ⟨rfl, rfl⟩) hS ?_
     simp only [Act.put, pA, pB, pC]
     refine tK (i := 42) (oi := zo139_1_42) (v := ?_) rfl (by kernel_rfl) (fun _ _ _ h => h) (Or.inl ⟨rfl, ?_⟩) hS ?_
     rotate_left
     · (intro w' hS'; (try dsimp only at hS'); dsimp only [zo139_1_42]; go_simp; try with_reducible rfl)
     simp only [Act.put, pA, pB, pC]
     refine tK (i := 43) (oi := zo139_1_43) (v := ?_) rfl (by kernel_rfl) (fun _ _ _ h => h) (Or.inl ⟨rfl, ?_⟩) hS ?_
     rotate_left
     · (intro w' hS'; (try dsimp only at hS'); dsimp only [zo139_1_43]; go_simp; try with_reducible rfl)
     simp only [Act.put, pA, pB, pC]
     refine wpAnyH_done (by kernel_rfl) ?_ _
     go_wp2_with fail
     go_ret
     exact ⟨ret_boolF HF.out.symm, (Below.refl _ _).drew⟩
end Go.Proofs.YtkfadfddhbpngaaGreat
