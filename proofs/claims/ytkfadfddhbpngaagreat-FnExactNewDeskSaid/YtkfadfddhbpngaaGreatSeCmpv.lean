/- The order of bigrams, in the program. Conditions: none. -/
import Derived.Test.YtkfadfddhbpngaaGreatTkv
import Derived.Test.YtkfadfddhbpngaaGreatCmpv
import Derived.Test.YtkfadfddhbpngaaGreatLabelv
namespace Go.Proofs.YtkfadfddhbpngaaGreat
open Go Go.RowKit
abbrev zo184_1_0 : Oper := { dst := some 5, op := .fieldAddr 186 (.tmp 2) 0, type := 0, pos := "l18_language.go:35", after := #[], guard := none }
abbrev zo184_1_1 : Oper := { dst := some 6, op := .load 9 (.tmp 5), type := 9, pos := "l18_language.go:35", after := #[{ on := 0, ground := .data }], guard := none }
abbrev zo184_1_2 : Oper := { dst := some 7, op := .fieldAddr 186 (.tmp 3) 0, type := 0, pos := "l18_language.go:35", after := #[], guard := none }
abbrev zo184_1_3 : Oper := { dst := some 8, op := .load 9 (.tmp 7), type := 9, pos := "l18_language.go:35", after := #[{ on := 2, ground := .data }], guard := none }
abbrev zo184_1_4 : Oper := { dst := some 9, op := .call { callee := .value (.func 219), args := #[.tmp 6, .tmp 8], argTypes := #[9, 9] }, type := 3, pos := "l18_language.go:35", after := #[{ on := 1, ground := .data }, { on := 3, ground := .data }], guard := none }
abbrev zo184_1_5 : Oper := { dst := some 10, op := .fieldAddr 186 (.tmp 2) 1, type := 0, pos := "l18_language.go:35", after := #[], guard := none }
abbrev zo184_1_6 : Oper := { dst := some 11, op := .load 9 (.tmp 10), type := 9, pos := "l18_language.go:35", after := #[{ on := 5, ground := .data }], guard := none }
abbrev zo184_1_7 : Oper := { dst := some 12, op := .fieldAddr 186 (.tmp 3) 1, type := 0, pos := "l18_language.go:35", after := #[], guard := none }
abbrev zo184_1_8 : Oper := { dst := some 13, op := .load 9 (.tmp 12), type := 9, pos := "l18_language.go:35", after := #[{ on := 7, ground := .data }], guard := none }
abbrev zo184_1_9 : Oper := { dst := some 14, op := .call { callee := .value (.func 219), args := #[.tmp 11, .tmp 13], argTypes := #[9, 9] }, type := 3, pos := "l18_language.go:35", after := #[{ on := 6, ground := .data }, { on := 8, ground := .data }, { on := 4, ground := .chain }], guard := none }
abbrev zo184_1_10 : Oper := { dst := some 15, op := .buildSlice 291 2 #[(0, .tmp 9), (1, .tmp 14)], type := 291, pos := "l18_language.go:35", after := #[{ on := 4, ground := .data }, { on := 9, ground := .data }], guard := none }
abbrev zo184_1_11 : Oper := { dst := some 16, op := .call { callee := .value (.func 218), args := #[.tmp 15], argTypes := #[291] }, type := 3, pos := "l18_language.go:35", after := #[{ on := 10, ground := .data }, { on := 9, ground := .chain }], guard := none }
abbrev zo184_1_12 : Oper := { dst := some 4, op := .assign (.tmp 16), type := 3, pos := "l18_language.go:35", after := #[{ on := 11, ground := .data }, { on := 11, ground := .chain }, { on := 0, ground := .phase }, { on := 1, ground := .phase }, { on := 2, ground := .phase }, { on := 3, ground := .phase }, { on := 4, ground := .phase }, { on := 5, ground := .phase }, { on := 6, ground := .phase }, { on := 7, ground := .phase }, { on := 8, ground := .phase }, { on := 9, ground := .phase }, { on := 10, ground := .phase }, { on := 11, ground := .phase }], guard := none }

set_option maxRecDepth 100000 in
set_option maxHeartbeats 1000000 in
theorem impl_compareBigrams_c (x y : PBigram) (w : World) : Calls Tryz.prog 184 #[.agg #[.string x.first, .string x.second, .int .i64 x.cost], .agg #[.string y.first, .string y.second, .int .i64 y.cost]] w fun e w' => e = .returned (.int .i64 (cmpC (bigKey x) (bigKey y))) ∧ Grw w w' := by
 obtain ⟨a, b, n⟩ := x
 obtain ⟨c, d, m⟩ := y
 dsimp only [bigKey, cmpC]
 have HC1 := Lib.hid (Compare_c a c)
 have HC2 := Lib.hid (Compare_c b d)
 generalize cmpF a c = r1 at HC1 ⊢
 generalize cmpF b d = r2 at HC2 ⊢
 obtain ⟨r, hr⟩ : ∃ r, (if r1 ≠ 0 then r1 else r2) = r := ⟨_, rfl⟩
 rw [hr]
 have HR := Lib.hid hr
 clear hr
 have GW := Lib.hid (((Grw.refl w).alloc (.cells #[.string a, .string b, .int .i64 n] 186)).alloc (.cells #[.string c, .string d, .int .i64 m] 186))
 have R1 := (Row.new w 186 #[.string a, .string b, .int .i64 n]).alloc (.cells #[.string c, .string d, .int .i64 m] 186)
 have R2 := Row.new (w.alloc (.cells #[.string a, .string b, .int .i64 n] 186)) 186 #[.string c, .string d, .int .i64 m]
 rw [World.size_alloc] at R2
 go_enter Tryz.func184, Tryz.ntmps184
 go_wp2_with fail
 generalize (w.alloc (.cells #[.string a, .string b, .int .i64 n] 186)).alloc (.cells #[.string c, .string d, .int .i64 m] 186) = w2 at *
 have p0 := R1.cell' (i := 0) rfl
 have p1 := R1.cell' (i := 1) rfl
 have q0 := R2.cell' (i := 0) rfl
 have q1 := R2.cell' (i := 1) rfl
 have hS : (fun w' : World => w'.cell? ⟨w.heap.size, 0, none⟩ = some (.string a) ∧ w'.cell? ⟨w.heap.size, 1, none⟩ = some (.string b) ∧ w'.cell? ⟨w.heap.size + 1, 0, none⟩ = some (.string c) ∧ w'.cell? ⟨w.heap.size + 1, 1, none⟩ = some (.string d)) w2.drew := ⟨p0, p1, q0, q1⟩
 refine wp_region_held_drew (S := fun w' : World => w'.cell? ⟨w.heap.size, 0, none⟩ = some (.string a) ∧ w'.cell? ⟨w.heap.size, 1, none⟩ = some (.string b) ∧ w'.cell? ⟨w.heap.size + 1, 0, none⟩ = some (.string c) ∧ w'.cell? ⟨w.heap.size + 1, 1, none⟩ = some (.string d)) (by kernel_rfl) hS (fun _ => ?_)
 refine tK (i := 0) (oi := zo184_1_0) (v := ?_) rfl (by kernel_rfl) (fun _ _ _ h => h) (Or.inl ⟨rfl, ?_⟩) hS ?_
 rotate_left
 · (intro w' hS'; (try dsimp only at hS'); dsimp only [zo184_1_0]; go_simp; try with_reducible rfl)
 simp only [Act.put, pA, pB, pC]
 refine tK (i := 1) (oi := zo184_1_1) (v := ?_) rfl (by kernel_rfl) (fun _ _ _ h => h) (Or.inl ⟨rfl, ?_⟩) hS ?_
 rotate_left
 · (intro w' hS'; (try dsimp only at hS'); dsimp only [zo184_1_1]; go_simp; try with_reducible rfl)
 simp only [Act.put, pA, pB, pC]
 refine tK (i := 2) (oi := zo184_1_2) (v := ?_) rfl (by kernel_rfl) (fun _ _ _ h => h) (Or.inl ⟨rfl, ?_⟩) hS ?_
 rotate_left
 · (intro w' hS'; (try dsimp only at hS'); dsimp only [zo184_1_2]; go_simp; try with_reducible rfl)
 simp only [Act.put, pA, pB, pC]
 refine tK (i := 3) (oi := zo184_1_3) (v := ?_) rfl (by kernel_rfl) (fun _ _ _ h => h) (Or.inl ⟨rfl, ?_⟩) hS ?_
 rotate_left
 · (intro w' hS'; (try dsimp only at hS'); dsimp only [zo184_1_3]; go_simp; try with_reducible rfl)
 simp only [Act.put, pA, pB, pC]
 refine take_call (i := 4) (oi := zo184_1_4) rfl (by kernel_rfl) (by kernel_rfl) (by kernel_rfl) (fun _ _ _ h => h) 219 #[.tmp 6, .tmp 8] _ rfl rfl #[.string a, .string c] Tryz.call219 (by go_simp) (fun w => HC1.out w) hS ?_
 simp only [Act.put, pA, pB, pC]
 refine tK (i := 5) (oi := zo184_1_5) (v := ?_) rfl (by kernel_rfl) (fun _ _ _ h => h) (Or.inl ⟨rfl, ?_⟩) hS ?_
 rotate_left
 · (intro w' hS'; (try dsimp only at hS'); dsimp only [zo184_1_5]; go_simp; try with_reducible rfl)
 simp only [Act.put, pA, pB, pC]
 refine tK (i := 6) (oi := zo184_1_6) (v := ?_) rfl (by kernel_rfl) (fun _ _ _ h => h) (Or.inl ⟨rfl, ?_⟩) hS ?_
 rotate_left
 · (intro w' hS'; (try dsimp only at hS'); dsimp only [zo184_1_6]; go_simp; try with_reducible rfl)
 simp only [Act.put, pA, pB, pC]
 refine tK (i := 7) (oi := zo184_1_7) (v := ?_) rfl (by kernel_rfl) (fun _ _ _ h => h) (Or.inl ⟨rfl, ?_⟩) hS ?_
 rotate_left
 · (intro w' hS'; (try dsimp only at hS'); dsimp only [zo184_1_7]; go_simp; try with_reducible rfl)
 simp only [Act.put, pA, pB, pC]
 refine tK (i := 8) (oi := zo184_1_8) (v := ?_) rfl (by kernel_rfl) (fun _ _ _ h => h) (Or.inl ⟨rfl, ?_⟩) hS ?_
 rotate_left
 · (intro w' hS'; (try dsimp only at hS'); dsimp only [zo184_1_8]; go_simp; try with_reducible rfl)
 simp only [Act.put, pA, pB, pC]
 refine take_call (i := 9) (oi := zo184_1_9) rfl (by kernel_rfl) (by kernel_rfl) (by kernel_rfl) (fun _ _ _ h => h) 219 #[.tmp 11, .tmp 13] _ rfl rfl #[.string b, .string d] Tryz.call219 (by go_simp) (fun w => HC2.out w) hS ?_
 simp only [Act.put, pA, pB, pC]
 refine wpAnyH_ready (rs := [10]) (by kernel_rfl) (by simp) ?_
 refine AllReadyH.cons (o := zo184_1_10) rfl (fun K hK => ?_) .nil
 go_simp
 have R3 := Row.new w2.drew 3 #[.int .i64 r1, .int .i64 r2]
 have GW3 := Lib.hid (GW.out.drew.alloc (.cells #[.int .i64 r1, .int .i64 r2] 3))
 replace hS := and_intro4 (((R1.drew).alloc (.cells #[.int .i64 r1, .int .i64 r2] 3)).cell' (i := 0) rfl) (((R1.drew).alloc (.cells #[.int .i64 r1, .int .i64 r2] 3)).cell' (i := 1) rfl) (((R2.drew).alloc (.cells #[.int .i64 r1, .int .i64 r2] 3)).cell' (i := 0) rfl) (((R2.drew).alloc (.cells #[.int .i64 r1, .int .i64 r2] 3)).cell' (i := 1) rfl)
 refine hK.out _ _ hS (fun _ => ?_)
 clear hK K
 have RO := Or_c r1 r2 _ R3
 rw [HR.out] at RO
 refine wpAnyH_ready (rs := [11]) (by kernel_rfl) (by simp) ?_
 refine AllReadyH.cons (o := zo184_1_11) rfl (fun K hK => ?_) .nil
 refine step_call 218 #[.tmp 15] _ rfl rfl #[.slice (some ⟨w2.heap.size, 0, none⟩) 2 2] Tryz.call218 (by go_simp) RO ?_
 rintro e w1 ⟨rfl, rfl⟩
 refine ⟨_, rfl, ?_⟩
 refine hK.out _ _ ?_ (fun hHeld => ?_)
 · exact hS
 clear hK K hHeld
 simp only [Act.put, pA, pB, pC]
 refine tK (i := 12) (oi := zo184_1_12) (v := ?_) rfl (by kernel_rfl) (fun _ _ _ h => h) (Or.inl ⟨rfl, ?_⟩) hS ?_
 rotate_left
 · (intro w' hS'; (try dsimp only at hS'); dsimp only [zo184_1_12]; go_simp; try with_reducible rfl)
 simp only [Act.put, pA, pB, pC]
 refine wpAnyH_done (by kernel_rfl) ?_ _
 go_wp2_with fail
 go_ret
 exact ⟨rfl, GW3.out⟩
end Go.Proofs.YtkfadfddhbpngaaGreat
