/- The reference's own setups: models. Conditions: none. -/
import Derived.Test.YtkfadfddhbpngaaGreatTky
import Derived.Test.YtkfadfddhbpngaaGreatSeRy
namespace Go.Proofs.YtkfadfddhbpngaaGreat
open Go Go.RowKit
abbrev zo175_1_0 : Oper := { dst := some 5, op := .move (.tmp 0), type := 241, pos := "l18_language.go:14", after := #[], guard := none }
abbrev zo175_1_1 : Oper := { dst := some 6, op := .nilCheck (.tmp 5), type := 0, pos := "l18_language.go:14", after := #[{ on := 0, ground := .data }], guard := none }
abbrev zo175_1_2 : Oper := { dst := some 7, op := .fieldAddr 186 (.tmp 6) 0, type := 0, pos := "l18_language.go:14", after := #[{ on := 1, ground := .data }], guard := none }
abbrev zo175_1_3 : Oper := { dst := some 8, op := .load 9 (.tmp 7), type := 9, pos := "l18_language.go:14", after := #[{ on := 2, ground := .data }], guard := none }
abbrev zo175_1_4 : Oper := { dst := some 9, op := .move (.tmp 1), type := 241, pos := "l18_language.go:14", after := #[], guard := none }
abbrev zo175_1_5 : Oper := { dst := some 10, op := .nilCheck (.tmp 9), type := 0, pos := "l18_language.go:14", after := #[{ on := 4, ground := .data }], guard := none }
abbrev zo175_1_6 : Oper := { dst := some 11, op := .fieldAddr 186 (.tmp 10) 0, type := 0, pos := "l18_language.go:14", after := #[{ on := 5, ground := .data }], guard := none }
abbrev zo175_1_7 : Oper := { dst := some 12, op := .load 9 (.tmp 11), type := 9, pos := "l18_language.go:14", after := #[{ on := 6, ground := .data }], guard := none }
abbrev zo175_1_8 : Oper := { dst := some 13, op := .binOp .lss 9 (.tmp 8) (.tmp 12) 9, type := 4, pos := "l18_language.go:14", after := #[{ on := 3, ground := .data }, { on := 7, ground := .data }], guard := none }
abbrev zo175_1_9 : Oper := { dst := some 14, op := .move (.tmp 13), type := 4, pos := "l18_language.go:14", after := #[{ on := 8, ground := .data }], guard := none }
abbrev zo175_1_10 : Oper := { dst := some 15, op := .move (.tmp 0), type := 241, pos := "l18_language.go:14", after := #[{ on := 9, ground := .guard }], guard := some (9, false) }
abbrev zo175_1_11 : Oper := { dst := some 16, op := .nilCheck (.tmp 15), type := 0, pos := "l18_language.go:14", after := #[{ on := 10, ground := .data }, { on := 9, ground := .guard }], guard := some (9, false) }
abbrev zo175_1_12 : Oper := { dst := some 17, op := .fieldAddr 186 (.tmp 16) 0, type := 0, pos := "l18_language.go:14", after := #[{ on := 11, ground := .data }, { on := 9, ground := .guard }], guard := some (9, false) }
abbrev zo175_1_13 : Oper := { dst := some 18, op := .load 9 (.tmp 17), type := 9, pos := "l18_language.go:14", after := #[{ on := 12, ground := .data }, { on := 9, ground := .guard }], guard := some (9, false) }
abbrev zo175_1_14 : Oper := { dst := some 19, op := .move (.tmp 1), type := 241, pos := "l18_language.go:14", after := #[{ on := 9, ground := .guard }], guard := some (9, false) }
abbrev zo175_1_15 : Oper := { dst := some 20, op := .nilCheck (.tmp 19), type := 0, pos := "l18_language.go:14", after := #[{ on := 14, ground := .data }, { on := 9, ground := .guard }], guard := some (9, false) }
abbrev zo175_1_16 : Oper := { dst := some 21, op := .fieldAddr 186 (.tmp 20) 0, type := 0, pos := "l18_language.go:14", after := #[{ on := 15, ground := .data }, { on := 9, ground := .guard }], guard := some (9, false) }
abbrev zo175_1_17 : Oper := { dst := some 22, op := .load 9 (.tmp 21), type := 9, pos := "l18_language.go:14", after := #[{ on := 16, ground := .data }, { on := 9, ground := .guard }], guard := some (9, false) }
abbrev zo175_1_18 : Oper := { dst := some 23, op := .binOp .eql 9 (.tmp 18) (.tmp 22) 9, type := 4, pos := "l18_language.go:14", after := #[{ on := 13, ground := .data }, { on := 17, ground := .data }, { on := 9, ground := .guard }], guard := some (9, false) }
abbrev zo175_1_19 : Oper := { dst := some 24, op := .move (.tmp 23), type := 4, pos := "l18_language.go:14", after := #[{ on := 18, ground := .data }, { on := 9, ground := .chain }, { on := 9, ground := .guard }], guard := some (9, false) }
abbrev zo175_1_20 : Oper := { dst := some 25, op := .move (.tmp 0), type := 241, pos := "l18_language.go:14", after := #[{ on := 19, ground := .guard }], guard := some (19, true) }
abbrev zo175_1_21 : Oper := { dst := some 26, op := .nilCheck (.tmp 25), type := 0, pos := "l18_language.go:14", after := #[{ on := 20, ground := .data }, { on := 19, ground := .guard }], guard := some (19, true) }
abbrev zo175_1_22 : Oper := { dst := some 27, op := .fieldAddr 186 (.tmp 26) 1, type := 0, pos := "l18_language.go:14", after := #[{ on := 21, ground := .data }, { on := 19, ground := .guard }], guard := some (19, true) }
abbrev zo175_1_23 : Oper := { dst := some 28, op := .load 9 (.tmp 27), type := 9, pos := "l18_language.go:14", after := #[{ on := 22, ground := .data }, { on := 19, ground := .guard }], guard := some (19, true) }
abbrev zo175_1_24 : Oper := { dst := some 29, op := .move (.tmp 1), type := 241, pos := "l18_language.go:14", after := #[{ on := 19, ground := .guard }], guard := some (19, true) }
abbrev zo175_1_25 : Oper := { dst := some 30, op := .nilCheck (.tmp 29), type := 0, pos := "l18_language.go:14", after := #[{ on := 24, ground := .data }, { on := 19, ground := .guard }], guard := some (19, true) }
abbrev zo175_1_26 : Oper := { dst := some 31, op := .fieldAddr 186 (.tmp 30) 1, type := 0, pos := "l18_language.go:14", after := #[{ on := 25, ground := .data }, { on := 19, ground := .guard }], guard := some (19, true) }
abbrev zo175_1_27 : Oper := { dst := some 32, op := .load 9 (.tmp 31), type := 9, pos := "l18_language.go:14", after := #[{ on := 26, ground := .data }, { on := 19, ground := .guard }], guard := some (19, true) }
abbrev zo175_1_28 : Oper := { dst := some 33, op := .binOp .lss 9 (.tmp 28) (.tmp 32) 9, type := 4, pos := "l18_language.go:14", after := #[{ on := 23, ground := .data }, { on := 27, ground := .data }, { on := 19, ground := .guard }], guard := some (19, true) }
abbrev zo175_1_29 : Oper := { dst := some 34, op := .pick (.tmp 24) (.tmp 33) (.const (.bool false)), type := 4, pos := "l18_language.go:14", after := #[{ on := 19, ground := .data }, { on := 28, ground := .data }, { on := 9, ground := .guard }], guard := some (9, false) }
abbrev zo175_1_30 : Oper := { dst := some 35, op := .pick (.tmp 14) (.const (.bool true)) (.tmp 34), type := 4, pos := "l18_language.go:14", after := #[{ on := 9, ground := .data }, { on := 29, ground := .data }], guard := none }
abbrev zo175_1_31 : Oper := { dst := some 4, op := .assign (.tmp 35), type := 4, pos := "l18_language.go:14", after := #[{ on := 30, ground := .data }, { on := 19, ground := .chain }, { on := 0, ground := .phase }, { on := 1, ground := .phase }, { on := 2, ground := .phase }, { on := 3, ground := .phase }, { on := 4, ground := .phase }, { on := 5, ground := .phase }, { on := 6, ground := .phase }, { on := 7, ground := .phase }, { on := 8, ground := .phase }, { on := 9, ground := .phase }, { on := 10, ground := .phase }, { on := 11, ground := .phase }, { on := 12, ground := .phase }, { on := 13, ground := .phase }, { on := 14, ground := .phase }, { on := 15, ground := .phase }, { on := 16, ground := .phase }, { on := 17, ground := .phase }, { on := 18, ground := .phase }, { on := 19, ground := .phase }, { on := 20, ground := .phase }, { on := 21, ground := .phase }, { on := 22, ground := .phase }, { on := 23, ground := .phase }, { on := 24, ground := .phase }, { on := 25, ground := .phase }, { on := 26, ground := .phase }, { on := 27, ground := .phase }, { on := 28, ground := .phase }, { on := 29, ground := .phase }, { on := 30, ground := .phase }], guard := none }
abbrev zo110_4_0 : Oper := { dst := some 13, op := .move (.tmp 0), type := 139, pos := "l18_language.go:19", after := #[], guard := none }
abbrev zo110_4_1 : Oper := { dst := some 14, op := .nilCheck (.tmp 13), type := 0, pos := "l18_language.go:19", after := #[{ on := 0, ground := .data }], guard := none }
abbrev zo110_4_2 : Oper := { dst := some 15, op := .fieldAddr 59 (.tmp 14) 1, type := 0, pos := "l18_language.go:19", after := #[{ on := 1, ground := .data }], guard := none }
abbrev zo110_4_3 : Oper := { dst := some 16, op := .load 57 (.tmp 15), type := 57, pos := "l18_language.go:19", after := #[{ on := 2, ground := .data }], guard := none }
abbrev zo110_4_4 : Oper := { dst := some 17, op := .move (.tmp 3), type := 3, pos := "l18_language.go:19", after := #[], guard := none }
abbrev zo110_4_5 : Oper := { dst := some 18, op := .indexAddr 57 (.tmp 16) (.tmp 17), type := 0, pos := "l18_language.go:19", after := #[{ on := 3, ground := .data }, { on := 4, ground := .data }], guard := none }
abbrev zo110_4_6 : Oper := { dst := some 19, op := .call { callee := .value (.func 174), args := #[.tmp 18], argTypes := #[241] }, type := 4, pos := "l18_language.go:19", after := #[{ on := 5, ground := .data }], guard := none }
abbrev zo110_4_7 : Oper := { dst := some 20, op := .unOp .not 4 (.tmp 19), type := 4, pos := "l18_language.go:19", after := #[{ on := 6, ground := .data }], guard := none }
abbrev zo110_4_8 : Oper := { dst := some 21, op := .move (.tmp 20), type := 4, pos := "l18_language.go:19", after := #[{ on := 7, ground := .data }, { on := 6, ground := .chain }], guard := none }
abbrev zo110_4_9 : Oper := { dst := some 22, op := .move (.tmp 3), type := 3, pos := "l18_language.go:19", after := #[{ on := 8, ground := .guard }], guard := some (8, false) }
abbrev zo110_4_10 : Oper := { dst := some 23, op := .binOp .gtr 3 (.tmp 22) (.const (.int .i64 0)) 3, type := 4, pos := "l18_language.go:19", after := #[{ on := 9, ground := .data }, { on := 8, ground := .guard }], guard := some (8, false) }
abbrev zo110_4_11 : Oper := { dst := some 24, op := .move (.tmp 23), type := 4, pos := "l18_language.go:19", after := #[{ on := 10, ground := .data }, { on := 8, ground := .chain }, { on := 8, ground := .guard }], guard := some (8, false) }
abbrev zo110_4_12 : Oper := { dst := some 25, op := .move (.tmp 0), type := 139, pos := "l18_language.go:19", after := #[{ on := 11, ground := .guard }], guard := some (11, true) }
abbrev zo110_4_13 : Oper := { dst := some 26, op := .nilCheck (.tmp 25), type := 0, pos := "l18_language.go:19", after := #[{ on := 12, ground := .data }, { on := 11, ground := .guard }], guard := some (11, true) }
abbrev zo110_4_14 : Oper := { dst := some 27, op := .fieldAddr 59 (.tmp 26) 1, type := 0, pos := "l18_language.go:19", after := #[{ on := 13, ground := .data }, { on := 11, ground := .guard }], guard := some (11, true) }
abbrev zo110_4_15 : Oper := { dst := some 28, op := .load 57 (.tmp 27), type := 57, pos := "l18_language.go:19", after := #[{ on := 14, ground := .data }, { on := 11, ground := .guard }], guard := some (11, true) }
abbrev zo110_4_16 : Oper := { dst := some 29, op := .move (.tmp 3), type := 3, pos := "l18_language.go:19", after := #[{ on := 11, ground := .guard }], guard := some (11, true) }
abbrev zo110_4_17 : Oper := { dst := some 30, op := .binOp .sub 3 (.tmp 29) (.const (.int .i64 1)) 3, type := 3, pos := "l18_language.go:19", after := #[{ on := 16, ground := .data }, { on := 11, ground := .guard }], guard := some (11, true) }
abbrev zo110_4_18 : Oper := { dst := some 31, op := .indexAddr 57 (.tmp 28) (.tmp 30), type := 0, pos := "l18_language.go:19", after := #[{ on := 15, ground := .data }, { on := 17, ground := .data }, { on := 11, ground := .guard }], guard := some (11, true) }
abbrev zo110_4_19 : Oper := { dst := some 32, op := .move (.tmp 0), type := 139, pos := "l18_language.go:19", after := #[{ on := 11, ground := .guard }], guard := some (11, true) }
abbrev zo110_4_20 : Oper := { dst := some 33, op := .nilCheck (.tmp 32), type := 0, pos := "l18_language.go:19", after := #[{ on := 19, ground := .data }, { on := 11, ground := .guard }], guard := some (11, true) }
abbrev zo110_4_21 : Oper := { dst := some 34, op := .fieldAddr 59 (.tmp 33) 1, type := 0, pos := "l18_language.go:19", after := #[{ on := 20, ground := .data }, { on := 11, ground := .guard }], guard := some (11, true) }
abbrev zo110_4_22 : Oper := { dst := some 35, op := .load 57 (.tmp 34), type := 57, pos := "l18_language.go:19", after := #[{ on := 21, ground := .data }, { on := 11, ground := .guard }], guard := some (11, true) }
abbrev zo110_4_23 : Oper := { dst := some 36, op := .move (.tmp 3), type := 3, pos := "l18_language.go:19", after := #[{ on := 11, ground := .guard }], guard := some (11, true) }
abbrev zo110_4_24 : Oper := { dst := some 37, op := .indexAddr 57 (.tmp 35) (.tmp 36), type := 0, pos := "l18_language.go:19", after := #[{ on := 22, ground := .data }, { on := 23, ground := .data }, { on := 11, ground := .guard }], guard := some (11, true) }
abbrev zo110_4_25 : Oper := { dst := some 38, op := .call { callee := .value (.func 175), args := #[.tmp 31, .tmp 37], argTypes := #[241, 241] }, type := 4, pos := "l18_language.go:19", after := #[{ on := 18, ground := .data }, { on := 24, ground := .data }, { on := 11, ground := .chain }, { on := 11, ground := .guard }], guard := some (11, true) }
abbrev zo110_4_26 : Oper := { dst := some 39, op := .unOp .not 4 (.tmp 38), type := 4, pos := "l18_language.go:19", after := #[{ on := 25, ground := .data }, { on := 11, ground := .guard }], guard := some (11, true) }
abbrev zo110_4_27 : Oper := { dst := some 40, op := .pick (.tmp 24) (.tmp 39) (.const (.bool false)), type := 4, pos := "l18_language.go:19", after := #[{ on := 11, ground := .data }, { on := 26, ground := .data }, { on := 8, ground := .guard }], guard := some (8, false) }
abbrev zo110_4_28 : Oper := { dst := some 41, op := .pick (.tmp 21) (.const (.bool true)) (.tmp 40), type := 4, pos := "l18_language.go:19", after := #[{ on := 8, ground := .data }, { on := 27, ground := .data }], guard := none }

theorem empty_is_nil (f : ByteArray) : f.toList.isEmpty = decide (f = .empty) := by
 have := str_eq f .empty
 rw [show ByteArray.empty.toList = [] from by simp, List.beq_nil_eq] at this
 exact this
set_option maxHeartbeats 400000 in
theorem spec_l18First_c (f : ByteArray) (hs : f.size ≤ 1048576) (w : World) :
 Calls Tryz.prog 213 #[.string f] w fun e w' => e = .returned (.bool (decide (f = .empty) || isWordB f)) ∧ w' = w := by
 have C := Lib.hid (spec_word_c f hs)
 have he := empty_is_nil f
 generalize decide (f = .empty) = d0 at he ⊢
 generalize isWordB f = d1 at C ⊢
 cases d0
 · go_enter Tryz.func213, Tryz.ntmps213
   go_wp2_with fail
   refine (C.out _).mono ?_
   rintro e w1 ⟨rfl, rfl⟩
   go_wp2_with fail
   go_ret
   exact ⟨rfl, rfl⟩
 · go_enter Tryz.func213, Tryz.ntmps213
   go_wp2_with fail
   go_ret
   exact ⟨rfl, rfl⟩
set_option maxHeartbeats 400000 in
theorem spec_l18Bigram_c (s : PBigram) (h1 : s.first.size ≤ 1048576) (h2 : s.second.size ≤ 1048576) {g f : Nat} (w : World) (c0 : w.cell? ⟨g, f, none⟩ = some (.string s.first)) (c1 : w.cell? ⟨g, f + 1, none⟩ = some (.string s.second)) (c2 : w.cell? ⟨g, f + 2, none⟩ = some (.int .i64 s.cost)) :
 Calls Tryz.prog 174 #[.pointer (some ⟨g, f, none⟩)] w fun e w' => e = .returned (.bool (bigB s)) ∧ w' = w := by
 have C1 := Lib.hid (spec_l18First_c s.first h1)
 have C2 := Lib.hid (spec_word_c s.second h2)
 have C3 := Lib.hid (spec_cost_c s.cost)
 have hb : bigB s = ((decide (s.first = .empty) || isWordB s.first) && (isWordB s.second && costB s.cost)) := by
  unfold bigB; cases isWordB s.second <;> cases (decide (s.first = .empty) || isWordB s.first) <;> rfl
 rw [hb]
 clear hb
 generalize (decide (s.first = .empty) || isWordB s.first) = d1 at C1 ⊢
 generalize isWordB s.second = d2 at C2 ⊢
 generalize costB s.cost = d3 at C3 ⊢
 cases d1
 · go_enter Tryz.func174, Tryz.ntmps174
   go_wp2_with fail
   refine (C1.out _).mono ?_
   rintro e w1 ⟨rfl, rfl⟩
   go_wp2_with fail
   go_ret
   exact ⟨rfl, rfl⟩
 · cases d2
   · go_enter Tryz.func174, Tryz.ntmps174
     go_wp2_with fail
     refine (C1.out _).mono ?_
     rintro e w1 ⟨rfl, rfl⟩
     go_wp2_with fail
     refine (C2.out _).mono ?_
     rintro e w1 ⟨rfl, rfl⟩
     go_wp2_with fail
     go_ret
     exact ⟨rfl, rfl⟩
   · go_enter Tryz.func174, Tryz.ntmps174
     go_wp2_with fail
     refine (C1.out _).mono ?_
     rintro e w1 ⟨rfl, rfl⟩
     go_wp2_with fail
     refine (C2.out _).mono ?_
     rintro e w1 ⟨rfl, rfl⟩
     go_wp2_with fail
     refine (C3.out _).mono ?_
     rintro e w1 ⟨rfl, rfl⟩
     go_wp2_with fail
     go_ret
     exact ⟨rfl, rfl⟩
set_option maxRecDepth 100000 in
set_option maxHeartbeats 1000000 in
theorem spec_l18Before_c (x y : PBigram) {g f g' f' : Nat} (w : World) (a0 : w.cell? ⟨g, f, none⟩ = some (.string x.first)) (a1 : w.cell? ⟨g, f + 1, none⟩ = some (.string x.second)) (b0 : w.cell? ⟨g', f', none⟩ = some (.string y.first)) (b1 : w.cell? ⟨g', f' + 1, none⟩ = some (.string y.second)) :
 Calls Tryz.prog 175 #[.pointer (some ⟨g, f, none⟩), .pointer (some ⟨g', f', none⟩)] w (GivesB (cLess (bigKey x) (bigKey y)) w) := by
 have hc : cLess (bigKey x) (bigKey y) = (bLess x.first y.first || (decide (x.first = y.first) && bLess x.second y.second)) := rfl
 have he := str_eq x.first y.first
 cases h1 : bLess x.first y.first
 · by_cases h2 : x.first = y.first
   · rw [decide_eq_true h2] at he
     cases h3 : bLess x.second y.second
     · have HF : Hid (cLess (bigKey x) (bigKey y) = false) := by show _ = _; rw [hc, h1, h3]; simp
       unfold bLess at h1 h3
       clear hc h2
       go_enter Tryz.func175, Tryz.ntmps175
       go_wp2_with fail
       have hS : (fun w' : World => w'.cell? ⟨g, f, none⟩ = some (.string x.first) ∧ w'.cell? ⟨g, f + 1, none⟩ = some (.string x.second) ∧ w'.cell? ⟨g', f', none⟩ = some (.string y.first) ∧ w'.cell? ⟨g', f' + 1, none⟩ = some (.string y.second)) w.drew := ⟨a0, a1, b0, b1⟩
       dsimp only at hS
       refine wp_region_held_drew (S := (fun w' : World => w'.cell? ⟨g, f, none⟩ = some (.string x.first) ∧ w'.cell? ⟨g, f + 1, none⟩ = some (.string x.second) ∧ w'.cell? ⟨g', f', none⟩ = some (.string y.first) ∧ w'.cell? ⟨g', f' + 1, none⟩ = some (.string y.second))) (by kernel_rfl) hS (fun _ => ?_)
       refine tK (i := 0) (oi := zo175_1_0) (v := ?_) rfl (by kernel_rfl) (fun _ _ _ h => h) (Or.inl ⟨rfl, ?_⟩) hS ?_
       rotate_left
       · (intro w' hS'; (try dsimp only at hS'); dsimp only [zo175_1_0]; go_simp; try with_reducible rfl)
       simp only [Act.put, pA, pB, pC]
       refine tK (i := 1) (oi := zo175_1_1) (v := ?_) rfl (by kernel_rfl) (fun _ _ _ h => h) (Or.inl ⟨rfl, ?_⟩) hS ?_
       rotate_left
       · (intro w' hS'; (try dsimp only at hS'); dsimp only [zo175_1_1]; go_simp; try with_reducible rfl)
       simp only [Act.put, pA, pB, pC]
       refine tK (i := 2) (oi := zo175_1_2) (v := ?_) rfl (by kernel_rfl) (fun _ _ _ h => h) (Or.inl ⟨rfl, ?_⟩) hS ?_
       rotate_left
       · (intro w' hS'; (try dsimp only at hS'); dsimp only [zo175_1_2]; go_simp; try with_reducible rfl)
       simp only [Act.put, pA, pB, pC]
       refine tK (i := 3) (oi := zo175_1_3) (v := ?_) rfl (by kernel_rfl) (fun _ _ _ h => h) (Or.inl ⟨rfl, ?_⟩) hS ?_
       rotate_left
       · (intro w' hS'; (try dsimp only at hS'); dsimp only [zo175_1_3]; go_simp; try with_reducible rfl)
       simp only [Act.put, pA, pB, pC]
       refine tK (i := 4) (oi := zo175_1_4) (v := ?_) rfl (by kernel_rfl) (fun _ _ _ h => h) (Or.inl ⟨rfl, ?_⟩) hS ?_
       rotate_left
       · (intro w' hS'; (try dsimp only at hS'); dsimp only [zo175_1_4]; go_simp; try with_reducible rfl)
       simp only [Act.put, pA, pB, pC]
       refine tK (i := 5) (oi := zo175_1_5) (v := ?_) rfl (by kernel_rfl) (fun _ _ _ h => h) (Or.inl ⟨rfl, ?_⟩) hS ?_
       rotate_left
       · (intro w' hS'; (try dsimp only at hS'); dsimp only [zo175_1_5]; go_simp; try with_reducible rfl)
       simp only [Act.put, pA, pB, pC]
       refine tK (i := 6) (oi := zo175_1_6) (v := ?_) rfl (by kernel_rfl) (fun _ _ _ h => h) (Or.inl ⟨rfl, ?_⟩) hS ?_
       rotate_left
       · (intro w' hS'; (try dsimp only at hS'); dsimp only [zo175_1_6]; go_simp; try with_reducible rfl)
       simp only [Act.put, pA, pB, pC]
       refine tK (i := 7) (oi := zo175_1_7) (v := ?_) rfl (by kernel_rfl) (fun _ _ _ h => h) (Or.inl ⟨rfl, ?_⟩) hS ?_
       rotate_left
       · (intro w' hS'; (try dsimp only at hS'); dsimp only [zo175_1_7]; go_simp; try with_reducible rfl)
       simp only [Act.put, pA, pB, pC]
       refine tK (i := 8) (oi := zo175_1_8) (v := ?_) rfl (by kernel_rfl) (fun _ _ _ h => h) (Or.inl ⟨rfl, ?_⟩) hS ?_
       rotate_left
       · (intro w' hS'; (try dsimp only at hS'); dsimp only [zo175_1_8]; go_simp; try with_reducible rfl)
       simp only [Act.put, pA, pB, pC]
       refine tK (i := 9) (oi := zo175_1_9) (v := ?_) rfl (by kernel_rfl) (fun _ _ _ h => h) (Or.inl ⟨rfl, ?_⟩) hS ?_
       rotate_left
       · (intro w' hS'; (try dsimp only at hS'); dsimp only [zo175_1_9]; go_simp; try with_reducible rfl)
       simp only [Act.put, pA, pB, pC]
       refine tK (i := 10) (oi := zo175_1_10) (v := ?_) rfl (by kernel_rfl) (fun _ _ _ h => h) (Or.inl ⟨rfl, ?_⟩) hS ?_
       rotate_left
       · (intro w' hS'; (try dsimp only at hS'); dsimp only [zo175_1_10]; go_simp; try with_reducible rfl)
       simp only [Act.put, pA, pB, pC]
       refine tK (i := 11) (oi := zo175_1_11) (v := ?_) rfl (by kernel_rfl) (fun _ _ _ h => h) (Or.inl ⟨rfl, ?_⟩) hS ?_
       rotate_left
       · (intro w' hS'; (try dsimp only at hS'); dsimp only [zo175_1_11]; go_simp; try with_reducible rfl)
       simp only [Act.put, pA, pB, pC]
       refine tK (i := 12) (oi := zo175_1_12) (v := ?_) rfl (by kernel_rfl) (fun _ _ _ h => h) (Or.inl ⟨rfl, ?_⟩) hS ?_
       rotate_left
       · (intro w' hS'; (try dsimp only at hS'); dsimp only [zo175_1_12]; go_simp; try with_reducible rfl)
       simp only [Act.put, pA, pB, pC]
       refine tK (i := 13) (oi := zo175_1_13) (v := ?_) rfl (by kernel_rfl) (fun _ _ _ h => h) (Or.inl ⟨rfl, ?_⟩) hS ?_
       rotate_left
       · (intro w' hS'; (try dsimp only at hS'); dsimp only [zo175_1_13]; go_simp; try with_reducible rfl)
       simp only [Act.put, pA, pB, pC]
       refine tK (i := 14) (oi := zo175_1_14) (v := ?_) rfl (by kernel_rfl) (fun _ _ _ h => h) (Or.inl ⟨rfl, ?_⟩) hS ?_
       rotate_left
       · (intro w' hS'; (try dsimp only at hS'); dsimp only [zo175_1_14]; go_simp; try with_reducible rfl)
       simp only [Act.put, pA, pB, pC]
       refine tK (i := 15) (oi := zo175_1_15) (v := ?_) rfl (by kernel_rfl) (fun _ _ _ h => h) (Or.inl ⟨rfl, ?_⟩) hS ?_
       rotate_left
       · (intro w' hS'; (try dsimp only at hS'); dsimp only [zo175_1_15]; go_simp; try with_reducible rfl)
       simp only [Act.put, pA, pB, pC]
       refine tK (i := 16) (oi := zo175_1_16) (v := ?_) rfl (by kernel_rfl) (fun _ _ _ h => h) (Or.inl ⟨rfl, ?_⟩) hS ?_
       rotate_left
       · (intro w' hS'; (try dsimp only at hS'); dsimp only [zo175_1_16]; go_simp; try with_reducible rfl)
       simp only [Act.put, pA, pB, pC]
       refine tK (i := 17) (oi := zo175_1_17) (v := ?_) rfl (by kernel_rfl) (fun _ _ _ h => h) (Or.inl ⟨rfl, ?_⟩) hS ?_
       rotate_left
       · (intro w' hS'; (try dsimp only at hS'); dsimp only [zo175_1_17]; go_simp; try with_reducible rfl)
       simp only [Act.put, pA, pB, pC]
       refine tK (i := 18) (oi := zo175_1_18) (v := ?_) rfl (by kernel_rfl) (fun _ _ _ h => h) (Or.inl ⟨rfl, ?_⟩) hS ?_
       rotate_left
       · (intro w' hS'; (try dsimp only at hS'); dsimp only [zo175_1_18]; go_simp; try with_reducible rfl)
       simp only [Act.put, pA, pB, pC]
       refine tK (i := 19) (oi := zo175_1_19) (v := ?_) rfl (by kernel_rfl) (fun _ _ _ h => h) (Or.inl ⟨rfl, ?_⟩) hS ?_
       rotate_left
       · (intro w' hS'; (try dsimp only at hS'); dsimp only [zo175_1_19]; go_simp; try with_reducible rfl)
       simp only [Act.put, pA, pB, pC]
       refine tK (i := 20) (oi := zo175_1_20) (v := ?_) rfl (by kernel_rfl) (fun _ _ _ h => h) (Or.inl ⟨rfl, ?_⟩) hS ?_
       rotate_left
       · (intro w' hS'; (try dsimp only at hS'); dsimp only [zo175_1_20]; go_simp; try with_reducible rfl)
       simp only [Act.put, pA, pB, pC]
       refine tK (i := 21) (oi := zo175_1_21) (v := ?_) rfl (by kernel_rfl) (fun _ _ _ h => h) (Or.inl ⟨rfl, ?_⟩) hS ?_
       rotate_left
       · (intro w' hS'; (try dsimp only at hS'); dsimp only [zo175_1_21]; go_simp; try with_reducible rfl)
       simp only [Act.put, pA, pB, pC]
       refine tK (i := 22) (oi := zo175_1_22) (v := ?_) rfl (by kernel_rfl) (fun _ _ _ h => h) (Or.inl ⟨rfl, ?_⟩) hS ?_
       rotate_left
       · (intro w' hS'; (try dsimp only at hS'); dsimp only [zo175_1_22]; go_simp; try with_reducible rfl)
       simp only [Act.put, pA, pB, pC]
       refine tK (i := 23) (oi := zo175_1_23) (v := ?_) rfl (by kernel_rfl) (fun _ _ _ h => h) (Or.inl ⟨rfl, ?_⟩) hS ?_
       rotate_left
       · (intro w' hS'; (try dsimp only at hS'); dsimp only [zo175_1_23]; go_simp; try with_reducible rfl)
       simp only [Act.put, pA, pB, pC]
       refine tK (i := 24) (oi := zo175_1_24) (v := ?_) rfl (by kernel_rfl) (fun _ _ _ h => h) (Or.inl ⟨rfl, ?_⟩) hS ?_
       rotate_left
       · (intro w' hS'; (try dsimp only at hS'); dsimp only [zo175_1_24]; go_simp; try with_reducible rfl)
       simp only [Act.put, pA, pB, pC]
       refine tK (i := 25) (oi := zo175_1_25) (v := ?_) rfl (by kernel_rfl) (fun _ _ _ h => h) (Or.inl ⟨rfl, ?_⟩) hS ?_
       rotate_left
       · (intro w' hS'; (try dsimp only at hS'); dsimp only [zo175_1_25]; go_simp; try with_reducible rfl)
       simp only [Act.put, pA, pB, pC]
       refine tK (i := 26) (oi := zo175_1_26) (v := ?_) rfl (by kernel_rfl) (fun _ _ _ h => h) (Or.inl ⟨rfl, ?_⟩) hS ?_
       rotate_left
       · (intro w' hS'; (try dsimp only at hS'); dsimp only [zo175_1_26]; go_simp; try with_reducible rfl)
       simp only [Act.put, pA, pB, pC]
       refine tK (i := 27) (oi := zo175_1_27) (v := ?_) rfl (by kernel_rfl) (fun _ _ _ h => h) (Or.inl ⟨rfl, ?_⟩) hS ?_
       rotate_left
       · (intro w' hS'; (try dsimp only at hS'); dsimp only [zo175_1_27]; go_simp; try with_reducible rfl)
       simp only [Act.put, pA, pB, pC]
       refine tK (i := 28) (oi := zo175_1_28) (v := ?_) rfl (by kernel_rfl) (fun _ _ _ h => h) (Or.inl ⟨rfl, ?_⟩) hS ?_
       rotate_left
       · (intro w' hS'; (try dsimp only at hS'); dsimp only [zo175_1_28]; go_simp; try with_reducible rfl)
       simp only [Act.put, pA, pB, pC]
       refine tK (i := 29) (oi := zo175_1_29) (v := ?_) rfl (by kernel_rfl) (fun _ _ _ h => h) (Or.inl ⟨rfl, ?_⟩) hS ?_
       rotate_left
       · (intro w' hS'; (try dsimp only at hS'); dsimp only [zo175_1_29]; go_simp; try with_reducible rfl)
       simp only [Act.put, pA, pB, pC]
       refine tK (i := 30) (oi := zo175_1_30) (v := ?_) rfl (by kernel_rfl) (fun _ _ _ h => h) (Or.inl ⟨rfl, ?_⟩) hS ?_
       rotate_left
       · (intro w' hS'; (try dsimp only at hS'); dsimp only [zo175_1_30]; go_simp; try with_reducible rfl)
       simp only [Act.put, pA, pB, pC]
       refine tK (i := 31) (oi := zo175_1_31) (v := ?_) rfl (by kernel_rfl) (fun _ _ _ h => h) (Or.inl ⟨rfl, ?_⟩) hS ?_
       rotate_left
       · (intro w' hS'; (try dsimp only at hS'); dsimp only [zo175_1_31]; go_simp; try with_reducible rfl)
       simp only [Act.put, pA, pB, pC]
       refine wpAnyH_done (by kernel_rfl) ?_ _
       go_wp2_with fail
       go_ret
       exact ⟨ret_boolI HF.out.symm, 1, rfl⟩
     · have HF : Hid (cLess (bigKey x) (bigKey y) = true) := by show _ = _; rw [hc, h1, h3, decide_eq_true h2]; rfl
       unfold bLess at h1 h3
       clear hc h2
       go_enter Tryz.func175, Tryz.ntmps175
       go_wp2_with fail
       have hS : (fun w' : World => w'.cell? ⟨g, f, none⟩ = some (.string x.first) ∧ w'.cell? ⟨g, f + 1, none⟩ = some (.string x.second) ∧ w'.cell? ⟨g', f', none⟩ = some (.string y.first) ∧ w'.cell? ⟨g', f' + 1, none⟩ = some (.string y.second)) w.drew := ⟨a0, a1, b0, b1⟩
       dsimp only at hS
       refine wp_region_held_drew (S := (fun w' : World => w'.cell? ⟨g, f, none⟩ = some (.string x.first) ∧ w'.cell? ⟨g, f + 1, none⟩ = some (.string x.second) ∧ w'.cell? ⟨g', f', none⟩ = some (.string y.first) ∧ w'.cell? ⟨g', f' + 1, none⟩ = some (.string y.second))) (by kernel_rfl) hS (fun _ => ?_)
       refine tK (i := 0) (oi := zo175_1_0) (v := ?_) rfl (by kernel_rfl) (fun _ _ _ h => h) (Or.inl ⟨rfl, ?_⟩) hS ?_
       rotate_left
       · (intro w' hS'; (try dsimp only at hS'); dsimp only [zo175_1_0]; go_simp; try with_reducible rfl)
       simp only [Act.put, pA, pB, pC]
       refine tK (i := 1) (oi := zo175_1_1) (v := ?_) rfl (by kernel_rfl) (fun _ _ _ h => h) (Or.inl ⟨rfl, ?_⟩) hS ?_
       rotate_left
       · (intro w' hS'; (try dsimp only at hS'); dsimp only [zo175_1_1]; go_simp; try with_reducible rfl)
       simp only [Act.put, pA, pB, pC]
       refine tK (i := 2) (oi := zo175_1_2) (v := ?_) rfl (by kernel_rfl) (fun _ _ _ h => h) (Or.inl ⟨rfl, ?_⟩) hS ?_
       rotate_left
       · (intro w' hS'; (try dsimp only at hS'); dsimp only [zo175_1_2]; go_simp; try with_reducible rfl)
       simp only [Act.put, pA, pB, pC]
       refine tK (i := 3) (oi := zo175_1_3) (v := ?_) rfl (by kernel_rfl) (fun _ _ _ h => h) (Or.inl ⟨rfl, ?_⟩) hS ?_
       rotate_left
       · (intro w' hS'; (try dsimp only at hS'); dsimp only [zo175_1_3]; go_simp; try with_reducible rfl)
       simp only [Act.put, pA, pB, pC]
       refine tK (i := 4) (oi := zo175_1_4) (v := ?_) rfl (by kernel_rfl) (fun _ _ _ h => h) (Or.inl ⟨rfl, ?_⟩) hS ?_
       rotate_left
       · (intro w' hS'; (try dsimp only at hS'); dsimp only [zo175_1_4]; go_simp; try with_reducible rfl)
       simp only [Act.put, pA, pB, pC]
       refine tK (i := 5) (oi := zo175_1_5) (v := ?_) rfl (by kernel_rfl) (fun _ _ _ h => h) (Or.inl ⟨rfl, ?_⟩) hS ?_
       rotate_left
       · (intro w' hS'; (try dsimp only at hS'); dsimp only [zo175_1_5]; go_simp; try with_reducible rfl)
       simp only [Act.put, pA, pB, pC]
       refine tK (i := 6) (oi := zo175_1_6) (v := ?_) rfl (by kernel_rfl) (fun _ _ _ h => h) (Or.inl ⟨rfl, ?_⟩) hS ?_
       rotate_left
       · (intro w' hS'; (try dsimp only at hS'); dsimp only [zo175_1_6]; go_simp; try with_reducible rfl)
       simp only [Act.put, pA, pB, pC]
       refine tK (i := 7) (oi := zo175_1_7) (v := ?_) rfl (by kernel_rfl) (fun _ _ _ h => h) (Or.inl ⟨rfl, ?_⟩) hS ?_
       rotate_left
       · (intro w' hS'; (try dsimp only at hS'); dsimp only [zo175_1_7]; go_simp; try with_reducible rfl)
       simp only [Act.put, pA, pB, pC]
       refine tK (i := 8) (oi := zo175_1_8) (v := ?_) rfl (by kernel_rfl) (fun _ _ _ h => h) (Or.inl ⟨rfl, ?_⟩) hS ?_
       rotate_left
       · (intro w' hS'; (try dsimp only at hS'); dsimp only [zo175_1_8]; go_simp; try with_reducible rfl)
       simp only [Act.put, pA, pB, pC]
       refine tK (i := 9) (oi := zo175_1_9) (v := ?_) rfl (by kernel_rfl) (fun _ _ _ h => h) (Or.inl ⟨rfl, ?_⟩) hS ?_
       rotate_left
       · (intro w' hS'; (try dsimp only at hS'); dsimp only [zo175_1_9]; go_simp; try with_reducible rfl)
       simp only [Act.put, pA, pB, pC]
       refine tK (i := 10) (oi := zo175_1_10) (v := ?_) rfl (by kernel_rfl) (fun _ _ _ h => h) (Or.inl ⟨rfl, ?_⟩) hS ?_
       rotate_left
       · (intro w' hS'; (try dsimp only at hS'); dsimp only [zo175_1_10]; go_simp; try with_reducible rfl)
       simp only [Act.put, pA, pB, pC]
       refine tK (i := 11) (oi := zo175_1_11) (v := ?_) rfl (by kernel_rfl) (fun _ _ _ h => h) (Or.inl ⟨rfl, ?_⟩) hS ?_
       rotate_left
       · (intro w' hS'; (try dsimp only at hS'); dsimp only [zo175_1_11]; go_simp; try with_reducible rfl)
       simp only [Act.put, pA, pB, pC]
       refine tK (i := 12) (oi := zo175_1_12) (v := ?_) rfl (by kernel_rfl) (fun _ _ _ h => h) (Or.inl ⟨rfl, ?_⟩) hS ?_
       rotate_left
       · (intro w' hS'; (try dsimp only at hS'); dsimp only [zo175_1_12]; go_simp; try with_reducible rfl)
       simp only [Act.put, pA, pB, pC]
       refine tK (i := 13) (oi := zo175_1_13) (v := ?_) rfl (by kernel_rfl) (fun _ _ _ h => h) (Or.inl ⟨rfl, ?_⟩) hS ?_
       rotate_left
       · (intro w' hS'; (try dsimp only at hS'); dsimp only [zo175_1_13]; go_simp; try with_reducible rfl)
       simp only [Act.put, pA, pB, pC]
       refine tK (i := 14) (oi := zo175_1_14) (v := ?_) rfl (by kernel_rfl) (fun _ _ _ h => h) (Or.inl ⟨rfl, ?_⟩) hS ?_
       rotate_left
       · (intro w' hS'; (try dsimp only at hS'); dsimp only [zo175_1_14]; go_simp; try with_reducible rfl)
       simp only [Act.put, pA, pB, pC]
       refine tK (i := 15) (oi := zo175_1_15) (v := ?_) rfl (by kernel_rfl) (fun _ _ _ h => h) (Or.inl ⟨rfl, ?_⟩) hS ?_
       rotate_left
       · (intro w' hS'; (try dsimp only at hS'); dsimp only [zo175_1_15]; go_simp; try with_reducible rfl)
       simp only [Act.put, pA, pB, pC]
       refine tK (i := 16) (oi := zo175_1_16) (v := ?_) rfl (by kernel_rfl) (fun _ _ _ h => h) (Or.inl ⟨rfl, ?_⟩) hS ?_
       rotate_left
       · (intro w' hS'; (try dsimp only at hS'); dsimp only [zo175_1_16]; go_simp; try with_reducible rfl)
       simp only [Act.put, pA, pB, pC]
       refine tK (i := 17) (oi := zo175_1_17) (v := ?_) rfl (by kernel_rfl) (fun _ _ _ h => h) (Or.inl ⟨rfl, ?_⟩) hS ?_
       rotate_left
       · (intro w' hS'; (try dsimp only at hS'); dsimp only [zo175_1_17]; go_simp; try with_reducible rfl)
       simp only [Act.put, pA, pB, pC]
       refine tK (i := 18) (oi := zo175_1_18) (v := ?_) rfl (by kernel_rfl) (fun _ _ _ h => h) (Or.inl ⟨rfl, ?_⟩) hS ?_
       rotate_left
       · (intro w' hS'; (try dsimp only at hS'); dsimp only [zo175_1_18]; go_simp; try with_reducible rfl)
       simp only [Act.put, pA, pB, pC]
       refine tK (i := 19) (oi := zo175_1_19) (v := ?_) rfl (by kernel_rfl) (fun _ _ _ h => h) (Or.inl ⟨rfl, ?_⟩) hS ?_
       rotate_left
       · (intro w' hS'; (try dsimp only at hS'); dsimp only [zo175_1_19]; go_simp; try with_reducible rfl)
       simp only [Act.put, pA, pB, pC]
       refine tK (i := 20) (oi := zo175_1_20) (v := ?_) rfl (by kernel_rfl) (fun _ _ _ h => h) (Or.inl ⟨rfl, ?_⟩) hS ?_
       rotate_left
       · (intro w' hS'; (try dsimp only at hS'); dsimp only [zo175_1_20]; go_simp; try with_reducible rfl)
       simp only [Act.put, pA, pB, pC]
       refine tK (i := 21) (oi := zo175_1_21) (v := ?_) rfl (by kernel_rfl) (fun _ _ _ h => h) (Or.inl ⟨rfl, ?_⟩) hS ?_
       rotate_left
       · (intro w' hS'; (try dsimp only at hS'); dsimp only [zo175_1_21]; go_simp; try with_reducible rfl)
       simp only [Act.put, pA, pB, pC]
       refine tK (i := 22) (oi := zo175_1_22) (v := ?_) rfl (by kernel_rfl) (fun _ _ _ h => h) (Or.inl ⟨rfl, ?_⟩) hS ?_
       rotate_left
       · (intro w' hS'; (try dsimp only at hS'); dsimp only [zo175_1_22]; go_simp; try with_reducible rfl)
       simp only [Act.put, pA, pB, pC]
       refine tK (i := 23) (oi := zo175_1_23) (v := ?_) rfl (by kernel_rfl) (fun _ _ _ h => h) (Or.inl ⟨rfl, ?_⟩) hS ?_
       rotate_left
       · (intro w' hS'; (try dsimp only at hS'); dsimp only [zo175_1_23]; go_simp; try with_reducible rfl)
       simp only [Act.put, pA, pB, pC]
       refine tK (i := 24) (oi := zo175_1_24) (v := ?_) rfl (by kernel_rfl) (fun _ _ _ h => h) (Or.inl ⟨rfl, ?_⟩) hS ?_
       rotate_left
       · (intro w' hS'; (try dsimp only at hS'); dsimp only [zo175_1_24]; go_simp; try with_reducible rfl)
       simp only [Act.put, pA, pB, pC]
       refine tK (i := 25) (oi := zo175_1_25) (v := ?_) rfl (by kernel_rfl) (fun _ _ _ h => h) (Or.inl ⟨rfl, ?_⟩) hS ?_
       rotate_left
       · (intro w' hS'; (try dsimp only at hS'); dsimp only [zo175_1_25]; go_simp; try with_reducible rfl)
       simp only [Act.put, pA, pB, pC]
       refine tK (i := 26) (oi := zo175_1_26) (v := ?_) rfl (by kernel_rfl) (fun _ _ _ h => h) (Or.inl ⟨rfl, ?_⟩) hS ?_
       rotate_left
       · (intro w' hS'; (try dsimp only at hS'); dsimp only [zo175_1_26]; go_simp; try with_reducible rfl)
       simp only [Act.put, pA, pB, pC]
       refine tK (i := 27) (oi := zo175_1_27) (v := ?_) rfl (by kernel_rfl) (fun _ _ _ h => h) (Or.inl ⟨rfl, ?_⟩) hS ?_
       rotate_left
       · (intro w' hS'; (try dsimp only at hS'); dsimp only [zo175_1_27]; go_simp; try with_reducible rfl)
       simp only [Act.put, pA, pB, pC]
       refine tK (i := 28) (oi := zo175_1_28) (v := ?_) rfl (by kernel_rfl) (fun _ _ _ h => h) (Or.inl ⟨rfl, ?_⟩) hS ?_
       rotate_left
       · (intro w' hS'; (try dsimp only at hS'); dsimp only [zo175_1_28]; go_simp; try with_reducible rfl)
       simp only [Act.put, pA, pB, pC]
       refine tK (i := 29) (oi := zo175_1_29) (v := ?_) rfl (by kernel_rfl) (fun _ _ _ h => h) (Or.inl ⟨rfl, ?_⟩) hS ?_
       rotate_left
       · (intro w' hS'; (try dsimp only at hS'); dsimp only [zo175_1_29]; go_simp; try with_reducible rfl)
       simp only [Act.put, pA, pB, pC]
       refine tK (i := 30) (oi := zo175_1_30) (v := ?_) rfl (by kernel_rfl) (fun _ _ _ h => h) (Or.inl ⟨rfl, ?_⟩) hS ?_
       rotate_left
       · (intro w' hS'; (try dsimp only at hS'); dsimp only [zo175_1_30]; go_simp; try with_reducible rfl)
       simp only [Act.put, pA, pB, pC]
       refine tK (i := 31) (oi := zo175_1_31) (v := ?_) rfl (by kernel_rfl) (fun _ _ _ h => h) (Or.inl ⟨rfl, ?_⟩) hS ?_
       rotate_left
       · (intro w' hS'; (try dsimp only at hS'); dsimp only [zo175_1_31]; go_simp; try with_reducible rfl)
       simp only [Act.put, pA, pB, pC]
       refine wpAnyH_done (by kernel_rfl) ?_ _
       go_wp2_with fail
       go_ret
       exact ⟨ret_boolI HF.out.symm, 1, rfl⟩
   · rw [decide_eq_false h2] at he
     have HF : Hid (cLess (bigKey x) (bigKey y) = false) := by show _ = _; rw [hc, h1, decide_eq_false h2]; rfl
     unfold bLess at h1
     clear hc h2
     go_enter Tryz.func175, Tryz.ntmps175
     go_wp2_with fail
     have hS : (fun w' : World => w'.cell? ⟨g, f, none⟩ = some (.string x.first) ∧ w'.cell? ⟨g, f + 1, none⟩ = some (.string x.second) ∧ w'.cell? ⟨g', f', none⟩ = some (.string y.first) ∧ w'.cell? ⟨g', f' + 1, none⟩ = some (.string y.second)) w.drew := ⟨a0, a1, b0, b1⟩
     dsimp only at hS
     refine wp_region_held_drew (S := (fun w' : World => w'.cell? ⟨g, f, none⟩ = some (.string x.first) ∧ w'.cell? ⟨g, f + 1, none⟩ = some (.string x.second) ∧ w'.cell? ⟨g', f', none⟩ = some (.string y.first) ∧ w'.cell? ⟨g', f' + 1, none⟩ = some (.string y.second))) (by kernel_rfl) hS (fun _ => ?_)
     refine tK (i := 0) (oi := zo175_1_0) (v := ?_) rfl (by kernel_rfl) (fun _ _ _ h => h) (Or.inl ⟨rfl, ?_⟩) hS ?_
     rotate_left
     · (intro w' hS'; (try dsimp only at hS'); dsimp only [zo175_1_0]; go_simp; try with_reducible rfl)
     simp only [Act.put, pA, pB, pC]
     refine tK (i := 1) (oi := zo175_1_1) (v := ?_) rfl (by kernel_rfl) (fun _ _ _ h => h) (Or.inl ⟨rfl, ?_⟩) hS ?_
     rotate_left
     · (intro w' hS'; (try dsimp only at hS'); dsimp only [zo175_1_1]; go_simp; try with_reducible rfl)
     simp only [Act.put, pA, pB, pC]
     refine tK (i := 2) (oi := zo175_1_2) (v := ?_) rfl (by kernel_rfl) (fun _ _ _ h => h) (Or.inl ⟨rfl, ?_⟩) hS ?_
     rotate_left
     · (intro w' hS'; (try dsimp only at hS'); dsimp only [zo175_1_2]; go_simp; try with_reducible rfl)
     simp only [Act.put, pA, pB, pC]
     refine tK (i := 3) (oi := zo175_1_3) (v := ?_) rfl (by kernel_rfl) (fun _ _ _ h => h) (Or.inl ⟨rfl, ?_⟩) hS ?_
     rotate_left
     · (intro w' hS'; (try dsimp only at hS'); dsimp only [zo175_1_3]; go_simp; try with_reducible rfl)
     simp only [Act.put, pA, pB, pC]
     refine tK (i := 4) (oi := zo175_1_4) (v := ?_) rfl (by kernel_rfl) (fun _ _ _ h => h) (Or.inl ⟨rfl, ?_⟩) hS ?_
     rotate_left
     · (intro w' hS'; (try dsimp only at hS'); dsimp only [zo175_1_4]; go_simp; try with_reducible rfl)
     simp only [Act.put, pA, pB, pC]
     refine tK (i := 5) (oi := zo175_1_5) (v := ?_) rfl (by kernel_rfl) (fun _ _ _ h => h) (Or.inl ⟨rfl, ?_⟩) hS ?_
     rotate_left
     · (intro w' hS'; (try dsimp only at hS'); dsimp only [zo175_1_5]; go_simp; try with_reducible rfl)
     simp only [Act.put, pA, pB, pC]
     refine tK (i := 6) (oi := zo175_1_6) (v := ?_) rfl (by kernel_rfl) (fun _ _ _ h => h) (Or.inl ⟨rfl, ?_⟩) hS ?_
     rotate_left
     · (intro w' hS'; (try dsimp only at hS'); dsimp only [zo175_1_6]; go_simp; try with_reducible rfl)
     simp only [Act.put, pA, pB, pC]
     refine tK (i := 7) (oi := zo175_1_7) (v := ?_) rfl (by kernel_rfl) (fun _ _ _ h => h) (Or.inl ⟨rfl, ?_⟩) hS ?_
     rotate_left
     · (intro w' hS'; (try dsimp only at hS'); dsimp only [zo175_1_7]; go_simp; try with_reducible rfl)
     simp only [Act.put, pA, pB, pC]
     refine tK (i := 8) (oi := zo175_1_8) (v := ?_) rfl (by kernel_rfl) (fun _ _ _ h => h) (Or.inl ⟨rfl, ?_⟩) hS ?_
     rotate_left
     · (intro w' hS'; (try dsimp only at hS'); dsimp only [zo175_1_8]; go_simp; try with_reducible rfl)
     simp only [Act.put, pA, pB, pC]
     refine tK (i := 9) (oi := zo175_1_9) (v := ?_) rfl (by kernel_rfl) (fun _ _ _ h => h) (Or.inl ⟨rfl, ?_⟩) hS ?_
     rotate_left
     · (intro w' hS'; (try dsimp only at hS'); dsimp only [zo175_1_9]; go_simp; try with_reducible rfl)
     simp only [Act.put, pA, pB, pC]
     refine tK (i := 10) (oi := zo175_1_10) (v := ?_) rfl (by kernel_rfl) (fun _ _ _ h => h) (Or.inl ⟨rfl, ?_⟩) hS ?_
     rotate_left
     · (intro w' hS'; (try dsimp only at hS'); dsimp only [zo175_1_10]; go_simp; try with_reducible rfl)
     simp only [Act.put, pA, pB, pC]
     refine tK (i := 11) (oi := zo175_1_11) (v := ?_) rfl (by kernel_rfl) (fun _ _ _ h => h) (Or.inl ⟨rfl, ?_⟩) hS ?_
     rotate_left
     · (intro w' hS'; (try dsimp only at hS'); dsimp only [zo175_1_11]; go_simp; try with_reducible rfl)
     simp only [Act.put, pA, pB, pC]
     refine tK (i := 12) (oi := zo175_1_12) (v := ?_) rfl (by kernel_rfl) (fun _ _ _ h => h) (Or.inl ⟨rfl, ?_⟩) hS ?_
     rotate_left
     · (intro w' hS'; (try dsimp only at hS'); dsimp only [zo175_1_12]; go_simp; try with_reducible rfl)
     simp only [Act.put, pA, pB, pC]
     refine tK (i := 13) (oi := zo175_1_13) (v := ?_) rfl (by kernel_rfl) (fun _ _ _ h => h) (Or.inl ⟨rfl, ?_⟩) hS ?_
     rotate_left
     · (intro w' hS'; (try dsimp only at hS'); dsimp only [zo175_1_13]; go_simp; try with_reducible rfl)
     simp only [Act.put, pA, pB, pC]
     refine tK (i := 14) (oi := zo175_1_14) (v := ?_) rfl (by kernel_rfl) (fun _ _ _ h => h) (Or.inl ⟨rfl, ?_⟩) hS ?_
     rotate_left
     · (intro w' hS'; (try dsimp only at hS'); dsimp only [zo175_1_14]; go_simp; try with_reducible rfl)
     simp only [Act.put, pA, pB, pC]
     refine tK (i := 15) (oi := zo175_1_15) (v := ?_) rfl (by kernel_rfl) (fun _ _ _ h => h) (Or.inl ⟨rfl, ?_⟩) hS ?_
     rotate_left
     · (intro w' hS'; (try dsimp only at hS'); dsimp only [zo175_1_15]; go_simp; try with_reducible rfl)
     simp only [Act.put, pA, pB, pC]
     refine tK (i := 16) (oi := zo175_1_16) (v := ?_) rfl (by kernel_rfl) (fun _ _ _ h => h) (Or.inl ⟨rfl, ?_⟩) hS ?_
     rotate_left
     · (intro w' hS'; (try dsimp only at hS'); dsimp only [zo175_1_16]; go_simp; try with_reducible rfl)
     simp only [Act.put, pA, pB, pC]
     refine tK (i := 17) (oi := zo175_1_17) (v := ?_) rfl (by kernel_rfl) (fun _ _ _ h => h) (Or.inl ⟨rfl, ?_⟩) hS ?_
     rotate_left
     · (intro w' hS'; (try dsimp only at hS'); dsimp only [zo175_1_17]; go_simp; try with_reducible rfl)
     simp only [Act.put, pA, pB, pC]
     refine tK (i := 18) (oi := zo175_1_18) (v := ?_) rfl (by kernel_rfl) (fun _ _ _ h => h) (Or.inl ⟨rfl, ?_⟩) hS ?_
     rotate_left
     · (intro w' hS'; (try dsimp only at hS'); dsimp only [zo175_1_18]; go_simp; try with_reducible rfl)
     simp only [Act.put, pA, pB, pC]
     refine tK (i := 19) (oi := zo175_1_19) (v := ?_) rfl (by kernel_rfl) (fun _ _ _ h => h) (Or.inl ⟨rfl, ?_⟩) hS ?_
     rotate_left
     · (intro w' hS'; (try dsimp only at hS'); dsimp only [zo175_1_19]; go_simp; try with_reducible rfl)
     simp only [Act.put, pA, pB, pC]
     refine tK (i := 20) (oi := zo175_1_20) rfl (by kernel_rfl) (fun _ _ _ h => h) (Or.inr ⟨rfl, rfl⟩) hS ?_
     simp only [Act.put, pA, pB, pC]
     refine tK (i := 21) (oi := zo175_1_21) rfl (by kernel_rfl) (fun _ _ _ h => h) (Or.inr ⟨rfl, rfl⟩) hS ?_
     simp only [Act.put, pA, pB, pC]
     refine tK (i := 22) (oi := zo175_1_22) rfl (by kernel_rfl) (fun _ _ _ h => h) (Or.inr ⟨rfl, rfl⟩) hS ?_
     simp only [Act.put, pA, pB, pC]
     refine tK (i := 23) (oi := zo175_1_23) rfl (by kernel_rfl) (fun _ _ _ h => h) (Or.inr ⟨rfl, rfl⟩) hS ?_
     simp only [Act.put, pA, pB, pC]
     refine tK (i := 24) (oi := zo175_1_24) rfl (by kernel_rfl) (fun _ _ _ h => h) (Or.inr ⟨rfl, rfl⟩) hS ?_
     simp only [Act.put, pA, pB, pC]
     refine tK (i := 25) (oi := zo175_1_25) rfl (by kernel_rfl) (fun _ _ _ h => h) (Or.inr ⟨rfl, rfl⟩) hS ?_
     simp only [Act.put, pA, pB, pC]
     refine tK (i := 26) (oi := zo175_1_26) rfl (by kernel_rfl) (fun _ _ _ h => h) (Or.inr ⟨rfl, rfl⟩) hS ?_
     simp only [Act.put, pA, pB, pC]
     refine tK (i := 27) (oi := zo175_1_27) rfl (by kernel_rfl) (fun _ _ _ h => h) (Or.inr ⟨rfl, rfl⟩) hS ?_
     simp only [Act.put, pA, pB, pC]
     refine tK (i := 28) (oi := zo175_1_28) rfl (by kernel_rfl) (fun _ _ _ h => h) (Or.inr ⟨rfl, rfl⟩) hS ?_
     simp only [Act.put, pA, pB, pC]
     refine tK (i := 29) (oi := zo175_1_29) (v := ?_) rfl (by kernel_rfl) (fun _ _ _ h => h) (Or.inl ⟨rfl, ?_⟩) hS ?_
     rotate_left
     · (intro w' hS'; (try dsimp only at hS'); dsimp only [zo175_1_29]; go_simp; try with_reducible rfl)
     simp only [Act.put, pA, pB, pC]
     refine tK (i := 30) (oi := zo175_1_30) (v := ?_) rfl (by kernel_rfl) (fun _ _ _ h => h) (Or.inl ⟨rfl, ?_⟩) hS ?_
     rotate_left
     · (intro w' hS'; (try dsimp only at hS'); dsimp only [zo175_1_30]; go_simp; try with_reducible rfl)
     simp only [Act.put, pA, pB, pC]
     refine tK (i := 31) (oi := zo175_1_31) (v := ?_) rfl (by kernel_rfl) (fun _ _ _ h => h) (Or.inl ⟨rfl, ?_⟩) hS ?_
     rotate_left
     · (intro w' hS'; (try dsimp only at hS'); dsimp only [zo175_1_31]; go_simp; try with_reducible rfl)
     simp only [Act.put, pA, pB, pC]
     refine wpAnyH_done (by kernel_rfl) ?_ _
     go_wp2_with fail
     go_ret
     exact ⟨ret_boolI HF.out.symm, 1, rfl⟩
 · have HF : Hid (cLess (bigKey x) (bigKey y) = true) := by show _ = _; rw [hc, h1]; rfl
   unfold bLess at h1
   clear hc he
   go_enter Tryz.func175, Tryz.ntmps175
   go_wp2_with fail
   have hS : (fun w' : World => w'.cell? ⟨g, f, none⟩ = some (.string x.first) ∧ w'.cell? ⟨g, f + 1, none⟩ = some (.string x.second) ∧ w'.cell? ⟨g', f', none⟩ = some (.string y.first) ∧ w'.cell? ⟨g', f' + 1, none⟩ = some (.string y.second)) w.drew := ⟨a0, a1, b0, b1⟩
   dsimp only at hS
   refine wp_region_held_drew (S := (fun w' : World => w'.cell? ⟨g, f, none⟩ = some (.string x.first) ∧ w'.cell? ⟨g, f + 1, none⟩ = some (.string x.second) ∧ w'.cell? ⟨g', f', none⟩ = some (.string y.first) ∧ w'.cell? ⟨g', f' + 1, none⟩ = some (.string y.second))) (by kernel_rfl) hS (fun _ => ?_)
   refine tK (i := 0) (oi := zo175_1_0) (v := ?_) rfl (by kernel_rfl) (fun _ _ _ h => h) (Or.inl ⟨rfl, ?_⟩) hS ?_
   rotate_left
   · (intro w' hS'; (try dsimp only at hS'); dsimp only [zo175_1_0]; go_simp; try with_reducible rfl)
   simp only [Act.put, pA, pB, pC]
   refine tK (i := 1) (oi := zo175_1_1) (v := ?_) rfl (by kernel_rfl) (fun _ _ _ h => h) (Or.inl ⟨rfl, ?_⟩) hS ?_
   rotate_left
   · (intro w' hS'; (try dsimp only at hS'); dsimp only [zo175_1_1]; go_simp; try with_reducible rfl)
   simp only [Act.put, pA, pB, pC]
   refine tK (i := 2) (oi := zo175_1_2) (v := ?_) rfl (by kernel_rfl) (fun _ _ _ h => h) (Or.inl ⟨rfl, ?_⟩) hS ?_
   rotate_left
   · (intro w' hS'; (try dsimp only at hS'); dsimp only [zo175_1_2]; go_simp; try with_reducible rfl)
   simp only [Act.put, pA, pB, pC]
   refine tK (i := 3) (oi := zo175_1_3) (v := ?_) rfl (by kernel_rfl) (fun _ _ _ h => h) (Or.inl ⟨rfl, ?_⟩) hS ?_
   rotate_left
   · (intro w' hS'; (try dsimp only at hS'); dsimp only [zo175_1_3]; go_simp; try with_reducible rfl)
   simp only [Act.put, pA, pB, pC]
   refine tK (i := 4) (oi := zo175_1_4) (v := ?_) rfl (by kernel_rfl) (fun _ _ _ h => h) (Or.inl ⟨rfl, ?_⟩) hS ?_
   rotate_left
   · (intro w' hS'; (try dsimp only at hS'); dsimp only [zo175_1_4]; go_simp; try with_reducible rfl)
   simp only [Act.put, pA, pB, pC]
   refine tK (i := 5) (oi := zo175_1_5) (v := ?_) rfl (by kernel_rfl) (fun _ _ _ h => h) (Or.inl ⟨rfl, ?_⟩) hS ?_
   rotate_left
   · (intro w' hS'; (try dsimp only at hS'); dsimp only [zo175_1_5]; go_simp; try with_reducible rfl)
   simp only [Act.put, pA, pB, pC]
   refine tK (i := 6) (oi := zo175_1_6) (v := ?_) rfl (by kernel_rfl) (fun _ _ _ h => h) (Or.inl ⟨rfl, ?_⟩) hS ?_
   rotate_left
   · (intro w' hS'; (try dsimp only at hS'); dsimp only [zo175_1_6]; go_simp; try with_reducible rfl)
   simp only [Act.put, pA, pB, pC]
   refine tK (i := 7) (oi := zo175_1_7) (v := ?_) rfl (by kernel_rfl) (fun _ _ _ h => h) (Or.inl ⟨rfl, ?_⟩) hS ?_
   rotate_left
   · (intro w' hS'; (try dsimp only at hS'); dsimp only [zo175_1_7]; go_simp; try with_reducible rfl)
   simp only [Act.put, pA, pB, pC]
   refine tK (i := 8) (oi := zo175_1_8) (v := ?_) rfl (by kernel_rfl) (fun _ _ _ h => h) (Or.inl ⟨rfl, ?_⟩) hS ?_
   rotate_left
   · (intro w' hS'; (try dsimp only at hS'); dsimp only [zo175_1_8]; go_simp; try with_reducible rfl)
   simp only [Act.put, pA, pB, pC]
   refine tK (i := 9) (oi := zo175_1_9) (v := ?_) rfl (by kernel_rfl) (fun _ _ _ h => h) (Or.inl ⟨rfl, ?_⟩) hS ?_
   rotate_left
   · (intro w' hS'; (try dsimp only at hS'); dsimp only [zo175_1_9]; go_simp; try with_reducible rfl)
   simp only [Act.put, pA, pB, pC]
   refine tK (i := 10) (oi := zo175_1_10) rfl (by kernel_rfl) (fun _ _ _ h => h) (Or.inr ⟨rfl, rfl⟩) hS ?_
   simp only [Act.put, pA, pB, pC]
   refine tK (i := 11) (oi := zo175_1_11) rfl (by kernel_rfl) (fun _ _ _ h => h) (Or.inr ⟨rfl, rfl⟩) hS ?_
   simp only [Act.put, pA, pB, pC]
   refine tK (i := 12) (oi := zo175_1_12) rfl (by kernel_rfl) (fun _ _ _ h => h) (Or.inr ⟨rfl, rfl⟩) hS ?_
   simp only [Act.put, pA, pB, pC]
   refine tK (i := 13) (oi := zo175_1_13) rfl (by kernel_rfl) (fun _ _ _ h => h) (Or.inr ⟨rfl, rfl⟩) hS ?_
   simp only [Act.put, pA, pB, pC]
   refine tK (i := 14) (oi := zo175_1_14) rfl (by kernel_rfl) (fun _ _ _ h => h) (Or.inr ⟨rfl, rfl⟩) hS ?_
   simp only [Act.put, pA, pB, pC]
   refine tK (i := 15) (oi := zo175_1_15) rfl (by kernel_rfl) (fun _ _ _ h => h) (Or.inr ⟨rfl, rfl⟩) hS ?_
   simp only [Act.put, pA, pB, pC]
   refine tK (i := 16) (oi := zo175_1_16) rfl (by kernel_rfl) (fun _ _ _ h => h) (Or.inr ⟨rfl, rfl⟩) hS ?_
   simp only [Act.put, pA, pB, pC]
   refine tK (i := 17) (oi := zo175_1_17) rfl (by kernel_rfl) (fun _ _ _ h => h) (Or.inr ⟨rfl, rfl⟩) hS ?_
   simp only [Act.put, pA, pB, pC]
   refine tK (i := 18) (oi := zo175_1_18) rfl (by kernel_rfl) (fun _ _ _ h => h) (Or.inr ⟨rfl, rfl⟩) hS ?_
   simp only [Act.put, pA, pB, pC]
   refine tK (i := 19) (oi := zo175_1_19) rfl (by kernel_rfl) (fun _ _ _ h => h) (Or.inr ⟨rfl, rfl⟩) hS ?_
   simp only [Act.put, pA, pB, pC]
   refine tK (i := 20) (oi := zo175_1_20) rfl (by kernel_rfl) (fun _ _ _ h => h) (Or.inr ⟨rfl, rfl⟩) hS ?_
   simp only [Act.put, pA, pB, pC]
   refine tK (i := 21) (oi := zo175_1_21) rfl (by kernel_rfl) (fun _ _ _ h => h) (Or.inr ⟨rfl, rfl⟩) hS ?_
   simp only [Act.put, pA, pB, pC]
   refine tK (i := 22) (oi := zo175_1_22) rfl (by kernel_rfl) (fun _ _ _ h => h) (Or.inr ⟨rfl, rfl⟩) hS ?_
   simp only [Act.put, pA, pB, pC]
   refine tK (i := 23) (oi := zo175_1_23) rfl (by kernel_rfl) (fun _ _ _ h => h) (Or.inr ⟨rfl, rfl⟩) hS ?_
   simp only [Act.put, pA, pB, pC]
   refine tK (i := 24) (oi := zo175_1_24) rfl (by kernel_rfl) (fun _ _ _ h => h) (Or.inr ⟨rfl, rfl⟩) hS ?_
   simp only [Act.put, pA, pB, pC]
   refine tK (i := 25) (oi := zo175_1_25) rfl (by kernel_rfl) (fun _ _ _ h => h) (Or.inr ⟨rfl, rfl⟩) hS ?_
   simp only [Act.put, pA, pB, pC]
   refine tK (i := 26) (oi := zo175_1_26) rfl (by kernel_rfl) (fun _ _ _ h => h) (Or.inr ⟨rfl, rfl⟩) hS ?_
   simp only [Act.put, pA, pB, pC]
   refine tK (i := 27) (oi := zo175_1_27) rfl (by kernel_rfl) (fun _ _ _ h => h) (Or.inr ⟨rfl, rfl⟩) hS ?_
   simp only [Act.put, pA, pB, pC]
   refine tK (i := 28) (oi := zo175_1_28) rfl (by kernel_rfl) (fun _ _ _ h => h) (Or.inr ⟨rfl, rfl⟩) hS ?_
   simp only [Act.put, pA, pB, pC]
   refine tK (i := 29) (oi := zo175_1_29) rfl (by kernel_rfl) (fun _ _ _ h => h) (Or.inr ⟨rfl, rfl⟩) hS ?_
   simp only [Act.put, pA, pB, pC]
   refine tK (i := 30) (oi := zo175_1_30) (v := ?_) rfl (by kernel_rfl) (fun _ _ _ h => h) (Or.inl ⟨rfl, ?_⟩) hS ?_
   rotate_left
   · (intro w' hS'; (try dsimp only at hS'); dsimp only [zo175_1_30]; go_simp; try with_reducible rfl)
   simp only [Act.put, pA, pB, pC]
   refine tK (i := 31) (oi := zo175_1_31) (v := ?_) rfl (by kernel_rfl) (fun _ _ _ h => h) (Or.inl ⟨rfl, ?_⟩) hS ?_
   rotate_left
   · (intro w' hS'; (try dsimp only at hS'); dsimp only [zo175_1_31]; go_simp; try with_reducible rfl)
   simp only [Act.put, pA, pB, pC]
   refine wpAnyH_done (by kernel_rfl) ?_ _
   go_wp2_with fail
   go_ret
   exact ⟨ret_boolI HF.out.symm, 1, rfl⟩
set_option maxRecDepth 100000 in
set_option maxHeartbeats 4000000 in
theorem spec_l18Ok_c {o : Bool} {e : TypeId} {n : Int} {xs : List PBigram} {v : Value} {F : List Nat} {g f : Nat} (w : World) (c0 : w.cell? ⟨g, f, none⟩ = some (.int .i64 n)) (c1 : w.cell? ⟨g, f + 1, none⟩ = some v) (h : (pBigrams e).rep o w xs [v] F) (hx : xs.length ≤ 1048576) (hs : ∀ l ∈ xs, l.first.size ≤ 1048576 ∧ l.second.size ≤ 1048576) :
 Calls Tryz.prog 110 #[.pointer (some ⟨g, f, none⟩)] w (GivesB (modelB n xs) w) := by
 obtain ⟨A, c, rfl, hc1, hc2, hr⟩ := pBigrams_open h
 clear h
 go_enter Tryz.func110, Tryz.ntmps110
 go_wp2_with fail
 go_loopw [3] (fun i wr => ∃ k : Nat, k ≤ xs.length ∧ i = .int .i64 k ∧ Hid (bigsOk xs k = true) ∧ ∃ m, wr = w.drewN m) (fun i _ => xs.length - (intOf i).toNat)
 case atStart => exact ⟨0, Nat.zero_le _, rfl, rfl, 0, rfl⟩
 case round =>
  obtain ⟨k, hk, rfl, hok, m, rfl⟩ := hrel
  by_cases hlt : k < xs.length
  · obtain ⟨b, off, rfl, hbb, _, h0, h1, h2, _⟩ := hr k hlt
    have hsk := hs _ (List.getElem_mem hlt)
    have HW := Lib.hid (fun w' => spec_l18Bigram_c xs[k] hsk.1 hsk.2 (g := b) (f := off + k * 3) w')
    have he : bigOk xs k = (bigB xs[k] && (decide (k = 0) || cLess (bigKey (bigAt xs (k - 1))) (bigKey xs[k]))) := by rw [bigOk, bigAt_get hlt]
    have hs1 : bigsOk xs (k + 1) = (bigsOk xs k && bigOk xs k) := rfl
    clear hsk
    cases hw : bigB xs[k]
    · have HF := Lib.hid (modelB_false (n := n) hlt (by rw [he, hw]; rfl))
      simp only [hw] at HW
      clear hr hw he hs1
      go_wp2_with fail
      have hS : (fun w' : World => w'.cell? ⟨b, off + k * 3, none⟩ = some (.string xs[k].first) ∧ w'.cell? ⟨b, off + k * 3 + 1, none⟩ = some (.string xs[k].second) ∧ w'.cell? ⟨b, off + k * 3 + 2, none⟩ = some (.int .i64 xs[k].cost) ∧ w'.cell? ⟨g, f + 1, none⟩ = some (.slice (some ⟨b, off, none⟩) xs.length c)) (w.drewN m).drew := ⟨h0, h1, h2, c1⟩
      dsimp only at hS
      refine wp_region_held_drew (S := (fun w' : World => w'.cell? ⟨b, off + k * 3, none⟩ = some (.string xs[k].first) ∧ w'.cell? ⟨b, off + k * 3 + 1, none⟩ = some (.string xs[k].second) ∧ w'.cell? ⟨b, off + k * 3 + 2, none⟩ = some (.int .i64 xs[k].cost) ∧ w'.cell? ⟨g, f + 1, none⟩ = some (.slice (some ⟨b, off, none⟩) xs.length c))) (by kernel_rfl) hS (fun _ => ?_)
      refine tK (i := 0) (oi := zo110_4_0) (v := ?_) rfl (by kernel_rfl) (fun _ _ _ h => h) (Or.inl ⟨rfl, ?_⟩) hS ?_
      rotate_left
      · (intro w' hS'; (try dsimp only at hS'); dsimp only [zo110_4_0]; go_simp; try with_reducible rfl)
      simp only [Act.put, pA, pB, pC]
      refine tK (i := 1) (oi := zo110_4_1) (v := ?_) rfl (by kernel_rfl) (fun _ _ _ h => h) (Or.inl ⟨rfl, ?_⟩) hS ?_
      rotate_left
      · (intro w' hS'; (try dsimp only at hS'); dsimp only [zo110_4_1]; go_simp; try with_reducible rfl)
      simp only [Act.put, pA, pB, pC]
      refine tK (i := 2) (oi := zo110_4_2) (v := ?_) rfl (by kernel_rfl) (fun _ _ _ h => h) (Or.inl ⟨rfl, ?_⟩) hS ?_
      rotate_left
      · (intro w' hS'; (try dsimp only at hS'); dsimp only [zo110_4_2]; go_simp; try with_reducible rfl)
      simp only [Act.put, pA, pB, pC]
      refine tK (i := 3) (oi := zo110_4_3) (v := ?_) rfl (by kernel_rfl) (fun _ _ _ h => h) (Or.inl ⟨rfl, ?_⟩) hS ?_
      rotate_left
      · (intro w' hS'; (try dsimp only at hS'); dsimp only [zo110_4_3]; go_simp; try with_reducible rfl)
      simp only [Act.put, pA, pB, pC]
      refine tK (i := 4) (oi := zo110_4_4) (v := ?_) rfl (by kernel_rfl) (fun _ _ _ h => h) (Or.inl ⟨rfl, ?_⟩) hS ?_
      rotate_left
      · (intro w' hS'; (try dsimp only at hS'); dsimp only [zo110_4_4]; go_simp; try with_reducible rfl)
      simp only [Act.put, pA, pB, pC]
      refine tK (i := 5) (oi := zo110_4_5) (v := ?_) rfl (by kernel_rfl) (fun _ _ _ h => h) (Or.inl ⟨rfl, ?_⟩) hS ?_
      rotate_left
      · (intro w' hS'; (try dsimp only at hS'); dsimp only [zo110_4_5]; go_simp; try with_reducible rfl)
      simp only [Act.put, pA, pB, pC]
      refine wpAnyH_ready (rs := [6]) (by kernel_rfl) (by simp) ?_
      refine AllReadyH.cons (o := zo110_4_6) rfl (fun K hK => ?_) .nil
      refine step_call 174 #[.tmp 18] _ rfl rfl #[.pointer (some ⟨b, off + k * 3, none⟩)] Tryz.call174 (by go_simp) (HW.out _ hS.1 hS.2.1 hS.2.2.1) ?_
      rintro e w1 ⟨rfl, rfl⟩
      refine ⟨_, rfl, ?_⟩
      refine hK.out _ _ ?_ (fun hHeld => ?_)
      · exact hS
      clear hK K hHeld
      simp only [Act.put, pA, pB, pC]
      refine tK (i := 7) (oi := zo110_4_7) (v := ?_) rfl (by kernel_rfl) (fun _ _ _ h => h) (Or.inl ⟨rfl, ?_⟩) hS ?_
      rotate_left
      · (intro w' hS'; (try dsimp only at hS'); dsimp only [zo110_4_7]; go_simp; try with_reducible rfl)
      simp only [Act.put, pA, pB, pC]
      refine tK (i := 8) (oi := zo110_4_8) (v := ?_) rfl (by kernel_rfl) (fun _ _ _ h => h) (Or.inl ⟨rfl, ?_⟩) hS ?_
      rotate_left
      · (intro w' hS'; (try dsimp only at hS'); dsimp only [zo110_4_8]; go_simp; try with_reducible rfl)
      simp only [Act.put, pA, pB, pC]
      refine tK (i := 9) (oi := zo110_4_9) rfl (by kernel_rfl) (fun _ _ _ h => h) (Or.inr ⟨rfl, rfl⟩) hS ?_
      simp only [Act.put, pA, pB, pC]
      refine tK (i := 10) (oi := zo110_4_10) rfl (by kernel_rfl) (fun _ _ _ h => h) (Or.inr ⟨rfl, rfl⟩) hS ?_
      simp only [Act.put, pA, pB, pC]
      refine tK (i := 11) (oi := zo110_4_11) rfl (by kernel_rfl) (fun _ _ _ h => h) (Or.inr ⟨rfl, rfl⟩) hS ?_
      simp only [Act.put, pA, pB, pC]
      refine tK (i := 12) (oi := zo110_4_12) rfl (by kernel_rfl) (fun _ _ _ h => h) (Or.inr ⟨rfl, rfl⟩) hS ?_
      simp only [Act.put, pA, pB, pC]
      refine tK (i := 13) (oi := zo110_4_13) rfl (by kernel_rfl) (fun _ _ _ h => h) (Or.inr ⟨rfl, rfl⟩) hS ?_
      simp only [Act.put, pA, pB, pC]
      refine tK (i := 14) (oi := zo110_4_14) rfl (by kernel_rfl) (fun _ _ _ h => h) (Or.inr ⟨rfl, rfl⟩) hS ?_
      simp only [Act.put, pA, pB, pC]
      refine tK (i := 15) (oi := zo110_4_15) rfl (by kernel_rfl) (fun _ _ _ h => h) (Or.inr ⟨rfl, rfl⟩) hS ?_
      simp only [Act.put, pA, pB, pC]
      refine tK (i := 16) (oi := zo110_4_16) rfl (by kernel_rfl) (fun _ _ _ h => h) (Or.inr ⟨rfl, rfl⟩) hS ?_
      simp only [Act.put, pA, pB, pC]
      refine tK (i := 17) (oi := zo110_4_17) rfl (by kernel_rfl) (fun _ _ _ h => h) (Or.inr ⟨rfl, rfl⟩) hS ?_
      simp only [Act.put, pA, pB, pC]
      refine tK (i := 18) (oi := zo110_4_18) rfl (by kernel_rfl) (fun _ _ _ h => h) (Or.inr ⟨rfl, rfl⟩) hS ?_
      simp only [Act.put, pA, pB, pC]
      refine tK (i := 19) (oi := zo110_4_19) rfl (by kernel_rfl) (fun _ _ _ h => h) (Or.inr ⟨rfl, rfl⟩) hS ?_
      simp only [Act.put, pA, pB, pC]
      refine tK (i := 20) (oi := zo110_4_20) rfl (by kernel_rfl) (fun _ _ _ h => h) (Or.inr ⟨rfl, rfl⟩) hS ?_
      simp only [Act.put, pA, pB, pC]
      refine tK (i := 21) (oi := zo110_4_21) rfl (by kernel_rfl) (fun _ _ _ h => h) (Or.inr ⟨rfl, rfl⟩) hS ?_
      simp only [Act.put, pA, pB, pC]
      refine tK (i := 22) (oi := zo110_4_22) rfl (by kernel_rfl) (fun _ _ _ h => h) (Or.inr ⟨rfl, rfl⟩) hS ?_
      simp only [Act.put, pA, pB, pC]
      refine tK (i := 23) (oi := zo110_4_23) rfl (by kernel_rfl) (fun _ _ _ h => h) (Or.inr ⟨rfl, rfl⟩) hS ?_
      simp only [Act.put, pA, pB, pC]
      refine tK (i := 24) (oi := zo110_4_24) rfl (by kernel_rfl) (fun _ _ _ h => h) (Or.inr ⟨rfl, rfl⟩) hS ?_
      simp only [Act.put, pA, pB, pC]
      refine tK (i := 25) (oi := zo110_4_25) rfl (by kernel_rfl) (fun _ _ _ h => h) (Or.inr ⟨rfl, rfl⟩) hS ?_
      simp only [Act.put, pA, pB, pC]
      refine tK (i := 26) (oi := zo110_4_26) rfl (by kernel_rfl) (fun _ _ _ h => h) (Or.inr ⟨rfl, rfl⟩) hS ?_
      simp only [Act.put, pA, pB, pC]
      refine tK (i := 27) (oi := zo110_4_27) rfl (by kernel_rfl) (fun _ _ _ h => h) (Or.inr ⟨rfl, rfl⟩) hS ?_
      simp only [Act.put, pA, pB, pC]
      refine tK (i := 28) (oi := zo110_4_28) (v := ?_) rfl (by kernel_rfl) (fun _ _ _ h => h) (Or.inl ⟨rfl, ?_⟩) hS ?_
      rotate_left
      · (intro w' hS'; (try dsimp only at hS'); dsimp only [zo110_4_28]; go_simp; try with_reducible rfl)
      simp only [Act.put, pA, pB, pC]
      refine wpAnyH_done (by kernel_rfl) ?_ _
      go_wp2_with fail
      go_ret
      exact ⟨ret_boolI HF.out.symm, _, by first | rfl | exact World.drewN_drewN _ _ _ | exact (show ((w.drewN m).drewN 1).drewN m2 = _ from (World.drewN_drewN _ _ _).trans (World.drewN_drewN _ _ _))⟩
    · simp only [hw] at HW
      by_cases hz : k = 0
      · have HK : Hid (bigsOk xs (k + 1) = true) := by show _ = _; rw [hs1, hok.out, he, hw]; simp [hz]
        have g0 : (0 < k) = False := eq_false (by omega)
        clear hr hz hw he hs1
        go_wp2_with fail
        have hS : (fun w' : World => w'.cell? ⟨b, off + k * 3, none⟩ = some (.string xs[k].first) ∧ w'.cell? ⟨b, off + k * 3 + 1, none⟩ = some (.string xs[k].second) ∧ w'.cell? ⟨b, off + k * 3 + 2, none⟩ = some (.int .i64 xs[k].cost) ∧ w'.cell? ⟨g, f + 1, none⟩ = some (.slice (some ⟨b, off, none⟩) xs.length c)) (w.drewN m).drew := ⟨h0, h1, h2, c1⟩
        dsimp only at hS
        refine wp_region_held_drew (S := (fun w' : World => w'.cell? ⟨b, off + k * 3, none⟩ = some (.string xs[k].first) ∧ w'.cell? ⟨b, off + k * 3 + 1, none⟩ = some (.string xs[k].second) ∧ w'.cell? ⟨b, off + k * 3 + 2, none⟩ = some (.int .i64 xs[k].cost) ∧ w'.cell? ⟨g, f + 1, none⟩ = some (.slice (some ⟨b, off, none⟩) xs.length c))) (by kernel_rfl) hS (fun _ => ?_)
        refine tK (i := 0) (oi := zo110_4_0) (v := ?_) rfl (by kernel_rfl) (fun _ _ _ h => h) (Or.inl ⟨rfl, ?_⟩) hS ?_
        rotate_left
        · (intro w' hS'; (try dsimp only at hS'); dsimp only [zo110_4_0]; go_simp; try with_reducible rfl)
        simp only [Act.put, pA, pB, pC]
        refine tK (i := 1) (oi := zo110_4_1) (v := ?_) rfl (by kernel_rfl) (fun _ _ _ h => h) (Or.inl ⟨rfl, ?_⟩) hS ?_
        rotate_left
        · (intro w' hS'; (try dsimp only at hS'); dsimp only [zo110_4_1]; go_simp; try with_reducible rfl)
        simp only [Act.put, pA, pB, pC]
        refine tK (i := 2) (oi := zo110_4_2) (v := ?_) rfl (by kernel_rfl) (fun _ _ _ h => h) (Or.inl ⟨rfl, ?_⟩) hS ?_
        rotate_left
        · (intro w' hS'; (try dsimp only at hS'); dsimp only [zo110_4_2]; go_simp; try with_reducible rfl)
        simp only [Act.put, pA, pB, pC]
        refine tK (i := 3) (oi := zo110_4_3) (v := ?_) rfl (by kernel_rfl) (fun _ _ _ h => h) (Or.inl ⟨rfl, ?_⟩) hS ?_
        rotate_left
        · (intro w' hS'; (try dsimp only at hS'); dsimp only [zo110_4_3]; go_simp; try with_reducible rfl)
        simp only [Act.put, pA, pB, pC]
        refine tK (i := 4) (oi := zo110_4_4) (v := ?_) rfl (by kernel_rfl) (fun _ _ _ h => h) (Or.inl ⟨rfl, ?_⟩) hS ?_
        rotate_left
        · (intro w' hS'; (try dsimp only at hS'); dsimp only [zo110_4_4]; go_simp; try with_reducible rfl)
        simp only [Act.put, pA, pB, pC]
        refine tK (i := 5) (oi := zo110_4_5) (v := ?_) rfl (by kernel_rfl) (fun _ _ _ h => h) (Or.inl ⟨rfl, ?_⟩) hS ?_
        rotate_left
        · (intro w' hS'; (try dsimp only at hS'); dsimp only [zo110_4_5]; go_simp; try with_reducible rfl)
        simp only [Act.put, pA, pB, pC]
        refine wpAnyH_ready (rs := [6]) (by kernel_rfl) (by simp) ?_
        refine AllReadyH.cons (o := zo110_4_6) rfl (fun K hK => ?_) .nil
        refine step_call 174 #[.tmp 18] _ rfl rfl #[.pointer (some ⟨b, off + k * 3, none⟩)] Tryz.call174 (by go_simp) (HW.out _ hS.1 hS.2.1 hS.2.2.1) ?_
        rintro e w1 ⟨rfl, rfl⟩
        refine ⟨_, rfl, ?_⟩
        refine hK.out _ _ ?_ (fun hHeld => ?_)
        · exact hS
        clear hK K hHeld
        simp only [Act.put, pA, pB, pC]
        refine tK (i := 7) (oi := zo110_4_7) (v := ?_) rfl (by kernel_rfl) (fun _ _ _ h => h) (Or.inl ⟨rfl, ?_⟩) hS ?_
        rotate_left
        · (intro w' hS'; (try dsimp only at hS'); dsimp only [zo110_4_7]; go_simp; try with_reducible rfl)
        simp only [Act.put, pA, pB, pC]
        refine tK (i := 8) (oi := zo110_4_8) (v := ?_) rfl (by kernel_rfl) (fun _ _ _ h => h) (Or.inl ⟨rfl, ?_⟩) hS ?_
        rotate_left
        · (intro w' hS'; (try dsimp only at hS'); dsimp only [zo110_4_8]; go_simp; try with_reducible rfl)
        simp only [Act.put, pA, pB, pC]
        refine tK (i := 9) (oi := zo110_4_9) (v := ?_) rfl (by kernel_rfl) (fun _ _ _ h => h) (Or.inl ⟨rfl, ?_⟩) hS ?_
        rotate_left
        · (intro w' hS'; (try dsimp only at hS'); dsimp only [zo110_4_9]; go_simp; try with_reducible rfl)
        simp only [Act.put, pA, pB, pC]
        refine tK (i := 10) (oi := zo110_4_10) (v := ?_) rfl (by kernel_rfl) (fun _ _ _ h => h) (Or.inl ⟨rfl, ?_⟩) hS ?_
        rotate_left
        · (intro w' hS'; (try dsimp only at hS'); dsimp only [zo110_4_10]; go_simp; try with_reducible rfl)
        simp only [Act.put, pA, pB, pC]
        refine tK (i := 11) (oi := zo110_4_11) (v := ?_) rfl (by kernel_rfl) (fun _ _ _ h => h) (Or.inl ⟨rfl, ?_⟩) hS ?_
        rotate_left
        · (intro w' hS'; (try dsimp only at hS'); dsimp only [zo110_4_11]; go_simp; try with_reducible rfl)
        simp only [Act.put, pA, pB, pC]
        refine tK (i := 12) (oi := zo110_4_12) rfl (by kernel_rfl) (fun _ _ _ h => h) (Or.inr ⟨rfl, rfl⟩) hS ?_
        simp only [Act.put, pA, pB, pC]
        refine tK (i := 13) (oi := zo110_4_13) rfl (by kernel_rfl) (fun _ _ _ h => h) (Or.inr ⟨rfl, rfl⟩) hS ?_
        simp only [Act.put, pA, pB, pC]
        refine tK (i := 14) (oi := zo110_4_14) rfl (by kernel_rfl) (fun _ _ _ h => h) (Or.inr ⟨rfl, rfl⟩) hS ?_
        simp only [Act.put, pA, pB, pC]
        refine tK (i := 15) (oi := zo110_4_15) rfl (by kernel_rfl) (fun _ _ _ h => h) (Or.inr ⟨rfl, rfl⟩) hS ?_
        simp only [Act.put, pA, pB, pC]
        refine tK (i := 16) (oi := zo110_4_16) rfl (by kernel_rfl) (fun _ _ _ h => h) (Or.inr ⟨rfl, rfl⟩) hS ?_
        simp only [Act.put, pA, pB, pC]
        refine tK (i := 17) (oi := zo110_4_17) rfl (by kernel_rfl) (fun _ _ _ h => h) (Or.inr ⟨rfl, rfl⟩) hS ?_
        simp only [Act.put, pA, pB, pC]
        refine tK (i := 18) (oi := zo110_4_18) rfl (by kernel_rfl) (fun _ _ _ h => h) (Or.inr ⟨rfl, rfl⟩) hS ?_
        simp only [Act.put, pA, pB, pC]
        refine tK (i := 19) (oi := zo110_4_19) rfl (by kernel_rfl) (fun _ _ _ h => h) (Or.inr ⟨rfl, rfl⟩) hS ?_
        simp only [Act.put, pA, pB, pC]
        refine tK (i := 20) (oi := zo110_4_20) rfl (by kernel_rfl) (fun _ _ _ h => h) (Or.inr ⟨rfl, rfl⟩) hS ?_
        simp only [Act.put, pA, pB, pC]
        refine tK (i := 21) (oi := zo110_4_21) rfl (by kernel_rfl) (fun _ _ _ h => h) (Or.inr ⟨rfl, rfl⟩) hS ?_
        simp only [Act.put, pA, pB, pC]
        refine tK (i := 22) (oi := zo110_4_22) rfl (by kernel_rfl) (fun _ _ _ h => h) (Or.inr ⟨rfl, rfl⟩) hS ?_
        simp only [Act.put, pA, pB, pC]
        refine tK (i := 23) (oi := zo110_4_23) rfl (by kernel_rfl) (fun _ _ _ h => h) (Or.inr ⟨rfl, rfl⟩) hS ?_
        simp only [Act.put, pA, pB, pC]
        refine tK (i := 24) (oi := zo110_4_24) rfl (by kernel_rfl) (fun _ _ _ h => h) (Or.inr ⟨rfl, rfl⟩) hS ?_
        simp only [Act.put, pA, pB, pC]
        refine tK (i := 25) (oi := zo110_4_25) rfl (by kernel_rfl) (fun _ _ _ h => h) (Or.inr ⟨rfl, rfl⟩) hS ?_
        simp only [Act.put, pA, pB, pC]
        refine tK (i := 26) (oi := zo110_4_26) rfl (by kernel_rfl) (fun _ _ _ h => h) (Or.inr ⟨rfl, rfl⟩) hS ?_
        simp only [Act.put, pA, pB, pC]
        refine tK (i := 27) (oi := zo110_4_27) (v := ?_) rfl (by kernel_rfl) (fun _ _ _ h => h) (Or.inl ⟨rfl, ?_⟩) hS ?_
        rotate_left
        · (intro w' hS'; (try dsimp only at hS'); dsimp only [zo110_4_27]; go_simp; try with_reducible rfl)
        simp only [Act.put, pA, pB, pC]
        refine tK (i := 28) (oi := zo110_4_28) (v := ?_) rfl (by kernel_rfl) (fun _ _ _ h => h) (Or.inl ⟨rfl, ?_⟩) hS ?_
        rotate_left
        · (intro w' hS'; (try dsimp only at hS'); dsimp only [zo110_4_28]; go_simp; try with_reducible rfl)
        simp only [Act.put, pA, pB, pC]
        refine wpAnyH_done (by kernel_rfl) ?_ _
        go_wp2_with fail
        go_roundw
        case rel => exact ⟨k + 1, by omega, by go_num, HK, _, by first | rfl | exact World.drewN_drewN _ _ _ | exact (show ((w.drewN m).drewN 1).drewN m2 = _ from (World.drewN_drewN _ _ _).trans (World.drewN_drewN _ _ _))⟩
        case measure => simp [intOf]; omega
      · obtain ⟨j, hj⟩ : ∃ j, k = j + 1 := ⟨k - 1, by omega⟩
        have jl : j < xs.length := by omega
        obtain ⟨b', off', e', hbb', _, h3, h4, _⟩ := hr j jl
        injection e' with e'
        injection e' with e1 e2 _
        subst e1; subst e2
        have g0 : (0 < k) = True := eq_true (by omega)
        have gj : IntKind.i64.wrap ((k : Int) - 1) = (j : Int) := (IntWalk.i64_in _ (by omega)).trans (by omega)
        have jl' : (j : Int) < (xs.length : Int) := by omega
        have j0 : (0 : Int) ≤ (j : Int) := by omega
        have hen : bigAt xs (k - 1) = xs[j] := by subst hj; exact bigAt_get jl
        have dk : decide (k = 0) = false := decide_eq_false hz
        rw [hen, hw, dk] at he
        have HC := Lib.hid (fun w' => spec_l18Before_c xs[j] xs[k] (g := b) (f := off + j * 3) (g' := b) (f' := off + k * 3) w')
        clear hr
        cases hlw : cLess (bigKey xs[j]) (bigKey xs[k])
        · have HF := Lib.hid (modelB_false (n := n) hlt (by rw [he, hlw]; rfl))
          simp only [hlw] at HC
          have HJ := Lib.hid hj
          clear hj hz hw he hs1 hen dk hlw
          go_wp2_with fail
          have hS : (fun w' : World => w'.cell? ⟨b, off + k * 3, none⟩ = some (.string xs[k].first) ∧ w'.cell? ⟨b, off + k * 3 + 1, none⟩ = some (.string xs[k].second) ∧ w'.cell? ⟨b, off + k * 3 + 2, none⟩ = some (.int .i64 xs[k].cost) ∧ w'.cell? ⟨g, f + 1, none⟩ = some (.slice (some ⟨b, off, none⟩) xs.length c) ∧ w'.cell? ⟨b, off + j * 3, none⟩ = some (.string xs[j].first) ∧ w'.cell? ⟨b, off + j * 3 + 1, none⟩ = some (.string xs[j].second)) (w.drewN m).drew := ⟨h0, h1, h2, c1, h3, h4⟩
          dsimp only at hS
          refine wp_region_held_drew (S := (fun w' : World => w'.cell? ⟨b, off + k * 3, none⟩ = some (.string xs[k].first) ∧ w'.cell? ⟨b, off + k * 3 + 1, none⟩ = some (.string xs[k].second) ∧ w'.cell? ⟨b, off + k * 3 + 2, none⟩ = some (.int .i64 xs[k].cost) ∧ w'.cell? ⟨g, f + 1, none⟩ = some (.slice (some ⟨b, off, none⟩) xs.length c) ∧ w'.cell? ⟨b, off + j * 3, none⟩ = some (.string xs[j].first) ∧ w'.cell? ⟨b, off + j * 3 + 1, none⟩ = some (.string xs[j].second))) (by kernel_rfl) hS (fun _ => ?_)
          refine tK (i := 0) (oi := zo110_4_0) (v := ?_) rfl (by kernel_rfl) (fun _ _ _ h => h) (Or.inl ⟨rfl, ?_⟩) hS ?_
          rotate_left
          · (intro w' hS'; (try dsimp only at hS'); dsimp only [zo110_4_0]; go_simp; try with_reducible rfl)
          simp only [Act.put, pA, pB, pC]
          refine tK (i := 1) (oi := zo110_4_1) (v := ?_) rfl (by kernel_rfl) (fun _ _ _ h => h) (Or.inl ⟨rfl, ?_⟩) hS ?_
          rotate_left
          · (intro w' hS'; (try dsimp only at hS'); dsimp only [zo110_4_1]; go_simp; try with_reducible rfl)
          simp only [Act.put, pA, pB, pC]
          refine tK (i := 2) (oi := zo110_4_2) (v := ?_) rfl (by kernel_rfl) (fun _ _ _ h => h) (Or.inl ⟨rfl, ?_⟩) hS ?_
          rotate_left
          · (intro w' hS'; (try dsimp only at hS'); dsimp only [zo110_4_2]; go_simp; try with_reducible rfl)
          simp only [Act.put, pA, pB, pC]
          refine tK (i := 3) (oi := zo110_4_3) (v := ?_) rfl (by kernel_rfl) (fun _ _ _ h => h) (Or.inl ⟨rfl, ?_⟩) hS ?_
          rotate_left
          · (intro w' hS'; (try dsimp only at hS'); dsimp only [zo110_4_3]; go_simp; try with_reducible rfl)
          simp only [Act.put, pA, pB, pC]
          refine tK (i := 4) (oi := zo110_4_4) (v := ?_) rfl (by kernel_rfl) (fun _ _ _ h => h) (Or.inl ⟨rfl, ?_⟩) hS ?_
          rotate_left
          · (intro w' hS'; (try dsimp only at hS'); dsimp only [zo110_4_4]; go_simp; try with_reducible rfl)
          simp only [Act.put, pA, pB, pC]
          refine tK (i := 5) (oi := zo110_4_5) (v := ?_) rfl (by kernel_rfl) (fun _ _ _ h => h) (Or.inl ⟨rfl, ?_⟩) hS ?_
          rotate_left
          · (intro w' hS'; (try dsimp only at hS'); dsimp only [zo110_4_5]; go_simp; try with_reducible rfl)
          simp only [Act.put, pA, pB, pC]
          refine wpAnyH_ready (rs := [6]) (by kernel_rfl) (by simp) ?_
          refine AllReadyH.cons (o := zo110_4_6) rfl (fun K hK => ?_) .nil
          refine step_call 174 #[.tmp 18] _ rfl rfl #[.pointer (some ⟨b, off + k * 3, none⟩)] Tryz.call174 (by go_simp) (HW.out _ hS.1 hS.2.1 hS.2.2.1) ?_
          rintro e w1 ⟨rfl, rfl⟩
          refine ⟨_, rfl, ?_⟩
          refine hK.out _ _ ?_ (fun hHeld => ?_)
          · exact hS
          clear hK K hHeld
          simp only [Act.put, pA, pB, pC]
          refine tK (i := 7) (oi := zo110_4_7) (v := ?_) rfl (by kernel_rfl) (fun _ _ _ h => h) (Or.inl ⟨rfl, ?_⟩) hS ?_
          rotate_left
          · (intro w' hS'; (try dsimp only at hS'); dsimp only [zo110_4_7]; go_simp; try with_reducible rfl)
          simp only [Act.put, pA, pB, pC]
          refine tK (i := 8) (oi := zo110_4_8) (v := ?_) rfl (by kernel_rfl) (fun _ _ _ h => h) (Or.inl ⟨rfl, ?_⟩) hS ?_
          rotate_left
          · (intro w' hS'; (try dsimp only at hS'); dsimp only [zo110_4_8]; go_simp; try with_reducible rfl)
          simp only [Act.put, pA, pB, pC]
          refine tK (i := 9) (oi := zo110_4_9) (v := ?_) rfl (by kernel_rfl) (fun _ _ _ h => h) (Or.inl ⟨rfl, ?_⟩) hS ?_
          rotate_left
          · (intro w' hS'; (try dsimp only at hS'); dsimp only [zo110_4_9]; go_simp; try with_reducible rfl)
          simp only [Act.put, pA, pB, pC]
          refine tK (i := 10) (oi := zo110_4_10) (v := ?_) rfl (by kernel_rfl) (fun _ _ _ h => h) (Or.inl ⟨rfl, ?_⟩) hS ?_
          rotate_left
          · (intro w' hS'; (try dsimp only at hS'); dsimp only [zo110_4_10]; go_simp; try with_reducible rfl)
          simp only [Act.put, pA, pB, pC]
          refine tK (i := 11) (oi := zo110_4_11) (v := ?_) rfl (by kernel_rfl) (fun _ _ _ h => h) (Or.inl ⟨rfl, ?_⟩) hS ?_
          rotate_left
          · (intro w' hS'; (try dsimp only at hS'); dsimp only [zo110_4_11]; go_simp; try with_reducible rfl)
          simp only [Act.put, pA, pB, pC]
          refine tK (i := 12) (oi := zo110_4_12) (v := ?_) rfl (by kernel_rfl) (fun _ _ _ h => h) (Or.inl ⟨rfl, ?_⟩) hS ?_
          rotate_left
          · (intro w' hS'; (try dsimp only at hS'); dsimp only [zo110_4_12]; go_simp; try with_reducible rfl)
          simp only [Act.put, pA, pB, pC]
          refine tK (i := 13) (oi := zo110_4_13) (v := ?_) rfl (by kernel_rfl) (fun _ _ _ h => h) (Or.inl ⟨rfl, ?_⟩) hS ?_
          rotate_left
          · (intro w' hS'; (try dsimp only at hS'); dsimp only [zo110_4_13]; go_simp; try with_reducible rfl)
          simp only [Act.put, pA, pB, pC]
          refine tK (i := 14) (oi := zo110_4_14) (v := ?_) rfl (by kernel_rfl) (fun _ _ _ h => h) (Or.inl ⟨rfl, ?_⟩) hS ?_
          rotate_left
          · (intro w' hS'; (try dsimp only at hS'); dsimp only [zo110_4_14]; go_simp; try with_reducible rfl)
          simp only [Act.put, pA, pB, pC]
          refine tK (i := 15) (oi := zo110_4_15) (v := ?_) rfl (by kernel_rfl) (fun _ _ _ h => h) (Or.inl ⟨rfl, ?_⟩) hS ?_
          rotate_left
          · (intro w' hS'; (try dsimp only at hS'); dsimp only [zo110_4_15]; go_simp; try with_reducible rfl)
          simp only [Act.put, pA, pB, pC]
          refine tK (i := 16) (oi := zo110_4_16) (v := ?_) rfl (by kernel_rfl) (fun _ _ _ h => h) (Or.inl ⟨rfl, ?_⟩) hS ?_
          rotate_left
          · (intro w' hS'; (try dsimp only at hS'); dsimp only [zo110_4_16]; go_simp; try with_reducible rfl)
          simp only [Act.put, pA, pB, pC]
          refine tK (i := 17) (oi := zo110_4_17) (v := ?_) rfl (by kernel_rfl) (fun _ _ _ h => h) (Or.inl ⟨rfl, ?_⟩) hS ?_
          rotate_left
          · (intro w' hS'; (try dsimp only at hS'); dsimp only [zo110_4_17]; go_simp; try with_reducible rfl)
          simp only [Act.put, pA, pB, pC]
          refine tK (i := 18) (oi := zo110_4_18) (v := ?_) rfl (by kernel_rfl) (fun _ _ _ h => h) (Or.inl ⟨rfl, ?_⟩) hS ?_
          rotate_left
          · (intro w' hS'; (try dsimp only at hS'); dsimp only [zo110_4_18]; go_simp; try with_reducible rfl)
          simp only [Act.put, pA, pB, pC]
          refine tK (i := 19) (oi := zo110_4_19) (v := ?_) rfl (by kernel_rfl) (fun _ _ _ h => h) (Or.inl ⟨rfl, ?_⟩) hS ?_
          rotate_left
          · (intro w' hS'; (try dsimp only at hS'); dsimp only [zo110_4_19]; go_simp; try with_reducible rfl)
          simp only [Act.put, pA, pB, pC]
          refine tK (i := 20) (oi := zo110_4_20) (v := ?_) rfl (by kernel_rfl) (fun _ _ _ h => h) (Or.inl ⟨rfl, ?_⟩) hS ?_
          rotate_left
          · (intro w' hS'; (try dsimp only at hS'); dsimp only [zo110_4_20]; go_simp; try with_reducible rfl)
          simp only [Act.put, pA, pB, pC]
          refine tK (i := 21) (oi := zo110_4_21) (v := ?_) rfl (by kernel_rfl) (fun _ _ _ h => h) (Or.inl ⟨rfl, ?_⟩) hS ?_
          rotate_left
          · (intro w' hS'; (try dsimp only at hS'); dsimp only [zo110_4_21]; go_simp; try with_reducible rfl)
          simp only [Act.put, pA, pB, pC]
          refine tK (i := 22) (oi := zo110_4_22) (v := ?_) rfl (by kernel_rfl) (fun _ _ _ h => h) (Or.inl ⟨rfl, ?_⟩) hS ?_
          rotate_left
          · (intro w' hS'; (try dsimp only at hS'); dsimp only [zo110_4_22]; go_simp; try with_reducible rfl)
          simp only [Act.put, pA, pB, pC]
          refine tK (i := 23) (oi := zo110_4_23) (v := ?_) rfl (by kernel_rfl) (fun _ _ _ h => h) (Or.inl ⟨rfl, ?_⟩) hS ?_
          rotate_left
          · (intro w' hS'; (try dsimp only at hS'); dsimp only [zo110_4_23]; go_simp; try with_reducible rfl)
          simp only [Act.put, pA, pB, pC]
          refine tK (i := 24) (oi := zo110_4_24) (v := ?_) rfl (by kernel_rfl) (fun _ _ _ h => h) (Or.inl ⟨rfl, ?_⟩) hS ?_
          rotate_left
          · (intro w' hS'; (try dsimp only at hS'); dsimp only [zo110_4_24]; go_simp; try with_reducible rfl)
          simp only [Act.put, pA, pB, pC]
          refine wpAnyH_ready (rs := [25]) (by kernel_rfl) (by simp) ?_
          refine AllReadyH.cons (o := zo110_4_25) rfl (fun K hK => ?_) .nil
          refine step_call 175 #[.tmp 31, .tmp 37] _ rfl rfl #[.pointer (some ⟨b, off + j * 3, none⟩), .pointer (some ⟨b, off + k * 3, none⟩)] Tryz.call175 (by go_simp) (HC.out _ hS.2.2.2.2.1 hS.2.2.2.2.2 hS.1 hS.2.1) ?_
          rintro e w1 ⟨rfl, m2, rfl⟩
          refine ⟨_, rfl, ?_⟩
          replace hS : (fun w' : World => w'.cell? ⟨b, off + k * 3, none⟩ = some (.string xs[k].first) ∧ w'.cell? ⟨b, off + k * 3 + 1, none⟩ = some (.string xs[k].second) ∧ w'.cell? ⟨b, off + k * 3 + 2, none⟩ = some (.int .i64 xs[k].cost) ∧ w'.cell? ⟨g, f + 1, none⟩ = some (.slice (some ⟨b, off, none⟩) xs.length c) ∧ w'.cell? ⟨b, off + j * 3, none⟩ = some (.string xs[j].first) ∧ w'.cell? ⟨b, off + j * 3 + 1, none⟩ = some (.string xs[j].second)) (((w.drewN m).drew).drewN m2) := hS
          dsimp only at hS
          refine hK.out _ _ ?_ (fun hHeld => ?_)
          · exact hS
          clear hK K hHeld
          simp only [Act.put, pA, pB, pC]
          refine tK (i := 26) (oi := zo110_4_26) (v := ?_) rfl (by kernel_rfl) (fun _ _ _ h => h) (Or.inl ⟨rfl, ?_⟩) hS ?_
          rotate_left
          · (intro w' hS'; (try dsimp only at hS'); dsimp only [zo110_4_26]; go_simp; try with_reducible rfl)
          simp only [Act.put, pA, pB, pC]
          refine tK (i := 27) (oi := zo110_4_27) (v := ?_) rfl (by kernel_rfl) (fun _ _ _ h => h) (Or.inl ⟨rfl, ?_⟩) hS ?_
          rotate_left
          · (intro w' hS'; (try dsimp only at hS'); dsimp only [zo110_4_27]; go_simp; try with_reducible rfl)
          simp only [Act.put, pA, pB, pC]
          refine tK (i := 28) (oi := zo110_4_28) (v := ?_) rfl (by kernel_rfl) (fun _ _ _ h => h) (Or.inl ⟨rfl, ?_⟩) hS ?_
          rotate_left
          · (intro w' hS'; (try dsimp only at hS'); dsimp only [zo110_4_28]; go_simp; try with_reducible rfl)
          simp only [Act.put, pA, pB, pC]
          refine wpAnyH_done (by kernel_rfl) ?_ _
          go_wp2_with fail
          go_ret
          exact ⟨ret_boolI HF.out.symm, _, by first | rfl | exact World.drewN_drewN _ _ _ | exact (show ((w.drewN m).drewN 1).drewN m2 = _ from (World.drewN_drewN _ _ _).trans (World.drewN_drewN _ _ _))⟩
        · have HK : Hid (bigsOk xs (k + 1) = true) := by show _ = _; rw [hs1, hok.out, he, hlw]; rfl
          simp only [hlw] at HC
          have HJ := Lib.hid hj
          clear hj hz hw he hs1 hen dk hlw
          go_wp2_with fail
          have hS : (fun w' : World => w'.cell? ⟨b, off + k * 3, none⟩ = some (.string xs[k].first) ∧ w'.cell? ⟨b, off + k * 3 + 1, none⟩ = some (.string xs[k].second) ∧ w'.cell? ⟨b, off + k * 3 + 2, none⟩ = some (.int .i64 xs[k].cost) ∧ w'.cell? ⟨g, f + 1, none⟩ = some (.slice (some ⟨b, off, none⟩) xs.length c) ∧ w'.cell? ⟨b, off + j * 3, none⟩ = some (.string xs[j].first) ∧ w'.cell? ⟨b, off + j * 3 + 1, none⟩ = some (.string xs[j].second)) (w.drewN m).drew := ⟨h0, h1, h2, c1, h3, h4⟩
          dsimp only at hS
          refine wp_region_held_drew (S := (fun w' : World => w'.cell? ⟨b, off + k * 3, none⟩ = some (.string xs[k].first) ∧ w'.cell? ⟨b, off + k * 3 + 1, none⟩ = some (.string xs[k].second) ∧ w'.cell? ⟨b, off + k * 3 + 2, none⟩ = some (.int .i64 xs[k].cost) ∧ w'.cell? ⟨g, f + 1, none⟩ = some (.slice (some ⟨b, off, none⟩) xs.length c) ∧ w'.cell? ⟨b, off + j * 3, none⟩ = some (.string xs[j].first) ∧ w'.cell? ⟨b, off + j * 3 + 1, none⟩ = some (.string xs[j].second))) (by kernel_rfl) hS (fun _ => ?_)
          refine tK (i := 0) (oi := zo110_4_0) (v := ?_) rfl (by kernel_rfl) (fun _ _ _ h => h) (Or.inl ⟨rfl, ?_⟩) hS ?_
          rotate_left
          · (intro w' hS'; (try dsimp only at hS'); dsimp only [zo110_4_0]; go_simp; try with_reducible rfl)
          simp only [Act.put, pA, pB, pC]
          refine tK (i := 1) (oi := zo110_4_1) (v := ?_) rfl (by kernel_rfl) (fun _ _ _ h => h) (Or.inl ⟨rfl, ?_⟩) hS ?_
          rotate_left
          · (intro w' hS'; (try dsimp only at hS'); dsimp only [zo110_4_1]; go_simp; try with_reducible rfl)
          simp only [Act.put, pA, pB, pC]
          refine tK (i := 2) (oi := zo110_4_2) (v := ?_) rfl (by kernel_rfl) (fun _ _ _ h => h) (Or.inl ⟨rfl, ?_⟩) hS ?_
          rotate_left
          · (intro w' hS'; (try dsimp only at hS'); dsimp only [zo110_4_2]; go_simp; try with_reducible rfl)
          simp only [Act.put, pA, pB, pC]
          refine tK (i := 3) (oi := zo110_4_3) (v := ?_) rfl (by kernel_rfl) (fun _ _ _ h => h) (Or.inl ⟨rfl, ?_⟩) hS ?_
          rotate_left
          · (intro w' hS'; (try dsimp only at hS'); dsimp only [zo110_4_3]; go_simp; try with_reducible rfl)
          simp only [Act.put, pA, pB, pC]
          refine tK (i := 4) (oi := zo110_4_4) (v := ?_) rfl (by kernel_rfl) (fun _ _ _ h => h) (Or.inl ⟨rfl, ?_⟩) hS ?_
          rotate_left
          · (intro w' hS'; (try dsimp only at hS'); dsimp only [zo110_4_4]; go_simp; try with_reducible rfl)
          simp only [Act.put, pA, pB, pC]
          refine tK (i := 5) (oi := zo110_4_5) (v := ?_) rfl (by kernel_rfl) (fun _ _ _ h => h) (Or.inl ⟨rfl, ?_⟩) hS ?_
          rotate_left
          · (intro w' hS'; (try dsimp only at hS'); dsimp only [zo110_4_5]; go_simp; try with_reducible rfl)
          simp only [Act.put, pA, pB, pC]
          refine wpAnyH_ready (rs := [6]) (by kernel_rfl) (by simp) ?_
          refine AllReadyH.cons (o := zo110_4_6) rfl (fun K hK => ?_) .nil
          refine step_call 174 #[.tmp 18] _ rfl rfl #[.pointer (some ⟨b, off + k * 3, none⟩)] Tryz.call174 (by go_simp) (HW.out _ hS.1 hS.2.1 hS.2.2.1) ?_
          rintro e w1 ⟨rfl, rfl⟩
          refine ⟨_, rfl, ?_⟩
          refine hK.out _ _ ?_ (fun hHeld => ?_)
          · exact hS
          clear hK K hHeld
          simp only [Act.put, pA, pB, pC]
          refine tK (i := 7) (oi := zo110_4_7) (v := ?_) rfl (by kernel_rfl) (fun _ _ _ h => h) (Or.inl ⟨rfl, ?_⟩) hS ?_
          rotate_left
          · (intro w' hS'; (try dsimp only at hS'); dsimp only [zo110_4_7]; go_simp; try with_reducible rfl)
          simp only [Act.put, pA, pB, pC]
          refine tK (i := 8) (oi := zo110_4_8) (v := ?_) rfl (by kernel_rfl) (fun _ _ _ h => h) (Or.inl ⟨rfl, ?_⟩) hS ?_
          rotate_left
          · (intro w' hS'; (try dsimp only at hS'); dsimp only [zo110_4_8]; go_simp; try with_reducible rfl)
          simp only [Act.put, pA, pB, pC]
          refine tK (i := 9) (oi := zo110_4_9) (v := ?_) rfl (by kernel_rfl) (fun _ _ _ h => h) (Or.inl ⟨rfl, ?_⟩) hS ?_
          rotate_left
          · (intro w' hS'; (try dsimp only at hS'); dsimp only [zo110_4_9]; go_simp; try with_reducible rfl)
          simp only [Act.put, pA, pB, pC]
          refine tK (i := 10) (oi := zo110_4_10) (v := ?_) rfl (by kernel_rfl) (fun _ _ _ h => h) (Or.inl ⟨rfl, ?_⟩) hS ?_
          rotate_left
          · (intro w' hS'; (try dsimp only at hS'); dsimp only [zo110_4_10]; go_simp; try with_reducible rfl)
          simp only [Act.put, pA, pB, pC]
          refine tK (i := 11) (oi := zo110_4_11) (v := ?_) rfl (by kernel_rfl) (fun _ _ _ h => h) (Or.inl ⟨rfl, ?_⟩) hS ?_
          rotate_left
          · (intro w' hS'; (try dsimp only at hS'); dsimp only [zo110_4_11]; go_simp; try with_reducible rfl)
          simp only [Act.put, pA, pB, pC]
          refine tK (i := 12) (oi := zo110_4_12) (v := ?_) rfl (by kernel_rfl) (fun _ _ _ h => h) (Or.inl ⟨rfl, ?_⟩) hS ?_
          rotate_left
          · (intro w' hS'; (try dsimp only at hS'); dsimp only [zo110_4_12]; go_simp; try with_reducible rfl)
          simp only [Act.put, pA, pB, pC]
          refine tK (i := 13) (oi := zo110_4_13) (v := ?_) rfl (by kernel_rfl) (fun _ _ _ h => h) (Or.inl ⟨rfl, ?_⟩) hS ?_
          rotate_left
          · (intro w' hS'; (try dsimp only at hS'); dsimp only [zo110_4_13]; go_simp; try with_reducible rfl)
          simp only [Act.put, pA, pB, pC]
          refine tK (i := 14) (oi := zo110_4_14) (v := ?_) rfl (by kernel_rfl) (fun _ _ _ h => h) (Or.inl ⟨rfl, ?_⟩) hS ?_
          rotate_left
          · (intro w' hS'; (try dsimp only at hS'); dsimp only [zo110_4_14]; go_simp; try with_reducible rfl)
          simp only [Act.put, pA, pB, pC]
          refine tK (i := 15) (oi := zo110_4_15) (v := ?_) rfl (by kernel_rfl) (fun _ _ _ h => h) (Or.inl ⟨rfl, ?_⟩) hS ?_
          rotate_left
          · (intro w' hS'; (try dsimp only at hS'); dsimp only [zo110_4_15]; go_simp; try with_reducible rfl)
          simp only [Act.put, pA, pB, pC]
          refine tK (i := 16) (oi := zo110_4_16) (v := ?_) rfl (by kernel_rfl) (fun _ _ _ h => h) (Or.inl ⟨rfl, ?_⟩) hS ?_
          rotate_left
          · (intro w' hS'; (try dsimp only at hS'); dsimp only [zo110_4_16]; go_simp; try with_reducible rfl)
          simp only [Act.put, pA, pB, pC]
          refine tK (i := 17) (oi := zo110_4_17) (v := ?_) rfl (by kernel_rfl) (fun _ _ _ h => h) (Or.inl ⟨rfl, ?_⟩) hS ?_
          rotate_left
          · (intro w' hS'; (try dsimp only at hS'); dsimp only [zo110_4_17]; go_simp; try with_reducible rfl)
          simp only [Act.put, pA, pB, pC]
          refine tK (i := 18) (oi := zo110_4_18) (v := ?_) rfl (by kernel_rfl) (fun _ _ _ h => h) (Or.inl ⟨rfl, ?_⟩) hS ?_
          rotate_left
          · (intro w' hS'; (try dsimp only at hS'); dsimp only [zo110_4_18]; go_simp; try with_reducible rfl)
          simp only [Act.put, pA, pB, pC]
          refine tK (i := 19) (oi := zo110_4_19) (v := ?_) rfl (by kernel_rfl) (fun _ _ _ h => h) (Or.inl ⟨rfl, ?_⟩) hS ?_
          rotate_left
          · (intro w' hS'; (try dsimp only at hS'); dsimp only [zo110_4_19]; go_simp; try with_reducible rfl)
          simp only [Act.put, pA, pB, pC]
          refine tK (i := 20) (oi := zo110_4_20) (v := ?_) rfl (by kernel_rfl) (fun _ _ _ h => h) (Or.inl ⟨rfl, ?_⟩) hS ?_
          rotate_left
          · (intro w' hS'; (try dsimp only at hS'); dsimp only [zo110_4_20]; go_simp; try with_reducible rfl)
          simp only [Act.put, pA, pB, pC]
          refine tK (i := 21) (oi := zo110_4_21) (v := ?_) rfl (by kernel_rfl) (fun _ _ _ h => h) (Or.inl ⟨rfl, ?_⟩) hS ?_
          rotate_left
          · (intro w' hS'; (try dsimp only at hS'); dsimp only [zo110_4_21]; go_simp; try with_reducible rfl)
          simp only [Act.put, pA, pB, pC]
          refine tK (i := 22) (oi := zo110_4_22) (v := ?_) rfl (by kernel_rfl) (fun _ _ _ h => h) (Or.inl ⟨rfl, ?_⟩) hS ?_
          rotate_left
          · (intro w' hS'; (try dsimp only at hS'); dsimp only [zo110_4_22]; go_simp; try with_reducible rfl)
          simp only [Act.put, pA, pB, pC]
          refine tK (i := 23) (oi := zo110_4_23) (v := ?_) rfl (by kernel_rfl) (fun _ _ _ h => h) (Or.inl ⟨rfl, ?_⟩) hS ?_
          rotate_left
          · (intro w' hS'; (try dsimp only at hS'); dsimp only [zo110_4_23]; go_simp; try with_reducible rfl)
          simp only [Act.put, pA, pB, pC]
          refine tK (i := 24) (oi := zo110_4_24) (v := ?_) rfl (by kernel_rfl) (fun _ _ _ h => h) (Or.inl ⟨rfl, ?_⟩) hS ?_
          rotate_left
          · (intro w' hS'; (try dsimp only at hS'); dsimp only [zo110_4_24]; go_simp; try with_reducible rfl)
          simp only [Act.put, pA, pB, pC]
          refine wpAnyH_ready (rs := [25]) (by kernel_rfl) (by simp) ?_
          refine AllReadyH.cons (o := zo110_4_25) rfl (fun K hK => ?_) .nil
          refine step_call 175 #[.tmp 31, .tmp 37] _ rfl rfl #[.pointer (some ⟨b, off + j * 3, none⟩), .pointer (some ⟨b, off + k * 3, none⟩)] Tryz.call175 (by go_simp) (HC.out _ hS.2.2.2.2.1 hS.2.2.2.2.2 hS.1 hS.2.1) ?_
          rintro e w1 ⟨rfl, m2, rfl⟩
          refine ⟨_, rfl, ?_⟩
          replace hS : (fun w' : World => w'.cell? ⟨b, off + k * 3, none⟩ = some (.string xs[k].first) ∧ w'.cell? ⟨b, off + k * 3 + 1, none⟩ = some (.string xs[k].second) ∧ w'.cell? ⟨b, off + k * 3 + 2, none⟩ = some (.int .i64 xs[k].cost) ∧ w'.cell? ⟨g, f + 1, none⟩ = some (.slice (some ⟨b, off, none⟩) xs.length c) ∧ w'.cell? ⟨b, off + j * 3, none⟩ = some (.string xs[j].first) ∧ w'.cell? ⟨b, off + j * 3 + 1, none⟩ = some (.string xs[j].second)) (((w.drewN m).drew).drewN m2) := hS
          dsimp only at hS
          refine hK.out _ _ ?_ (fun hHeld => ?_)
          · exact hS
          clear hK K hHeld
          simp only [Act.put, pA, pB, pC]
          refine tK (i := 26) (oi := zo110_4_26) (v := ?_) rfl (by kernel_rfl) (fun _ _ _ h => h) (Or.inl ⟨rfl, ?_⟩) hS ?_
          rotate_left
          · (intro w' hS'; (try dsimp only at hS'); dsimp only [zo110_4_26]; go_simp; try with_reducible rfl)
          simp only [Act.put, pA, pB, pC]
          refine tK (i := 27) (oi := zo110_4_27) (v := ?_) rfl (by kernel_rfl) (fun _ _ _ h => h) (Or.inl ⟨rfl, ?_⟩) hS ?_
          rotate_left
          · (intro w' hS'; (try dsimp only at hS'); dsimp only [zo110_4_27]; go_simp; try with_reducible rfl)
          simp only [Act.put, pA, pB, pC]
          refine tK (i := 28) (oi := zo110_4_28) (v := ?_) rfl (by kernel_rfl) (fun _ _ _ h => h) (Or.inl ⟨rfl, ?_⟩) hS ?_
          rotate_left
          · (intro w' hS'; (try dsimp only at hS'); dsimp only [zo110_4_28]; go_simp; try with_reducible rfl)
          simp only [Act.put, pA, pB, pC]
          refine wpAnyH_done (by kernel_rfl) ?_ _
          go_wp2_with fail
          go_roundw
          case rel => exact ⟨k + 1, by omega, by go_num, HK, _, by first | rfl | exact World.drewN_drewN _ _ _ | exact (show ((w.drewN m).drewN 1).drewN m2 = _ from (World.drewN_drewN _ _ _).trans (World.drewN_drewN _ _ _))⟩
          case measure => simp [intOf]; omega
  · obtain rfl : k = xs.length := by omega
    have HQ := Lib.hid (spec_cost_c n)
    cases hq : costB n
    · have HF : Hid (modelB n xs = false) := by show _ = _; simp [modelB, hq]
      simp only [hq] at HQ
      clear hr hq
      go_wp2_with fail
      refine (HQ.out _).mono ?_
      rintro e w1 ⟨rfl, rfl⟩
      go_wp2_with fail
      go_ret
      exact ⟨ret_boolI HF.out.symm, _, rfl⟩
    · simp only [hq] at HQ
      by_cases h60 : xs.length ≤ 60
      · have g6 : ((xs.length : Int) ≤ 60) = True := eq_true (by omega)
        have HF : Hid (modelB n xs = true) := by show _ = _; simp [modelB, hok.out, h60, hq]
        clear h60 hr hq
        go_wp2_with fail
        refine (HQ.out _).mono ?_
        rintro e w1 ⟨rfl, rfl⟩
        go_wp2_with fail
        go_ret
        exact ⟨ret_boolI HF.out.symm, _, rfl⟩
      · have g6 : ((xs.length : Int) ≤ 60) = False := eq_false (by omega)
        have HF : Hid (modelB n xs = false) := by show _ = _; simp [modelB, h60]
        clear h60 hr hq
        go_wp2_with fail
        refine (HQ.out _).mono ?_
        rintro e w1 ⟨rfl, rfl⟩
        go_wp2_with fail
        go_ret
        exact ⟨ret_boolI HF.out.symm, _, rfl⟩
end Go.Proofs.YtkfadfddhbpngaaGreat
