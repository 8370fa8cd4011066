/- The order of bigrams, in the program. Conditions: none. -/
import Derived.Test.YtkfadfddhbpngaaGreatCmpz
import Derived.Test.YtkfadfddhbpngaaGreatSeBz
namespace Go.Proofs.YtkfadfddhbpngaaGreat
open Go Go.RowKit
theorem pa184_1 (l : List Value) (i : Nat) (a : Value) : l.toArray.setIfInBounds i a = (l.set i a).toArray := List.setIfInBounds_toArray ..
theorem pb184_1 (a b : Value) (l : List Value) : (a :: l).set 0 b = b :: l := List.set_cons_zero ..
theorem pc184_1 (a b : Value) (l : List Value) (n : Nat) : (a :: l).set (n + 1) b = a :: l.set n b := List.set_cons_succ ..
theorem tk184_1 {P : Program} {md : Region.Mode} {ops : Array Oper} {Q : Exit → Act → World → Prop} {S : World → Prop} {i : Nat} {oi : Oper} {v : Value} {fuel : Nat} {listed : Array Bool} {a : Act} {w : World} (hi : ops[i]? = some oi)
    (hs : (Region.noSelect ops && (Region.free md ops listed i && (Region.ready md ops listed).contains i)) = true) (hQ : ∀ c a w, Q (.panic c) (a.put oi.dst v) w → Q (.panic c) a w) (hy : YieldsIf P ops S oi v a) (hS : S w)
    (h : wpAnyH P md ops Q S fuel (listed.setIfInBounds i true) (a.put oi.dst v) w) : wpAnyH P md ops Q S (fuel + 1) listed a w := by
  simp only [Bool.and_eq_true] at hs
  exact wpAnyH_take hi hs.1 hs.2.1 hs.2.2 hQ hy hS h
abbrev zo184_1_0 : Oper := { dst := some 5, op := Go.Op.fieldAddr 186 (Go.Operand.tmp 2) 0, type := 0, pos := "l18_language.go:35", after := #[], guard := none }
abbrev zo184_1_1 : Oper := { dst := some 6, op := Go.Op.load 9 (Go.Operand.tmp 5), type := 9, pos := "l18_language.go:35", after := #[{ on := 0, ground := Go.Ground.data }], guard := none }
abbrev zo184_1_2 : Oper := { dst := some 7, op := Go.Op.fieldAddr 186 (Go.Operand.tmp 3) 0, type := 0, pos := "l18_language.go:35", after := #[], guard := none }
abbrev zo184_1_3 : Oper := { dst := some 8, op := Go.Op.load 9 (Go.Operand.tmp 7), type := 9, pos := "l18_language.go:35", after := #[{ on := 2, ground := Go.Ground.data }], guard := none }
abbrev zo184_1_4 : Oper := { dst := some 9, op := Go.Op.call { callee := Go.Callee.value (Go.Operand.func 219), args := #[Go.Operand.tmp 6, Go.Operand.tmp 8], argTypes := #[9, 9] }, type := 3, pos := "l18_language.go:35", after := #[{ on := 1, ground := Go.Ground.data }, { on := 3, ground := Go.Ground.data }], guard := none }
abbrev zo184_1_5 : Oper := { dst := some 10, op := Go.Op.fieldAddr 186 (Go.Operand.tmp 2) 1, type := 0, pos := "l18_language.go:35", after := #[], guard := none }
abbrev zo184_1_6 : Oper := { dst := some 11, op := Go.Op.load 9 (Go.Operand.tmp 10), type := 9, pos := "l18_language.go:35", after := #[{ on := 5, ground := Go.Ground.data }], guard := none }
abbrev zo184_1_7 : Oper := { dst := some 12, op := Go.Op.fieldAddr 186 (Go.Operand.tmp 3) 1, type := 0, pos := "l18_language.go:35", after := #[], guard := none }
abbrev zo184_1_8 : Oper := { dst := some 13, op := Go.Op.load 9 (Go.Operand.tmp 12), type := 9, pos := "l18_language.go:35", after := #[{ on := 7, ground := Go.Ground.data }], guard := none }
abbrev zo184_1_9 : Oper := { dst := some 14, op := Go.Op.call { callee := Go.Callee.value (Go.Operand.func 219), args := #[Go.Operand.tmp 11, Go.Operand.tmp 13], argTypes := #[9, 9] }, type := 3, pos := "l18_language.go:35", after := #[{ on := 6, ground := Go.Ground.data }, { on := 8, ground := Go.Ground.data }, { on := 4, ground := Go.Ground.chain }], guard := none }
abbrev zo184_1_10 : Oper := { dst := some 15, op := Go.Op.buildSlice 291 2 #[(0, Go.Operand.tmp 9), (1, Go.Operand.tmp 14)], type := 291, pos := "l18_language.go:35", after := #[{ on := 4, ground := Go.Ground.data }, { on := 9, ground := Go.Ground.data }], guard := none }
abbrev zo184_1_11 : Oper := { dst := some 16, op := Go.Op.call { callee := Go.Callee.value (Go.Operand.func 218), args := #[Go.Operand.tmp 15], argTypes := #[291] }, type := 3, pos := "l18_language.go:35", after := #[{ on := 10, ground := Go.Ground.data }, { on := 9, ground := Go.Ground.chain }], guard := none }
abbrev zo184_1_12 : Oper := { dst := some 4, op := Go.Op.assign (Go.Operand.tmp 16), type := 3, pos := "l18_language.go:35", after := #[{ on := 11, ground := Go.Ground.data }, { on := 11, ground := Go.Ground.chain }, { on := 0, ground := Go.Ground.phase }, { on := 1, ground := Go.Ground.phase }, { on := 2, ground := Go.Ground.phase }, { on := 3, ground := Go.Ground.phase }, { on := 4, ground := Go.Ground.phase }, { on := 5, ground := Go.Ground.phase }, { on := 6, ground := Go.Ground.phase }, { on := 7, ground := Go.Ground.phase }, { on := 8, ground := Go.Ground.phase }, { on := 9, ground := Go.Ground.phase }, { on := 10, ground := Go.Ground.phase }, { on := 11, ground := Go.Ground.phase }], guard := none }

set_option maxRecDepth 100000 in
set_option maxHeartbeats 1000000 in
theorem impl_compareBigrams_c (x y : PBigram) (w : World) : Calls Tryz.prog 184 #[.agg #[.string x.first, .string x.second, .int .i64 x.cost], .agg #[.string y.first, .string y.second, .int .i64 y.cost]] w fun e w' => e = .returned (.int .i64 (cmpC (bigKey x) (bigKey y))) ∧ Grw w w' := by
  obtain ⟨a, b, n⟩ := x
  obtain ⟨c, d, m⟩ := y
  dsimp only [bigKey, cmpC]
  have HC1 := Lib.hid (Compare_c a c)
  have HC2 := Lib.hid (Compare_c b d)
  generalize cmpF a c = r1 at HC1 ⊢
  generalize cmpF b d = r2 at HC2 ⊢
  obtain ⟨r, hr⟩ : ∃ r, (if r1 ≠ 0 then r1 else r2) = r := ⟨_, rfl⟩
  rw [hr]
  have HR := Lib.hid hr
  clear hr
  have GW := Lib.hid (((Grw.refl w).alloc (.cells #[.string a, .string b, .int .i64 n] 186)).alloc (.cells #[.string c, .string d, .int .i64 m] 186))
  have R1 := (Row.new w 186 #[.string a, .string b, .int .i64 n]).alloc (.cells #[.string c, .string d, .int .i64 m] 186)
  have R2 := Row.new (w.alloc (.cells #[.string a, .string b, .int .i64 n] 186)) 186 #[.string c, .string d, .int .i64 m]
  rw [World.size_alloc] at R2
  go_enter Tryz.func184, Tryz.ntmps184
  go_wp2_with fail
  generalize (w.alloc (.cells #[.string a, .string b, .int .i64 n] 186)).alloc (.cells #[.string c, .string d, .int .i64 m] 186) = w2 at *
  have p0 := R1.cell' (i := 0) rfl
  have p1 := R1.cell' (i := 1) rfl
  have q0 := R2.cell' (i := 0) rfl
  have q1 := R2.cell' (i := 1) rfl
  have hS : (fun w' : World => w'.cell? ⟨w.heap.size, 0, none⟩ = some (.string a) ∧ w'.cell? ⟨w.heap.size, 1, none⟩ = some (.string b) ∧ w'.cell? ⟨w.heap.size + 1, 0, none⟩ = some (.string c) ∧ w'.cell? ⟨w.heap.size + 1, 1, none⟩ = some (.string d)) w2.drew := ⟨p0, p1, q0, q1⟩
  refine wp_region_held_drew (S := fun w' : World => w'.cell? ⟨w.heap.size, 0, none⟩ = some (.string a) ∧ w'.cell? ⟨w.heap.size, 1, none⟩ = some (.string b) ∧ w'.cell? ⟨w.heap.size + 1, 0, none⟩ = some (.string c) ∧ w'.cell? ⟨w.heap.size + 1, 1, none⟩ = some (.string d)) (by kernel_rfl) hS (fun _ => ?_)
  refine tk184_1 (i := 0) (oi := zo184_1_0) (v := ?_) rfl (by kernel_rfl) (fun _ _ _ h => h) (Or.inl ⟨rfl, ?_⟩) hS ?_
  rotate_left
  · (intro w' hS'; (try dsimp only at hS'); dsimp only [zo184_1_0]; go_simp; try with_reducible rfl)
  simp only [Act.put, pa184_1, pb184_1, pc184_1]
  refine tk184_1 (i := 1) (oi := zo184_1_1) (v := ?_) rfl (by kernel_rfl) (fun _ _ _ h => h) (Or.inl ⟨rfl, ?_⟩) hS ?_
  rotate_left
  · (intro w' hS'; (try dsimp only at hS'); dsimp only [zo184_1_1]; go_simp; try with_reducible rfl)
  simp only [Act.put, pa184_1, pb184_1, pc184_1]
  refine tk184_1 (i := 2) (oi := zo184_1_2) (v := ?_) rfl (by kernel_rfl) (fun _ _ _ h => h) (Or.inl ⟨rfl, ?_⟩) hS ?_
  rotate_left
  · (intro w' hS'; (try dsimp only at hS'); dsimp only [zo184_1_2]; go_simp; try with_reducible rfl)
  simp only [Act.put, pa184_1, pb184_1, pc184_1]
  refine tk184_1 (i := 3) (oi := zo184_1_3) (v := ?_) rfl (by kernel_rfl) (fun _ _ _ h => h) (Or.inl ⟨rfl, ?_⟩) hS ?_
  rotate_left
  · (intro w' hS'; (try dsimp only at hS'); dsimp only [zo184_1_3]; go_simp; try with_reducible rfl)
  simp only [Act.put, pa184_1, pb184_1, pc184_1]
  refine take_call (i := 4) (oi := zo184_1_4) rfl (by kernel_rfl) (by kernel_rfl) (by kernel_rfl) (fun _ _ _ h => h) 219 #[Go.Operand.tmp 6, Go.Operand.tmp 8] _ rfl rfl #[.string a, .string c] Tryz.call219 (by go_simp) (fun w => HC1.out w) hS ?_
  simp only [Act.put, pa184_1, pb184_1, pc184_1]
  refine tk184_1 (i := 5) (oi := zo184_1_5) (v := ?_) rfl (by kernel_rfl) (fun _ _ _ h => h) (Or.inl ⟨rfl, ?_⟩) hS ?_
  rotate_left
  · (intro w' hS'; (try dsimp only at hS'); dsimp only [zo184_1_5]; go_simp; try with_reducible rfl)
  simp only [Act.put, pa184_1, pb184_1, pc184_1]
  refine tk184_1 (i := 6) (oi := zo184_1_6) (v := ?_) rfl (by kernel_rfl) (fun _ _ _ h => h) (Or.inl ⟨rfl, ?_⟩) hS ?_
  rotate_left
  · (intro w' hS'; (try dsimp only at hS'); dsimp only [zo184_1_6]; go_simp; try with_reducible rfl)
  simp only [Act.put, pa184_1, pb184_1, pc184_1]
  refine tk184_1 (i := 7) (oi := zo184_1_7) (v := ?_) rfl (by kernel_rfl) (fun _ _ _ h => h) (Or.inl ⟨rfl, ?_⟩) hS ?_
  rotate_left
  · (intro w' hS'; (try dsimp only at hS'); dsimp only [zo184_1_7]; go_simp; try with_reducible rfl)
  simp only [Act.put, pa184_1, pb184_1, pc184_1]
  refine tk184_1 (i := 8) (oi := zo184_1_8) (v := ?_) rfl (by kernel_rfl) (fun _ _ _ h => h) (Or.inl ⟨rfl, ?_⟩) hS ?_
  rotate_left
  · (intro w' hS'; (try dsimp only at hS'); dsimp only [zo184_1_8]; go_simp; try with_reducible rfl)
  simp only [Act.put, pa184_1, pb184_1, pc184_1]
  refine take_call (i := 9) (oi := zo184_1_9) rfl (by kernel_rfl) (by kernel_rfl) (by kernel_rfl) (fun _ _ _ h => h) 219 #[Go.Operand.tmp 11, Go.Operand.tmp 13] _ rfl rfl #[.string b, .string d] Tryz.call219 (by go_simp) (fun w => HC2.out w) hS ?_
  simp only [Act.put, pa184_1, pb184_1, pc184_1]
  refine wpAnyH_ready (rs := [10]) (by kernel_rfl) (by simp) ?_
  refine AllReadyH.cons (o := zo184_1_10) rfl (fun K hK => ?_) .nil
  go_simp
  have R3 := Row.new w2.drew 3 #[.int .i64 r1, .int .i64 r2]
  have GW3 := Lib.hid (GW.out.drew.alloc (.cells #[.int .i64 r1, .int .i64 r2] 3))
  replace hS := and_intro4 (((R1.drew).alloc (.cells #[.int .i64 r1, .int .i64 r2] 3)).cell' (i := 0) rfl) (((R1.drew).alloc (.cells #[.int .i64 r1, .int .i64 r2] 3)).cell' (i := 1) rfl) (((R2.drew).alloc (.cells #[.int .i64 r1, .int .i64 r2] 3)).cell' (i := 0) rfl) (((R2.drew).alloc (.cells #[.int .i64 r1, .int .i64 r2] 3)).cell' (i := 1) rfl)
  refine hK.out _ _ hS (fun _ => ?_)
  clear hK K
  have RO := Or_c r1 r2 _ R3
  rw [HR.out] at RO
  refine wpAnyH_ready (rs := [11]) (by kernel_rfl) (by simp) ?_
  refine AllReadyH.cons (o := zo184_1_11) rfl (fun K hK => ?_) .nil
  refine step_call 218 #[Go.Operand.tmp 15] _ rfl rfl #[.slice (some ⟨w2.heap.size, 0, none⟩) 2 2] Tryz.call218 (by go_simp) RO ?_
  rintro e w1 ⟨rfl, rfl⟩
  refine ⟨_, rfl, ?_⟩
  refine hK.out _ _ ?_ (fun hHeld => ?_)
  · exact hS
  clear hK K hHeld
  simp only [Act.put, pa184_1, pb184_1, pc184_1]
  refine tk184_1 (i := 12) (oi := zo184_1_12) (v := ?_) rfl (by kernel_rfl) (fun _ _ _ h => h) (Or.inl ⟨rfl, ?_⟩) hS ?_
  rotate_left
  · (intro w' hS'; (try dsimp only at hS'); dsimp only [zo184_1_12]; go_simp; try with_reducible rfl)
  simp only [Act.put, pa184_1, pb184_1, pc184_1]
  refine wpAnyH_done (by kernel_rfl) ?_ _
  go_wp2_with fail
  go_ret
  exact ⟨rfl, GW3.out⟩
end Go.Proofs.YtkfadfddhbpngaaGreat
