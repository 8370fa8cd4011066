/- The comparison of confusions: cmp.Compare, cmp.Or and the program's closure. Conditions: none. -/
import Derived.Test.YtelkggafmnckoaaConf
import Derived.Test.YtelkggafmnckoaaTyConf
import Derived.Test.YtelkggafmnckoaaTakeCall
import Derived.Test.YtelkggafmnckoaaRow
import Derived.Laws.Cover1
import Derived.Sort.Grow
namespace Go.Proofs.Ytelkggafmnckoaa
open Go Go.RowKit

/-- New blocks and draws alone. -/
def Grw (w w' : World) : Prop := ∃ q os, w' = Sort.grow (w.drewN q) os
theorem Grw.refl (w : World) : Grw w w := ⟨0, #[], by rw [Sort.grow_empty]; rfl⟩
theorem Grw.alloc {w w' : World} (h : Grw w w') (o : Obj) : Grw w (w'.alloc o) := by
  obtain ⟨q, os, rfl⟩ := h
  exact ⟨q, os ++ #[o], by rw [Sort.alloc_eq_grow, Sort.grow_grow]⟩
theorem Grw.drewN {w w' : World} (h : Grw w w') (n : Nat) : Grw w (w'.drewN n) := by
  obtain ⟨q, os, rfl⟩ := h
  exact ⟨q + n, os, by rw [← World.drewN_drewN]; rfl⟩
theorem Grw.drew {w w' : World} (h : Grw w w') : Grw w w'.drew := h.drewN 1
theorem Grw.below {w w' : World} (h : Grw w w') : Below w.heap.size w w' := by
  obtain ⟨q, os, rfl⟩ := h
  refine ⟨rfl, rfl, rfl, ?_, fun i hi => ?_⟩
  · show w.heap.size ≤ (w.heap ++ os).size
    simp
  · show (w.heap ++ os)[i]? = w.heap[i]?
    rw [Array.getElem?_append_left hi]
theorem str_self (s : ByteArray) : (s.toList != s.toList) = false := by simp
theorem isNaN_c (s : ByteArray) (w : World) : Calls Try.prog 72 #[.string s] w fun e w' => e = .returned (.bool false) ∧ w' = w := by
  go_enter Try.func72, Try.ntmps72
  go_wp2_with fail
  go_ret
  exact ⟨by simp, rfl⟩
theorem Compare_c (a b : ByteArray) (w : World) : Calls Try.prog 58 #[.string a, .string b] w fun e w' => e = .returned (.int .i64 (cmpF a b)) ∧ w' = w := by
  have Ca := Lib.hid (isNaN_c a)
  have Cb := Lib.hid (isNaN_c b)
  have hc := bLess_sto.cases a b
  unfold bLess at hc
  rcases hc with ⟨h1, h2, h3, h4⟩ | rfl | ⟨h1, h2, h3, h4⟩
  · have HE : Hid (cmpF a b = -1) := by show _ = _; unfold cmpF bLess; rw [h1]; rfl
    clear h2 h3 h4
    go_enter Try.func58, Try.ntmps58
    go_wp2_with fail
    refine (Ca.out _).mono ?_
    rintro e w1 ⟨rfl, rfl⟩
    go_wp2_with fail
    refine (Cb.out _).mono ?_
    rintro e w1 ⟨rfl, rfl⟩
    go_wp2_with fail
    go_ret
    exact ⟨by rw [HE.out]; rfl, rfl⟩
  · have h1 := bl_irr a.toList
    have HE : Hid (cmpF a a = 0) := by show _ = _; unfold cmpF bLess; rw [h1]; rfl
    go_enter Try.func58, Try.ntmps58
    go_wp2_with fail
    refine (Ca.out _).mono ?_
    rintro e w1 ⟨rfl, rfl⟩
    go_wp2_with fail
    refine (Cb.out _).mono ?_
    rintro e w1 ⟨rfl, rfl⟩
    go_wp2_with fail
    go_ret
    exact ⟨by rw [HE.out]; rfl, rfl⟩
  · have HE : Hid (cmpF a b = 1) := by show _ = _; unfold cmpF bLess; rw [h1, h2]; rfl
    have h5 : (a.toList == b.toList) = false := by rw [str_eq]; simpa using h3
    clear h2 h3 h4
    go_enter Try.func58, Try.ntmps58
    go_wp2_with fail
    refine (Ca.out _).mono ?_
    rintro e w1 ⟨rfl, rfl⟩
    go_wp2_with fail
    refine (Cb.out _).mono ?_
    rintro e w1 ⟨rfl, rfl⟩
    go_wp2_with fail
    go_ret
    exact ⟨by rw [HE.out]; rfl, rfl⟩
set_option maxRecDepth 100000 in
theorem Or_c {g : Nat} {e : TypeId} (a b : Int) (w : World) (h : Row w g e [.int .i64 a, .int .i64 b]) :
    Calls Try.prog 57 #[.slice (some ⟨g, 0, none⟩) 2 2] w fun e w' => e = .returned (.int .i64 (if a ≠ 0 then a else b)) ∧ w' = w := by
  have c0 := h.cell' (i := 0) rfl
  have c1 := h.cell' (i := 1) rfl
  go_enter Try.func57, Try.ntmps57
  go_wp2_with fail
  go_loop [5, 8] (fun s i => ∃ k : Nat, (k = 0 ∨ k = 1 ∧ a = 0 ∨ k = 2 ∧ a = 0 ∧ b = 0) ∧ i = .int .i64 k) (fun _ i => 2 - (intOf i).toNat)
  case atStart => exact ⟨0, .inl rfl, rfl⟩
  case round =>
    obtain ⟨k, hk, rfl⟩ := hrel
    rcases hk with rfl | ⟨rfl, rfl⟩ | ⟨rfl, rfl, rfl⟩
    · by_cases h0 : a = 0
      · subst h0
        go_wp2_with fail
        go_round
        case rel => exact ⟨1, by simp, by first | rfl | go_num⟩
        case measure => simp [intOf]
      · have g0 : (a != 0) = true := by simp [h0]
        go_wp2_with fail
        go_ret
        exact ⟨by simp [h0], rfl⟩
    · by_cases h0 : b = 0
      · subst h0
        go_wp2_with fail
        go_round
        case rel => exact ⟨2, by simp, by first | rfl | go_num⟩
        case measure => simp [intOf]
      · have g0 : (b != 0) = true := by simp [h0]
        go_wp2_with fail
        go_ret
        exact ⟨by simp, rfl⟩
    · go_wp2_with fail
      go_ret
      exact ⟨by simp, rfl⟩
theorem and_intro4 {a b c d : Prop} (h1 : a) (h2 : b) (h3 : c) (h4 : d) : a ∧ b ∧ c ∧ d := ⟨h1, h2, h3, h4⟩
def confKey (s : PConf) : CKey := (s.want, s.got)
set_option maxRecDepth 100000 in
set_option maxHeartbeats 1000000 in
theorem closure_c (x y : PConf) (w : World) : Calls Try.prog 56 #[.agg #[.string x.want, .string x.got, .int .i64 x.count], .agg #[.string y.want, .string y.got, .int .i64 y.count]] w fun e w' => e = .returned (.int .i64 (cmpC (confKey x) (confKey y))) ∧ Grw w w' := by
  obtain ⟨a, b, n⟩ := x
  obtain ⟨c, d, m⟩ := y
  dsimp only [confKey, cmpC]
  have HC1 := Lib.hid (Compare_c a c)
  have HC2 := Lib.hid (Compare_c b d)
  generalize cmpF a c = r1 at HC1 ⊢
  generalize cmpF b d = r2 at HC2 ⊢
  obtain ⟨r, hr⟩ : ∃ r, (if r1 ≠ 0 then r1 else r2) = r := ⟨_, rfl⟩
  rw [hr]
  have HR := Lib.hid hr
  clear hr
  have GW := Lib.hid (((Grw.refl w).alloc (.cells #[.string a, .string b, .int .i64 n] 55)).alloc (.cells #[.string c, .string d, .int .i64 m] 55))
  have R1 := (Row.new w 55 #[.string a, .string b, .int .i64 n]).alloc (.cells #[.string c, .string d, .int .i64 m] 55)
  have R2 := Row.new (w.alloc (.cells #[.string a, .string b, .int .i64 n] 55)) 55 #[.string c, .string d, .int .i64 m]
  rw [World.size_alloc] at R2
  go_enter Try.func56, Try.ntmps56
  go_wp2_with fail
  generalize (w.alloc (.cells #[.string a, .string b, .int .i64 n] 55)).alloc (.cells #[.string c, .string d, .int .i64 m] 55) = w2 at *
  have p0 := R1.cell' (i := 0) rfl
  have p1 := R1.cell' (i := 1) rfl
  have q0 := R2.cell' (i := 0) rfl
  have q1 := R2.cell' (i := 1) rfl
  have hS : (fun w' : World => w'.cell? ⟨w.heap.size, 0, none⟩ = some (.string a) ∧ w'.cell? ⟨w.heap.size, 1, none⟩ = some (.string b) ∧ w'.cell? ⟨w.heap.size + 1, 0, none⟩ = some (.string c) ∧ w'.cell? ⟨w.heap.size + 1, 1, none⟩ = some (.string d)) w2.drew := ⟨p0, p1, q0, q1⟩
  refine wp_region_held_drew (S := fun w' : World => w'.cell? ⟨w.heap.size, 0, none⟩ = some (.string a) ∧ w'.cell? ⟨w.heap.size, 1, none⟩ = some (.string b) ∧ w'.cell? ⟨w.heap.size + 1, 0, none⟩ = some (.string c) ∧ w'.cell? ⟨w.heap.size + 1, 1, none⟩ = some (.string d)) (by kernel_rfl) hS (fun _ => ?_)
  refine wpAnyH_take (i := 0) (oi := { dst := some 5, op := Go.Op.fieldAddr 55 (Go.Operand.tmp 2) 0, type := 0, pos := "l25_evaluate.go:225", after := #[], guard := none }) (v := ?_) rfl (by kernel_rfl) (by kernel_rfl) (by kernel_rfl) (fun _ _ _ h => h) (Or.inl ⟨rfl, ?_⟩) hS ?_
  rotate_left
  · (intro w' hS'; (try dsimp only at hS'); go_simp; try with_reducible rfl)
  simp only [Act.put, List.setIfInBounds_toArray, List.set_cons_zero, List.set_cons_succ]
  refine wpAnyH_take (i := 1) (oi := { dst := some 6, op := Go.Op.load 9 (Go.Operand.tmp 5), type := 9, pos := "l25_evaluate.go:225", after := #[{ on := 0, ground := Go.Ground.data }], guard := none }) (v := ?_) rfl (by kernel_rfl) (by kernel_rfl) (by kernel_rfl) (fun _ _ _ h => h) (Or.inl ⟨rfl, ?_⟩) hS ?_
  rotate_left
  · (intro w' hS'; (try dsimp only at hS'); go_simp; try with_reducible rfl)
  simp only [Act.put, List.setIfInBounds_toArray, List.set_cons_zero, List.set_cons_succ]
  refine wpAnyH_take (i := 2) (oi := { dst := some 7, op := Go.Op.fieldAddr 55 (Go.Operand.tmp 3) 0, type := 0, pos := "l25_evaluate.go:225", after := #[], guard := none }) (v := ?_) rfl (by kernel_rfl) (by kernel_rfl) (by kernel_rfl) (fun _ _ _ h => h) (Or.inl ⟨rfl, ?_⟩) hS ?_
  rotate_left
  · (intro w' hS'; (try dsimp only at hS'); go_simp; try with_reducible rfl)
  simp only [Act.put, List.setIfInBounds_toArray, List.set_cons_zero, List.set_cons_succ]
  refine wpAnyH_take (i := 3) (oi := { dst := some 8, op := Go.Op.load 9 (Go.Operand.tmp 7), type := 9, pos := "l25_evaluate.go:225", after := #[{ on := 2, ground := Go.Ground.data }], guard := none }) (v := ?_) rfl (by kernel_rfl) (by kernel_rfl) (by kernel_rfl) (fun _ _ _ h => h) (Or.inl ⟨rfl, ?_⟩) hS ?_
  rotate_left
  · (intro w' hS'; (try dsimp only at hS'); go_simp; try with_reducible rfl)
  simp only [Act.put, List.setIfInBounds_toArray, List.set_cons_zero, List.set_cons_succ]
  refine take_call (i := 4) (oi := { dst := some 9, op := Go.Op.call { callee := Go.Callee.value (Go.Operand.func 58), args := #[Go.Operand.tmp 6, Go.Operand.tmp 8], argTypes := #[9, 9] }, type := 3, pos := "l25_evaluate.go:225", after := #[{ on := 1, ground := Go.Ground.data }, { on := 3, ground := Go.Ground.data }], guard := none }) rfl (by kernel_rfl) (by kernel_rfl) (by kernel_rfl) (fun _ _ _ h => h) 58 #[Go.Operand.tmp 6, Go.Operand.tmp 8] _ rfl rfl #[.string a, .string c] Try.call58 (by go_simp) (fun w => HC1.out w) hS ?_
  simp only [Act.put, List.setIfInBounds_toArray, List.set_cons_zero, List.set_cons_succ]
  refine wpAnyH_take (i := 5) (oi := { dst := some 10, op := Go.Op.fieldAddr 55 (Go.Operand.tmp 2) 1, type := 0, pos := "l25_evaluate.go:225", after := #[], guard := none }) (v := ?_) rfl (by kernel_rfl) (by kernel_rfl) (by kernel_rfl) (fun _ _ _ h => h) (Or.inl ⟨rfl, ?_⟩) hS ?_
  rotate_left
  · (intro w' hS'; (try dsimp only at hS'); go_simp; try with_reducible rfl)
  simp only [Act.put, List.setIfInBounds_toArray, List.set_cons_zero, List.set_cons_succ]
  refine wpAnyH_take (i := 6) (oi := { dst := some 11, op := Go.Op.load 9 (Go.Operand.tmp 10), type := 9, pos := "l25_evaluate.go:225", after := #[{ on := 5, ground := Go.Ground.data }], guard := none }) (v := ?_) rfl (by kernel_rfl) (by kernel_rfl) (by kernel_rfl) (fun _ _ _ h => h) (Or.inl ⟨rfl, ?_⟩) hS ?_
  rotate_left
  · (intro w' hS'; (try dsimp only at hS'); go_simp; try with_reducible rfl)
  simp only [Act.put, List.setIfInBounds_toArray, List.set_cons_zero, List.set_cons_succ]
  refine wpAnyH_take (i := 7) (oi := { dst := some 12, op := Go.Op.fieldAddr 55 (Go.Operand.tmp 3) 1, type := 0, pos := "l25_evaluate.go:225", after := #[], guard := none }) (v := ?_) rfl (by kernel_rfl) (by kernel_rfl) (by kernel_rfl) (fun _ _ _ h => h) (Or.inl ⟨rfl, ?_⟩) hS ?_
  rotate_left
  · (intro w' hS'; (try dsimp only at hS'); go_simp; try with_reducible rfl)
  simp only [Act.put, List.setIfInBounds_toArray, List.set_cons_zero, List.set_cons_succ]
  refine wpAnyH_take (i := 8) (oi := { dst := some 13, op := Go.Op.load 9 (Go.Operand.tmp 12), type := 9, pos := "l25_evaluate.go:225", after := #[{ on := 7, ground := Go.Ground.data }], guard := none }) (v := ?_) rfl (by kernel_rfl) (by kernel_rfl) (by kernel_rfl) (fun _ _ _ h => h) (Or.inl ⟨rfl, ?_⟩) hS ?_
  rotate_left
  · (intro w' hS'; (try dsimp only at hS'); go_simp; try with_reducible rfl)
  simp only [Act.put, List.setIfInBounds_toArray, List.set_cons_zero, List.set_cons_succ]
  refine take_call (i := 9) (oi := { dst := some 14, op := Go.Op.call { callee := Go.Callee.value (Go.Operand.func 58), args := #[Go.Operand.tmp 11, Go.Operand.tmp 13], argTypes := #[9, 9] }, type := 3, pos := "l25_evaluate.go:225", after := #[{ on := 6, ground := Go.Ground.data }, { on := 8, ground := Go.Ground.data }, { on := 4, ground := Go.Ground.chain }], guard := none }) rfl (by kernel_rfl) (by kernel_rfl) (by kernel_rfl) (fun _ _ _ h => h) 58 #[Go.Operand.tmp 11, Go.Operand.tmp 13] _ rfl rfl #[.string b, .string d] Try.call58 (by go_simp) (fun w => HC2.out w) hS ?_
  simp only [Act.put, List.setIfInBounds_toArray, List.set_cons_zero, List.set_cons_succ]
  refine wpAnyH_ready (rs := [10]) (by kernel_rfl) (by simp) ?_
  refine AllReadyH.cons (o := { dst := some 15, op := Go.Op.buildSlice 99 2 #[(0, Go.Operand.tmp 9), (1, Go.Operand.tmp 14)], type := 99, pos := "l25_evaluate.go:225", after := #[{ on := 4, ground := Go.Ground.data }, { on := 9, ground := Go.Ground.data }], guard := none }) rfl (fun K hK => ?_) .nil
  go_simp
  have R3 := Row.new w2.drew 3 #[.int .i64 r1, .int .i64 r2]
  have GW3 := Lib.hid (GW.out.drew.alloc (.cells #[.int .i64 r1, .int .i64 r2] 3))
  replace hS := and_intro4 (((R1.drew).alloc (.cells #[.int .i64 r1, .int .i64 r2] 3)).cell' (i := 0) rfl) (((R1.drew).alloc (.cells #[.int .i64 r1, .int .i64 r2] 3)).cell' (i := 1) rfl) (((R2.drew).alloc (.cells #[.int .i64 r1, .int .i64 r2] 3)).cell' (i := 0) rfl) (((R2.drew).alloc (.cells #[.int .i64 r1, .int .i64 r2] 3)).cell' (i := 1) rfl)
  refine hK.out _ _ hS (fun _ => ?_)
  clear hK K
  have RO := Or_c r1 r2 _ R3
  rw [HR.out] at RO
  refine wpAnyH_ready (rs := [11]) (by kernel_rfl) (by simp) ?_
  refine AllReadyH.cons (o := { dst := some 16, op := Go.Op.call { callee := Go.Callee.value (Go.Operand.func 57), args := #[Go.Operand.tmp 15], argTypes := #[99] }, type := 3, pos := "l25_evaluate.go:225", after := #[{ on := 10, ground := Go.Ground.data }, { on := 9, ground := Go.Ground.chain }], guard := none }) rfl (fun K hK => ?_) .nil
  refine step_call 57 #[Go.Operand.tmp 15] _ rfl rfl #[.slice (some ⟨w2.heap.size, 0, none⟩) 2 2] Try.call57 (by go_simp) RO ?_
  rintro e w1 ⟨rfl, rfl⟩
  refine ⟨_, rfl, ?_⟩
  refine hK.out _ _ ?_ (fun hHeld => ?_)
  · exact hS
  clear hK K hHeld
  simp only [Act.put, List.setIfInBounds_toArray, List.set_cons_zero, List.set_cons_succ]
  refine wpAnyH_take (i := 12) (oi := { dst := some 4, op := Go.Op.assign (Go.Operand.tmp 16), type := 3, pos := "l25_evaluate.go:225", after := #[{ on := 11, ground := Go.Ground.data }, { on := 11, ground := Go.Ground.chain }, { on := 0, ground := Go.Ground.phase }, { on := 1, ground := Go.Ground.phase }, { on := 2, ground := Go.Ground.phase }, { on := 3, ground := Go.Ground.phase }, { on := 4, ground := Go.Ground.phase }, { on := 5, ground := Go.Ground.phase }, { on := 6, ground := Go.Ground.phase }, { on := 7, ground := Go.Ground.phase }, { on := 8, ground := Go.Ground.phase }, { on := 9, ground := Go.Ground.phase }, { on := 10, ground := Go.Ground.phase }, { on := 11, ground := Go.Ground.phase }], guard := none }) (v := ?_) rfl (by kernel_rfl) (by kernel_rfl) (by kernel_rfl) (fun _ _ _ h => h) (Or.inl ⟨rfl, ?_⟩) hS ?_
  rotate_left
  · (intro w' hS'; (try dsimp only at hS'); go_simp; try with_reducible rfl)
  simp only [Act.put, List.setIfInBounds_toArray, List.set_cons_zero, List.set_cons_succ]
  refine wpAnyH_done (by kernel_rfl) ?_ _
  go_wp2_with fail
  go_ret
  exact ⟨rfl, GW3.out⟩
end Go.Proofs.Ytelkggafmnckoaa
