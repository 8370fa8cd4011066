/- EventText of the program and of the reference. Conditions: none. -/
import Derived.Test.YtahoopmiipmgpaaDoorEvText
namespace Go.Proofs.YtahoopmiipmgpaaDoor
open Go Go.RowKit

/-- The library's table of powers of ten lies in memory. -/
def Tab (w : World) : Prop := Lib.TabIs Tryd.prog w "internal/strconv.uint64pow10" .u64 Lib.pow10Tab
theorem Tab.below {w w' : World} (h : Tab w) (hb : Below w.heap.size w w') : Tab w' := by
  unfold Tab Lib.TabIs World.var? at h ⊢
  cases hg : Tryd.prog.globalNamed "internal/strconv.uint64pow10" with
  | none => rw [hg] at h; cases h
  | some g =>
    rw [hg] at h
    simp only [Option.bind_some] at h ⊢
    have hlt : g < w.heap.size := by
      rcases Nat.lt_or_ge g w.heap.size with h' | h'
      · exact h'
      · rw [Array.getElem?_eq_none h'] at h; cases h
    rw [hb.block g hlt]
    exact h
theorem ret_strE {a b : ByteArray} (h : a = b) : Ending.returned (.string a) = .returned (.string b) := by rw [h]
set_option maxRecDepth 100000 in
set_option maxHeartbeats 2000000 in
theorem impl_EventText_c (e : PEvent) (w : World) (hT : Tab w) :
    Calls Tryd.prog 30 #[.agg #[.int .i64 e.kind, .int .i64 e.x, .int .i64 e.y, .int .i64 e.t]] w fun en w' => en = .returned (.string (evText e)) ∧ Below w.heap.size w w' := by
  have al : ∀ x : Obj, Below w.heap.size w (w.alloc x) := fun x => (Below.refl _ _).alloc (Nat.le_refl _) x
  have C := impl_possible_c e
  cases hp : possB e
  · rw [hp] at C
    have HC := Lib.hid C
    have hv : evText e = .empty := by simp [evText, hp]
    rw [hv]
    clear C hv hp hT
    go_enter Tryd.func30, Tryd.ntmps30
    go_wp2_with fail
    refine (HC.out _).mono ?_
    rintro en w1 ⟨rfl, rfl⟩
    go_wp2_with fail
    go_ret
    exact ⟨rfl, (al _).alloc (by simp) _⟩
  · rw [hp] at C
    have ht := possB_t hp
    have hxy := possB_xy hp
    have hk := possB_kind hp
    obtain ⟨kind, x, y, t⟩ := e
    dsimp only at ht hxy hk C ⊢
    obtain ⟨nx, rfl⟩ : ∃ n : Nat, x = (n : Int) := ⟨x.toNat, by omega⟩
    obtain ⟨ny, rfl⟩ : ∃ n : Nat, y = (n : Int) := ⟨y.toNat, by omega⟩
    obtain ⟨nt, rfl⟩ : ∃ n : Nat, t = (n : Int) := ⟨t.toNat, by omega⟩
    have hv : evText ⟨kind, nx, ny, nt⟩ = if kind = 1 ∨ kind = 2 then nameB kind ++ ⟨#[32]⟩ ++ decB nx ++ ⟨#[32]⟩ ++ decB ny ++ ⟨#[32]⟩ ++ decB nt else nameB kind ++ ⟨#[32]⟩ ++ decB nt := by
      rw [evText, if_pos hp]; simp
    rw [hv]
    have HC := Lib.hid C
    have zt := decB_size (n := nt) (by omega)
    have zx := decB_size (n := nx) (by omega)
    have zy := decB_size (n := ny) (by omega)
    have zn : (nameB kind).size ≤ 5 := by unfold nameB; (repeat' split) <;> decide
    have HN := Lib.hid (fun w' => impl_eventName_c kind w' hk)
    have HX := Lib.hid (fun w' (q : Tab w') => impl_Decimal_c nx w' (by omega) q)
    have HY := Lib.hid (fun w' (q : Tab w') => impl_Decimal_c ny w' (by omega) q)
    have HT := Lib.hid (fun w' (q : Tab w') => impl_Decimal_c nt w' (by omega) q)
    have R := (Row.new w 32 #[.int .i64 kind, .int .i64 (nx : Int), .int .i64 (ny : Int), .int .i64 (nt : Int)]).alloc (.cells #[.int .i64 kind, .int .i64 (nx : Int), .int .i64 (ny : Int), .int .i64 (nt : Int)] 32)
    have R2 := R.drew
    have T2 : Tab ((w.alloc (.cells #[.int .i64 kind, .int .i64 (nx : Int), .int .i64 (ny : Int), .int .i64 (nt : Int)] 32)).alloc (.cells #[.int .i64 kind, .int .i64 (nx : Int), .int .i64 (ny : Int), .int .i64 (nt : Int)] 32)).drew := (hT.below (al _)).below (((Below.refl _ _).alloc (Nat.le_refl _) _).drew)
    have b2 : Below w.heap.size w ((w.alloc (.cells #[.int .i64 kind, .int .i64 (nx : Int), .int .i64 (ny : Int), .int .i64 (nt : Int)] 32)).alloc (.cells #[.int .i64 kind, .int .i64 (nx : Int), .int .i64 (ny : Int), .int .i64 (nt : Int)] 32)).drew := ((al _).alloc (by simp) _).drew
    have c0 := R.cell' (i := 0) rfl
    have c1 := R.cell' (i := 1) rfl
    have c2 := R.cell' (i := 2) rfl
    have c3 := R.cell' (i := 3) rfl
    have y0 := R2.cell' (i := 0) rfl
    have y1 := R2.cell' (i := 1) rfl
    have y2 := R2.cell' (i := 2) rfl
    have y3 := R2.cell' (i := 3) rfl
    clear hv C hp ht hxy hT R al
    have s0 : (9223372036854775807 < (nameB kind).size + 1) = False := eq_false (by omega)
    have s1 : (9223372036854775807 < (nameB kind).size + 1 + (decB nx).size) = False := eq_false (by omega)
    have s2 : (9223372036854775807 < (nameB kind).size + 1 + (decB nx).size + 1) = False := eq_false (by omega)
    have s3 : (9223372036854775807 < (nameB kind).size + 1 + (decB nx).size + 1 + (decB ny).size) = False := eq_false (by omega)
    have s4 : (9223372036854775807 < (nameB kind).size + 1 + (decB nx).size + 1 + (decB ny).size + 1) = False := eq_false (by omega)
    have s5 : (9223372036854775807 < (nameB kind).size + 1 + (decB nx).size + 1 + (decB ny).size + 1 + (decB nt).size) = False := eq_false (by omega)
    have s7 : (9223372036854775807 < (nameB kind).size + 1 + (decB nt).size) = False := eq_false (by omega)
    rcases hk with (rfl | rfl) | (rfl | rfl)
    · rw [if_pos (by omega)]
      go_enter Tryd.func30, Tryd.ntmps30
      go_wp2_with fail
      refine (HC.out _).mono ?_
      rintro en w1 ⟨rfl, rfl⟩
      go_wp2_with fail
      have hS : (fun w' : World => w'.cell? ⟨w.heap.size, 0, none⟩ = some (.int .i64 1) ∧ w'.cell? ⟨w.heap.size, 1, none⟩ = some (.int .i64 (nx : Int)) ∧ w'.cell? ⟨w.heap.size, 2, none⟩ = some (.int .i64 (ny : Int)) ∧ w'.cell? ⟨w.heap.size, 3, none⟩ = some (.int .i64 (nt : Int))) ((w.alloc (.cells #[.int .i64 1, .int .i64 (nx : Int), .int .i64 (ny : Int), .int .i64 (nt : Int)] 32)).alloc (.cells #[.int .i64 1, .int .i64 (nx : Int), .int .i64 (ny : Int), .int .i64 (nt : Int)] 32)).drew := ⟨y0, y1, y2, y3⟩
      dsimp only at hS
      refine wp_region_held_drew (S := (fun w' : World => w'.cell? ⟨w.heap.size, 0, none⟩ = some (.int .i64 1) ∧ w'.cell? ⟨w.heap.size, 1, none⟩ = some (.int .i64 (nx : Int)) ∧ w'.cell? ⟨w.heap.size, 2, none⟩ = some (.int .i64 (ny : Int)) ∧ w'.cell? ⟨w.heap.size, 3, none⟩ = some (.int .i64 (nt : Int)))) (by kernel_rfl) hS (fun _ => ?_)
      refine wpAnyH_take (i := 0) (oi := { dst := some 14, op := Go.Op.fieldAddr 32 (Go.Operand.tmp 1) 0, type := 0, pos := "l26_sessions.go:265", after := #[], guard := none }) (v := ?_) rfl (by kernel_rfl) (by kernel_rfl) (by kernel_rfl) (fun _ _ _ h => h) (Or.inl ⟨rfl, ?_⟩) hS ?_
      rotate_left
      · (intro w' hS'; (try dsimp only at hS'); go_simp; try with_reducible rfl)
      simp only [Act.put, List.setIfInBounds_toArray, List.set_cons_zero, List.set_cons_succ]
      refine wpAnyH_take (i := 1) (oi := { dst := some 15, op := Go.Op.load 2 (Go.Operand.tmp 14), type := 2, pos := "l26_sessions.go:265", after := #[{ on := 0, ground := Go.Ground.data }], guard := none }) (v := ?_) rfl (by kernel_rfl) (by kernel_rfl) (by kernel_rfl) (fun _ _ _ h => h) (Or.inl ⟨rfl, ?_⟩) hS ?_
      rotate_left
      · (intro w' hS'; (try dsimp only at hS'); go_simp; try with_reducible rfl)
      simp only [Act.put, List.setIfInBounds_toArray, List.set_cons_zero, List.set_cons_succ]
      refine wpAnyH_take (i := 4) (oi := { dst := some 18, op := Go.Op.fieldAddr 32 (Go.Operand.tmp 1) 1, type := 0, pos := "l26_sessions.go:265", after := #[], guard := none }) (v := ?_) rfl (by kernel_rfl) (by kernel_rfl) (by kernel_rfl) (fun _ _ _ h => h) (Or.inl ⟨rfl, ?_⟩) hS ?_
      rotate_left
      · (intro w' hS'; (try dsimp only at hS'); go_simp; try with_reducible rfl)
      simp only [Act.put, List.setIfInBounds_toArray, List.set_cons_zero, List.set_cons_succ]
      refine wpAnyH_take (i := 5) (oi := { dst := some 19, op := Go.Op.load 2 (Go.Operand.tmp 18), type := 2, pos := "l26_sessions.go:265", after := #[{ on := 4, ground := Go.Ground.data }], guard := none }) (v := ?_) rfl (by kernel_rfl) (by kernel_rfl) (by kernel_rfl) (fun _ _ _ h => h) (Or.inl ⟨rfl, ?_⟩) hS ?_
      rotate_left
      · (intro w' hS'; (try dsimp only at hS'); go_simp; try with_reducible rfl)
      simp only [Act.put, List.setIfInBounds_toArray, List.set_cons_zero, List.set_cons_succ]
      refine wpAnyH_take (i := 9) (oi := { dst := some 23, op := Go.Op.fieldAddr 32 (Go.Operand.tmp 1) 2, type := 0, pos := "l26_sessions.go:265", after := #[], guard := none }) (v := ?_) rfl (by kernel_rfl) (by kernel_rfl) (by kernel_rfl) (fun _ _ _ h => h) (Or.inl ⟨rfl, ?_⟩) hS ?_
      rotate_left
      · (intro w' hS'; (try dsimp only at hS'); go_simp; try with_reducible rfl)
      simp only [Act.put, List.setIfInBounds_toArray, List.set_cons_zero, List.set_cons_succ]
      refine wpAnyH_take (i := 10) (oi := { dst := some 24, op := Go.Op.load 2 (Go.Operand.tmp 23), type := 2, pos := "l26_sessions.go:265", after := #[{ on := 9, ground := Go.Ground.data }], guard := none }) (v := ?_) rfl (by kernel_rfl) (by kernel_rfl) (by kernel_rfl) (fun _ _ _ h => h) (Or.inl ⟨rfl, ?_⟩) hS ?_
      rotate_left
      · (intro w' hS'; (try dsimp only at hS'); go_simp; try with_reducible rfl)
      simp only [Act.put, List.setIfInBounds_toArray, List.set_cons_zero, List.set_cons_succ]
      refine wpAnyH_take (i := 14) (oi := { dst := some 28, op := Go.Op.fieldAddr 32 (Go.Operand.tmp 1) 3, type := 0, pos := "l26_sessions.go:265", after := #[], guard := none }) (v := ?_) rfl (by kernel_rfl) (by kernel_rfl) (by kernel_rfl) (fun _ _ _ h => h) (Or.inl ⟨rfl, ?_⟩) hS ?_
      rotate_left
      · (intro w' hS'; (try dsimp only at hS'); go_simp; try with_reducible rfl)
      simp only [Act.put, List.setIfInBounds_toArray, List.set_cons_zero, List.set_cons_succ]
      refine wpAnyH_take (i := 15) (oi := { dst := some 29, op := Go.Op.load 2 (Go.Operand.tmp 28), type := 2, pos := "l26_sessions.go:265", after := #[{ on := 14, ground := Go.Ground.data }], guard := none }) (v := ?_) rfl (by kernel_rfl) (by kernel_rfl) (by kernel_rfl) (fun _ _ _ h => h) (Or.inl ⟨rfl, ?_⟩) hS ?_
      rotate_left
      · (intro w' hS'; (try dsimp only at hS'); go_simp; try with_reducible rfl)
      simp only [Act.put, List.setIfInBounds_toArray, List.set_cons_zero, List.set_cons_succ]
      refine wpAnyH_ready (rs := [2]) (by kernel_rfl) (by simp) ?_
      refine AllReadyH.cons (o := { dst := some 16, op := Go.Op.call { callee := Go.Callee.value (Go.Operand.func 28), args := #[Go.Operand.tmp 15], argTypes := #[2] }, type := 9, pos := "l26_sessions.go:265", after := #[{ on := 1, ground := Go.Ground.data }], guard := none }) rfl (fun K hK => ?_) .nil
      refine step_call 28 #[Go.Operand.tmp 15] _ rfl rfl #[.int .i64 1] Tryd.call28 (by go_simp) (HN.out _) ?_
      rintro en w3 ⟨rfl, bw3⟩
      refine ⟨_, rfl, ?_⟩
      replace R2 := R2.later bw3
      replace T2 := T2.below bw3
      replace b2 := bt b2 bw3
      replace hS : (fun w' : World => w'.cell? ⟨w.heap.size, 0, none⟩ = some (.int .i64 1) ∧ w'.cell? ⟨w.heap.size, 1, none⟩ = some (.int .i64 (nx : Int)) ∧ w'.cell? ⟨w.heap.size, 2, none⟩ = some (.int .i64 (ny : Int)) ∧ w'.cell? ⟨w.heap.size, 3, none⟩ = some (.int .i64 (nt : Int))) w3 := ⟨R2.cell' (i := 0) rfl, R2.cell' (i := 1) rfl, R2.cell' (i := 2) rfl, R2.cell' (i := 3) rfl⟩
      dsimp only at hS
      refine hK.out _ _ ?_ (fun hHeld => ?_)
      · exact hS
      clear hK K hHeld
      simp only [Act.put, List.setIfInBounds_toArray, List.set_cons_zero, List.set_cons_succ]
      refine wpAnyH_take (i := 3) (oi := { dst := some 17, op := Go.Op.binOp Go.BinOp.add 9 (Go.Operand.tmp 16) (Go.Operand.const (Go.Value.string { data := #[32] })) 9, type := 9, pos := "l26_sessions.go:265", after := #[{ on := 2, ground := Go.Ground.data }], guard := none }) (v := ?_) rfl (by kernel_rfl) (by kernel_rfl) (by kernel_rfl) (fun _ _ _ h => h) (Or.inl ⟨rfl, ?_⟩) hS ?_
      rotate_left
      · (intro w' hS'; (try dsimp only at hS'); go_simp; try with_reducible rfl)
      simp only [Act.put, List.setIfInBounds_toArray, List.set_cons_zero, List.set_cons_succ]
      refine wpAnyH_ready (rs := [6]) (by kernel_rfl) (by simp) ?_
      refine AllReadyH.cons (o := { dst := some 20, op := Go.Op.call { callee := Go.Callee.value (Go.Operand.func 53), args := #[Go.Operand.tmp 19], argTypes := #[2] }, type := 9, pos := "l26_sessions.go:265", after := #[{ on := 5, ground := Go.Ground.data }, { on := 2, ground := Go.Ground.chain }], guard := none }) rfl (fun K hK => ?_) .nil
      refine step_call 53 #[Go.Operand.tmp 19] _ rfl rfl #[.int .i64 (nx : Int)] Tryd.call53 (by go_simp) (HX.out _ T2) ?_
      rintro en w4 ⟨rfl, bw4⟩
      refine ⟨_, rfl, ?_⟩
      replace R2 := R2.later bw4
      replace T2 := T2.below bw4
      replace b2 := bt b2 bw4
      replace hS : (fun w' : World => w'.cell? ⟨w.heap.size, 0, none⟩ = some (.int .i64 1) ∧ w'.cell? ⟨w.heap.size, 1, none⟩ = some (.int .i64 (nx : Int)) ∧ w'.cell? ⟨w.heap.size, 2, none⟩ = some (.int .i64 (ny : Int)) ∧ w'.cell? ⟨w.heap.size, 3, none⟩ = some (.int .i64 (nt : Int))) w4 := ⟨R2.cell' (i := 0) rfl, R2.cell' (i := 1) rfl, R2.cell' (i := 2) rfl, R2.cell' (i := 3) rfl⟩
      dsimp only at hS
      refine hK.out _ _ ?_ (fun hHeld => ?_)
      · exact hS
      clear hK K hHeld
      simp only [Act.put, List.setIfInBounds_toArray, List.set_cons_zero, List.set_cons_succ]
      refine wpAnyH_take (i := 7) (oi := { dst := some 21, op := Go.Op.binOp Go.BinOp.add 9 (Go.Operand.tmp 17) (Go.Operand.tmp 20) 9, type := 9, pos := "l26_sessions.go:265", after := #[{ on := 3, ground := Go.Ground.data }, { on := 6, ground := Go.Ground.data }], guard := none }) (v := ?_) rfl (by kernel_rfl) (by kernel_rfl) (by kernel_rfl) (fun _ _ _ h => h) (Or.inl ⟨rfl, ?_⟩) hS ?_
      rotate_left
      · (intro w' hS'; (try dsimp only at hS'); go_simp; try with_reducible rfl)
      simp only [Act.put, List.setIfInBounds_toArray, List.set_cons_zero, List.set_cons_succ]
      refine wpAnyH_take (i := 8) (oi := { dst := some 22, op := Go.Op.binOp Go.BinOp.add 9 (Go.Operand.tmp 21) (Go.Operand.const (Go.Value.string { data := #[32] })) 9, type := 9, pos := "l26_sessions.go:265", after := #[{ on := 7, ground := Go.Ground.data }], guard := none }) (v := ?_) rfl (by kernel_rfl) (by kernel_rfl) (by kernel_rfl) (fun _ _ _ h => h) (Or.inl ⟨rfl, ?_⟩) hS ?_
      rotate_left
      · (intro w' hS'; (try dsimp only at hS'); go_simp; try with_reducible rfl)
      simp only [Act.put, List.setIfInBounds_toArray, List.set_cons_zero, List.set_cons_succ]
      refine wpAnyH_ready (rs := [11]) (by kernel_rfl) (by simp) ?_
      refine AllReadyH.cons (o := { dst := some 25, op := Go.Op.call { callee := Go.Callee.value (Go.Operand.func 53), args := #[Go.Operand.tmp 24], argTypes := #[2] }, type := 9, pos := "l26_sessions.go:265", after := #[{ on := 10, ground := Go.Ground.data }, { on := 6, ground := Go.Ground.chain }], guard := none }) rfl (fun K hK => ?_) .nil
      refine step_call 53 #[Go.Operand.tmp 24] _ rfl rfl #[.int .i64 (ny : Int)] Tryd.call53 (by go_simp) (HY.out _ T2) ?_
      rintro en w5 ⟨rfl, bw5⟩
      refine ⟨_, rfl, ?_⟩
      replace R2 := R2.later bw5
      replace T2 := T2.below bw5
      replace b2 := bt b2 bw5
      replace hS : (fun w' : World => w'.cell? ⟨w.heap.size, 0, none⟩ = some (.int .i64 1) ∧ w'.cell? ⟨w.heap.size, 1, none⟩ = some (.int .i64 (nx : Int)) ∧ w'.cell? ⟨w.heap.size, 2, none⟩ = some (.int .i64 (ny : Int)) ∧ w'.cell? ⟨w.heap.size, 3, none⟩ = some (.int .i64 (nt : Int))) w5 := ⟨R2.cell' (i := 0) rfl, R2.cell' (i := 1) rfl, R2.cell' (i := 2) rfl, R2.cell' (i := 3) rfl⟩
      dsimp only at hS
      refine hK.out _ _ ?_ (fun hHeld => ?_)
      · exact hS
      clear hK K hHeld
      simp only [Act.put, List.setIfInBounds_toArray, List.set_cons_zero, List.set_cons_succ]
      refine wpAnyH_take (i := 12) (oi := { dst := some 26, op := Go.Op.binOp Go.BinOp.add 9 (Go.Operand.tmp 22) (Go.Operand.tmp 25) 9, type := 9, pos := "l26_sessions.go:265", after := #[{ on := 8, ground := Go.Ground.data }, { on := 11, ground := Go.Ground.data }], guard := none }) (v := ?_) rfl (by kernel_rfl) (by kernel_rfl) (by kernel_rfl) (fun _ _ _ h => h) (Or.inl ⟨rfl, ?_⟩) hS ?_
      rotate_left
      · (intro w' hS'; (try dsimp only at hS'); go_simp; try with_reducible rfl)
      simp only [Act.put, List.setIfInBounds_toArray, List.set_cons_zero, List.set_cons_succ]
      refine wpAnyH_take (i := 13) (oi := { dst := some 27, op := Go.Op.binOp Go.BinOp.add 9 (Go.Operand.tmp 26) (Go.Operand.const (Go.Value.string { data := #[32] })) 9, type := 9, pos := "l26_sessions.go:265", after := #[{ on := 12, ground := Go.Ground.data }], guard := none }) (v := ?_) rfl (by kernel_rfl) (by kernel_rfl) (by kernel_rfl) (fun _ _ _ h => h) (Or.inl ⟨rfl, ?_⟩) hS ?_
      rotate_left
      · (intro w' hS'; (try dsimp only at hS'); go_simp; try with_reducible rfl)
      simp only [Act.put, List.setIfInBounds_toArray, List.set_cons_zero, List.set_cons_succ]
      refine wpAnyH_ready (rs := [16]) (by kernel_rfl) (by simp) ?_
      refine AllReadyH.cons (o := { dst := some 30, op := Go.Op.call { callee := Go.Callee.value (Go.Operand.func 53), args := #[Go.Operand.tmp 29], argTypes := #[2] }, type := 9, pos := "l26_sessions.go:265", after := #[{ on := 15, ground := Go.Ground.data }, { on := 11, ground := Go.Ground.chain }], guard := none }) rfl (fun K hK => ?_) .nil
      refine step_call 53 #[Go.Operand.tmp 29] _ rfl rfl #[.int .i64 (nt : Int)] Tryd.call53 (by go_simp) (HT.out _ T2) ?_
      rintro en w6 ⟨rfl, bw6⟩
      refine ⟨_, rfl, ?_⟩
      replace R2 := R2.later bw6
      replace T2 := T2.below bw6
      replace b2 := bt b2 bw6
      replace hS : (fun w' : World => w'.cell? ⟨w.heap.size, 0, none⟩ = some (.int .i64 1) ∧ w'.cell? ⟨w.heap.size, 1, none⟩ = some (.int .i64 (nx : Int)) ∧ w'.cell? ⟨w.heap.size, 2, none⟩ = some (.int .i64 (ny : Int)) ∧ w'.cell? ⟨w.heap.size, 3, none⟩ = some (.int .i64 (nt : Int))) w6 := ⟨R2.cell' (i := 0) rfl, R2.cell' (i := 1) rfl, R2.cell' (i := 2) rfl, R2.cell' (i := 3) rfl⟩
      dsimp only at hS
      refine hK.out _ _ ?_ (fun hHeld => ?_)
      · exact hS
      clear hK K hHeld
      simp only [Act.put, List.setIfInBounds_toArray, List.set_cons_zero, List.set_cons_succ]
      refine wpAnyH_take (i := 17) (oi := { dst := some 31, op := Go.Op.binOp Go.BinOp.add 9 (Go.Operand.tmp 27) (Go.Operand.tmp 30) 9, type := 9, pos := "l26_sessions.go:265", after := #[{ on := 13, ground := Go.Ground.data }, { on := 16, ground := Go.Ground.data }], guard := none }) (v := ?_) rfl (by kernel_rfl) (by kernel_rfl) (by kernel_rfl) (fun _ _ _ h => h) (Or.inl ⟨rfl, ?_⟩) hS ?_
      rotate_left
      · (intro w' hS'; (try dsimp only at hS'); go_simp; try with_reducible rfl)
      simp only [Act.put, List.setIfInBounds_toArray, List.set_cons_zero, List.set_cons_succ]
      refine wpAnyH_take (i := 18) (oi := { dst := some 2, op := Go.Op.assign (Go.Operand.tmp 31), type := 9, pos := "l26_sessions.go:265", after := #[{ on := 17, ground := Go.Ground.data }, { on := 16, ground := Go.Ground.chain }, { on := 0, ground := Go.Ground.phase }, { on := 1, ground := Go.Ground.phase }, { on := 2, ground := Go.Ground.phase }, { on := 3, ground := Go.Ground.phase }, { on := 4, ground := Go.Ground.phase }, { on := 5, ground := Go.Ground.phase }, { on := 6, ground := Go.Ground.phase }, { on := 7, ground := Go.Ground.phase }, { on := 8, ground := Go.Ground.phase }, { on := 9, ground := Go.Ground.phase }, { on := 10, ground := Go.Ground.phase }, { on := 11, ground := Go.Ground.phase }, { on := 12, ground := Go.Ground.phase }, { on := 13, ground := Go.Ground.phase }, { on := 14, ground := Go.Ground.phase }, { on := 15, ground := Go.Ground.phase }, { on := 16, ground := Go.Ground.phase }, { on := 17, ground := Go.Ground.phase }], guard := none }) (v := ?_) rfl (by kernel_rfl) (by kernel_rfl) (by kernel_rfl) (fun _ _ _ h => h) (Or.inl ⟨rfl, ?_⟩) hS ?_
      rotate_left
      · (intro w' hS'; (try dsimp only at hS'); go_simp; try with_reducible rfl)
      simp only [Act.put, List.setIfInBounds_toArray, List.set_cons_zero, List.set_cons_succ]
      refine wpAnyH_done (by kernel_rfl) ?_ _
      go_wp2_with fail
      go_ret
      exact ⟨rfl, b2⟩
    · rw [if_pos (by omega)]
      go_enter Tryd.func30, Tryd.ntmps30
      go_wp2_with fail
      refine (HC.out _).mono ?_
      rintro en w1 ⟨rfl, rfl⟩
      go_wp2_with fail
      have hS : (fun w' : World => w'.cell? ⟨w.heap.size, 0, none⟩ = some (.int .i64 2) ∧ w'.cell? ⟨w.heap.size, 1, none⟩ = some (.int .i64 (nx : Int)) ∧ w'.cell? ⟨w.heap.size, 2, none⟩ = some (.int .i64 (ny : Int)) ∧ w'.cell? ⟨w.heap.size, 3, none⟩ = some (.int .i64 (nt : Int))) ((w.alloc (.cells #[.int .i64 2, .int .i64 (nx : Int), .int .i64 (ny : Int), .int .i64 (nt : Int)] 32)).alloc (.cells #[.int .i64 2, .int .i64 (nx : Int), .int .i64 (ny : Int), .int .i64 (nt : Int)] 32)).drew := ⟨y0, y1, y2, y3⟩
      dsimp only at hS
      refine wp_region_held_drew (S := (fun w' : World => w'.cell? ⟨w.heap.size, 0, none⟩ = some (.int .i64 2) ∧ w'.cell? ⟨w.heap.size, 1, none⟩ = some (.int .i64 (nx : Int)) ∧ w'.cell? ⟨w.heap.size, 2, none⟩ = some (.int .i64 (ny : Int)) ∧ w'.cell? ⟨w.heap.size, 3, none⟩ = some (.int .i64 (nt : Int)))) (by kernel_rfl) hS (fun _ => ?_)
      refine wpAnyH_take (i := 0) (oi := { dst := some 14, op := Go.Op.fieldAddr 32 (Go.Operand.tmp 1) 0, type := 0, pos := "l26_sessions.go:265", after := #[], guard := none }) (v := ?_) rfl (by kernel_rfl) (by kernel_rfl) (by kernel_rfl) (fun _ _ _ h => h) (Or.inl ⟨rfl, ?_⟩) hS ?_
      rotate_left
      · (intro w' hS'; (try dsimp only at hS'); go_simp; try with_reducible rfl)
      simp only [Act.put, List.setIfInBounds_toArray, List.set_cons_zero, List.set_cons_succ]
      refine wpAnyH_take (i := 1) (oi := { dst := some 15, op := Go.Op.load 2 (Go.Operand.tmp 14), type := 2, pos := "l26_sessions.go:265", after := #[{ on := 0, ground := Go.Ground.data }], guard := none }) (v := ?_) rfl (by kernel_rfl) (by kernel_rfl) (by kernel_rfl) (fun _ _ _ h => h) (Or.inl ⟨rfl, ?_⟩) hS ?_
      rotate_left
      · (intro w' hS'; (try dsimp only at hS'); go_simp; try with_reducible rfl)
      simp only [Act.put, List.setIfInBounds_toArray, List.set_cons_zero, List.set_cons_succ]
      refine wpAnyH_take (i := 4) (oi := { dst := some 18, op := Go.Op.fieldAddr 32 (Go.Operand.tmp 1) 1, type := 0, pos := "l26_sessions.go:265", after := #[], guard := none }) (v := ?_) rfl (by kernel_rfl) (by kernel_rfl) (by kernel_rfl) (fun _ _ _ h => h) (Or.inl ⟨rfl, ?_⟩) hS ?_
      rotate_left
      · (intro w' hS'; (try dsimp only at hS'); go_simp; try with_reducible rfl)
      simp only [Act.put, List.setIfInBounds_toArray, List.set_cons_zero, List.set_cons_succ]
      refine wpAnyH_take (i := 5) (oi := { dst := some 19, op := Go.Op.load 2 (Go.Operand.tmp 18), type := 2, pos := "l26_sessions.go:265", after := #[{ on := 4, ground := Go.Ground.data }], guard := none }) (v := ?_) rfl (by kernel_rfl) (by kernel_rfl) (by kernel_rfl) (fun _ _ _ h => h) (Or.inl ⟨rfl, ?_⟩) hS ?_
      rotate_left
      · (intro w' hS'; (try dsimp only at hS'); go_simp; try with_reducible rfl)
      simp only [Act.put, List.setIfInBounds_toArray, List.set_cons_zero, List.set_cons_succ]
      refine wpAnyH_take (i := 9) (oi := { dst := some 23, op := Go.Op.fieldAddr 32 (Go.Operand.tmp 1) 2, type := 0, pos := "l26_sessions.go:265", after := #[], guard := none }) (v := ?_) rfl (by kernel_rfl) (by kernel_rfl) (by kernel_rfl) (fun _ _ _ h => h) (Or.inl ⟨rfl, ?_⟩) hS ?_
      rotate_left
      · (intro w' hS'; (try dsimp only at hS'); go_simp; try with_reducible rfl)
      simp only [Act.put, List.setIfInBounds_toArray, List.set_cons_zero, List.set_cons_succ]
      refine wpAnyH_take (i := 10) (oi := { dst := some 24, op := Go.Op.load 2 (Go.Operand.tmp 23), type := 2, pos := "l26_sessions.go:265", after := #[{ on := 9, ground := Go.Ground.data }], guard := none }) (v := ?_) rfl (by kernel_rfl) (by kernel_rfl) (by kernel_rfl) (fun _ _ _ h => h) (Or.inl ⟨rfl, ?_⟩) hS ?_
      rotate_left
      · (intro w' hS'; (try dsimp only at hS'); go_simp; try with_reducible rfl)
      simp only [Act.put, List.setIfInBounds_toArray, List.set_cons_zero, List.set_cons_succ]
      refine wpAnyH_take (i := 14) (oi := { dst := some 28, op := Go.Op.fieldAddr 32 (Go.Operand.tmp 1) 3, type := 0, pos := "l26_sessions.go:265", after := #[], guard := none }) (v := ?_) rfl (by kernel_rfl) (by kernel_rfl) (by kernel_rfl) (fun _ _ _ h => h) (Or.inl ⟨rfl, ?_⟩) hS ?_
      rotate_left
      · (intro w' hS'; (try dsimp only at hS'); go_simp; try with_reducible rfl)
      simp only [Act.put, List.setIfInBounds_toArray, List.set_cons_zero, List.set_cons_succ]
      refine wpAnyH_take (i := 15) (oi := { dst := some 29, op := Go.Op.load 2 (Go.Operand.tmp 28), type := 2, pos := "l26_sessions.go:265", after := #[{ on := 14, ground := Go.Ground.data }], guard := none }) (v := ?_) rfl (by kernel_rfl) (by kernel_rfl) (by kernel_rfl) (fun _ _ _ h => h) (Or.inl ⟨rfl, ?_⟩) hS ?_
      rotate_left
      · (intro w' hS'; (try dsimp only at hS'); go_simp; try with_reducible rfl)
      simp only [Act.put, List.setIfInBounds_toArray, List.set_cons_zero, List.set_cons_succ]
      refine wpAnyH_ready (rs := [2]) (by kernel_rfl) (by simp) ?_
      refine AllReadyH.cons (o := { dst := some 16, op := Go.Op.call { callee := Go.Callee.value (Go.Operand.func 28), args := #[Go.Operand.tmp 15], argTypes := #[2] }, type := 9, pos := "l26_sessions.go:265", after := #[{ on := 1, ground := Go.Ground.data }], guard := none }) rfl (fun K hK => ?_) .nil
      refine step_call 28 #[Go.Operand.tmp 15] _ rfl rfl #[.int .i64 2] Tryd.call28 (by go_simp) (HN.out _) ?_
      rintro en w3 ⟨rfl, bw3⟩
      refine ⟨_, rfl, ?_⟩
      replace R2 := R2.later bw3
      replace T2 := T2.below bw3
      replace b2 := bt b2 bw3
      replace hS : (fun w' : World => w'.cell? ⟨w.heap.size, 0, none⟩ = some (.int .i64 2) ∧ w'.cell? ⟨w.heap.size, 1, none⟩ = some (.int .i64 (nx : Int)) ∧ w'.cell? ⟨w.heap.size, 2, none⟩ = some (.int .i64 (ny : Int)) ∧ w'.cell? ⟨w.heap.size, 3, none⟩ = some (.int .i64 (nt : Int))) w3 := ⟨R2.cell' (i := 0) rfl, R2.cell' (i := 1) rfl, R2.cell' (i := 2) rfl, R2.cell' (i := 3) rfl⟩
      dsimp only at hS
      refine hK.out _ _ ?_ (fun hHeld => ?_)
      · exact hS
      clear hK K hHeld
      simp only [Act.put, List.setIfInBounds_toArray, List.set_cons_zero, List.set_cons_succ]
      refine wpAnyH_take (i := 3) (oi := { dst := some 17, op := Go.Op.binOp Go.BinOp.add 9 (Go.Operand.tmp 16) (Go.Operand.const (Go.Value.string { data := #[32] })) 9, type := 9, pos := "l26_sessions.go:265", after := #[{ on := 2, ground := Go.Ground.data }], guard := none }) (v := ?_) rfl (by kernel_rfl) (by kernel_rfl) (by kernel_rfl) (fun _ _ _ h => h) (Or.inl ⟨rfl, ?_⟩) hS ?_
      rotate_left
      · (intro w' hS'; (try dsimp only at hS'); go_simp; try with_reducible rfl)
      simp only [Act.put, List.setIfInBounds_toArray, List.set_cons_zero, List.set_cons_succ]
      refine wpAnyH_ready (rs := [6]) (by kernel_rfl) (by simp) ?_
      refine AllReadyH.cons (o := { dst := some 20, op := Go.Op.call { callee := Go.Callee.value (Go.Operand.func 53), args := #[Go.Operand.tmp 19], argTypes := #[2] }, type := 9, pos := "l26_sessions.go:265", after := #[{ on := 5, ground := Go.Ground.data }, { on := 2, ground := Go.Ground.chain }], guard := none }) rfl (fun K hK => ?_) .nil
      refine step_call 53 #[Go.Operand.tmp 19] _ rfl rfl #[.int .i64 (nx : Int)] Tryd.call53 (by go_simp) (HX.out _ T2) ?_
      rintro en w4 ⟨rfl, bw4⟩
      refine ⟨_, rfl, ?_⟩
      replace R2 := R2.later bw4
      replace T2 := T2.below bw4
      replace b2 := bt b2 bw4
      replace hS : (fun w' : World => w'.cell? ⟨w.heap.size, 0, none⟩ = some (.int .i64 2) ∧ w'.cell? ⟨w.heap.size, 1, none⟩ = some (.int .i64 (nx : Int)) ∧ w'.cell? ⟨w.heap.size, 2, none⟩ = some (.int .i64 (ny : Int)) ∧ w'.cell? ⟨w.heap.size, 3, none⟩ = some (.int .i64 (nt : Int))) w4 := ⟨R2.cell' (i := 0) rfl, R2.cell' (i := 1) rfl, R2.cell' (i := 2) rfl, R2.cell' (i := 3) rfl⟩
      dsimp only at hS
      refine hK.out _ _ ?_ (fun hHeld => ?_)
      · exact hS
      clear hK K hHeld
      simp only [Act.put, List.setIfInBounds_toArray, List.set_cons_zero, List.set_cons_succ]
      refine wpAnyH_take (i := 7) (oi := { dst := some 21, op := Go.Op.binOp Go.BinOp.add 9 (Go.Operand.tmp 17) (Go.Operand.tmp 20) 9, type := 9, pos := "l26_sessions.go:265", after := #[{ on := 3, ground := Go.Ground.data }, { on := 6, ground := Go.Ground.data }], guard := none }) (v := ?_) rfl (by kernel_rfl) (by kernel_rfl) (by kernel_rfl) (fun _ _ _ h => h) (Or.inl ⟨rfl, ?_⟩) hS ?_
      rotate_left
      · (intro w' hS'; (try dsimp only at hS'); go_simp; try with_reducible rfl)
      simp only [Act.put, List.setIfInBounds_toArray, List.set_cons_zero, List.set_cons_succ]
      refine wpAnyH_take (i := 8) (oi := { dst := some 22, op := Go.Op.binOp Go.BinOp.add 9 (Go.Operand.tmp 21) (Go.Operand.const (Go.Value.string { data := #[32] })) 9, type := 9, pos := "l26_sessions.go:265", after := #[{ on := 7, ground := Go.Ground.data }], guard := none }) (v := ?_) rfl (by kernel_rfl) (by kernel_rfl) (by kernel_rfl) (fun _ _ _ h => h) (Or.inl ⟨rfl, ?_⟩) hS ?_
      rotate_left
      · (intro w' hS'; (try dsimp only at hS'); go_simp; try with_reducible rfl)
      simp only [Act.put, List.setIfInBounds_toArray, List.set_cons_zero, List.set_cons_succ]
      refine wpAnyH_ready (rs := [11]) (by kernel_rfl) (by simp) ?_
      refine AllReadyH.cons (o := { dst := some 25, op := Go.Op.call { callee := Go.Callee.value (Go.Operand.func 53), args := #[Go.Operand.tmp 24], argTypes := #[2] }, type := 9, pos := "l26_sessions.go:265", after := #[{ on := 10, ground := Go.Ground.data }, { on := 6, ground := Go.Ground.chain }], guard := none }) rfl (fun K hK => ?_) .nil
      refine step_call 53 #[Go.Operand.tmp 24] _ rfl rfl #[.int .i64 (ny : Int)] Tryd.call53 (by go_simp) (HY.out _ T2) ?_
      rintro en w5 ⟨rfl, bw5⟩
      refine ⟨_, rfl, ?_⟩
      replace R2 := R2.later bw5
      replace T2 := T2.below bw5
      replace b2 := bt b2 bw5
      replace hS : (fun w' : World => w'.cell? ⟨w.heap.size, 0, none⟩ = some (.int .i64 2) ∧ w'.cell? ⟨w.heap.size, 1, none⟩ = some (.int .i64 (nx : Int)) ∧ w'.cell? ⟨w.heap.size, 2, none⟩ = some (.int .i64 (ny : Int)) ∧ w'.cell? ⟨w.heap.size, 3, none⟩ = some (.int .i64 (nt : Int))) w5 := ⟨R2.cell' (i := 0) rfl, R2.cell' (i := 1) rfl, R2.cell' (i := 2) rfl, R2.cell' (i := 3) rfl⟩
      dsimp only at hS
      refine hK.out _ _ ?_ (fun hHeld => ?_)
      · exact hS
      clear hK K hHeld
      simp only [Act.put, List.setIfInBounds_toArray, List.set_cons_zero, List.set_cons_succ]
      refine wpAnyH_take (i := 12) (oi := { dst := some 26, op := Go.Op.binOp Go.BinOp.add 9 (Go.Operand.tmp 22) (Go.Operand.tmp 25) 9, type := 9, pos := "l26_sessions.go:265", after := #[{ on := 8, ground := Go.Ground.data }, { on := 11, ground := Go.Ground.data }], guard := none }) (v := ?_) rfl (by kernel_rfl) (by kernel_rfl) (by kernel_rfl) (fun _ _ _ h => h) (Or.inl ⟨rfl, ?_⟩) hS ?_
      rotate_left
      · (intro w' hS'; (try dsimp only at hS'); go_simp; try with_reducible rfl)
      simp only [Act.put, List.setIfInBounds_toArray, List.set_cons_zero, List.set_cons_succ]
      refine wpAnyH_take (i := 13) (oi := { dst := some 27, op := Go.Op.binOp Go.BinOp.add 9 (Go.Operand.tmp 26) (Go.Operand.const (Go.Value.string { data := #[32] })) 9, type := 9, pos := "l26_sessions.go:265", after := #[{ on := 12, ground := Go.Ground.data }], guard := none }) (v := ?_) rfl (by kernel_rfl) (by kernel_rfl) (by kernel_rfl) (fun _ _ _ h => h) (Or.inl ⟨rfl, ?_⟩) hS ?_
      rotate_left
      · (intro w' hS'; (try dsimp only at hS'); go_simp; try with_reducible rfl)
      simp only [Act.put, List.setIfInBounds_toArray, List.set_cons_zero, List.set_cons_succ]
      refine wpAnyH_ready (rs := [16]) (by kernel_rfl) (by simp) ?_
      refine AllReadyH.cons (o := { dst := some 30, op := Go.Op.call { callee := Go.Callee.value (Go.Operand.func 53), args := #[Go.Operand.tmp 29], argTypes := #[2] }, type := 9, pos := "l26_sessions.go:265", after := #[{ on := 15, ground := Go.Ground.data }, { on := 11, ground := Go.Ground.chain }], guard := none }) rfl (fun K hK => ?_) .nil
      refine step_call 53 #[Go.Operand.tmp 29] _ rfl rfl #[.int .i64 (nt : Int)] Tryd.call53 (by go_simp) (HT.out _ T2) ?_
      rintro en w6 ⟨rfl, bw6⟩
      refine ⟨_, rfl, ?_⟩
      replace R2 := R2.later bw6
      replace T2 := T2.below bw6
      replace b2 := bt b2 bw6
      replace hS : (fun w' : World => w'.cell? ⟨w.heap.size, 0, none⟩ = some (.int .i64 2) ∧ w'.cell? ⟨w.heap.size, 1, none⟩ = some (.int .i64 (nx : Int)) ∧ w'.cell? ⟨w.heap.size, 2, none⟩ = some (.int .i64 (ny : Int)) ∧ w'.cell? ⟨w.heap.size, 3, none⟩ = some (.int .i64 (nt : Int))) w6 := ⟨R2.cell' (i := 0) rfl, R2.cell' (i := 1) rfl, R2.cell' (i := 2) rfl, R2.cell' (i := 3) rfl⟩
      dsimp only at hS
      refine hK.out _ _ ?_ (fun hHeld => ?_)
      · exact hS
      clear hK K hHeld
      simp only [Act.put, List.setIfInBounds_toArray, List.set_cons_zero, List.set_cons_succ]
      refine wpAnyH_take (i := 17) (oi := { dst := some 31, op := Go.Op.binOp Go.BinOp.add 9 (Go.Operand.tmp 27) (Go.Operand.tmp 30) 9, type := 9, pos := "l26_sessions.go:265", after := #[{ on := 13, ground := Go.Ground.data }, { on := 16, ground := Go.Ground.data }], guard := none }) (v := ?_) rfl (by kernel_rfl) (by kernel_rfl) (by kernel_rfl) (fun _ _ _ h => h) (Or.inl ⟨rfl, ?_⟩) hS ?_
      rotate_left
      · (intro w' hS'; (try dsimp only at hS'); go_simp; try with_reducible rfl)
      simp only [Act.put, List.setIfInBounds_toArray, List.set_cons_zero, List.set_cons_succ]
      refine wpAnyH_take (i := 18) (oi := { dst := some 2, op := Go.Op.assign (Go.Operand.tmp 31), type := 9, pos := "l26_sessions.go:265", after := #[{ on := 17, ground := Go.Ground.data }, { on := 16, ground := Go.Ground.chain }, { on := 0, ground := Go.Ground.phase }, { on := 1, ground := Go.Ground.phase }, { on := 2, ground := Go.Ground.phase }, { on := 3, ground := Go.Ground.phase }, { on := 4, ground := Go.Ground.phase }, { on := 5, ground := Go.Ground.phase }, { on := 6, ground := Go.Ground.phase }, { on := 7, ground := Go.Ground.phase }, { on := 8, ground := Go.Ground.phase }, { on := 9, ground := Go.Ground.phase }, { on := 10, ground := Go.Ground.phase }, { on := 11, ground := Go.Ground.phase }, { on := 12, ground := Go.Ground.phase }, { on := 13, ground := Go.Ground.phase }, { on := 14, ground := Go.Ground.phase }, { on := 15, ground := Go.Ground.phase }, { on := 16, ground := Go.Ground.phase }, { on := 17, ground := Go.Ground.phase }], guard := none }) (v := ?_) rfl (by kernel_rfl) (by kernel_rfl) (by kernel_rfl) (fun _ _ _ h => h) (Or.inl ⟨rfl, ?_⟩) hS ?_
      rotate_left
      · (intro w' hS'; (try dsimp only at hS'); go_simp; try with_reducible rfl)
      simp only [Act.put, List.setIfInBounds_toArray, List.set_cons_zero, List.set_cons_succ]
      refine wpAnyH_done (by kernel_rfl) ?_ _
      go_wp2_with fail
      go_ret
      exact ⟨rfl, b2⟩
    · rw [if_neg (by omega)]
      go_enter Tryd.func30, Tryd.ntmps30
      go_wp2_with fail
      refine (HC.out _).mono ?_
      rintro en w1 ⟨rfl, rfl⟩
      go_wp2_with fail
      have hS : (fun w' : World => w'.cell? ⟨w.heap.size, 0, none⟩ = some (.int .i64 3) ∧ w'.cell? ⟨w.heap.size, 1, none⟩ = some (.int .i64 (nx : Int)) ∧ w'.cell? ⟨w.heap.size, 2, none⟩ = some (.int .i64 (ny : Int)) ∧ w'.cell? ⟨w.heap.size, 3, none⟩ = some (.int .i64 (nt : Int))) ((w.alloc (.cells #[.int .i64 3, .int .i64 (nx : Int), .int .i64 (ny : Int), .int .i64 (nt : Int)] 32)).alloc (.cells #[.int .i64 3, .int .i64 (nx : Int), .int .i64 (ny : Int), .int .i64 (nt : Int)] 32)).drew := ⟨y0, y1, y2, y3⟩
      dsimp only at hS
      refine wp_region_held_drew (S := (fun w' : World => w'.cell? ⟨w.heap.size, 0, none⟩ = some (.int .i64 3) ∧ w'.cell? ⟨w.heap.size, 1, none⟩ = some (.int .i64 (nx : Int)) ∧ w'.cell? ⟨w.heap.size, 2, none⟩ = some (.int .i64 (ny : Int)) ∧ w'.cell? ⟨w.heap.size, 3, none⟩ = some (.int .i64 (nt : Int)))) (by kernel_rfl) hS (fun _ => ?_)
      refine wpAnyH_take (i := 0) (oi := { dst := some 32, op := Go.Op.fieldAddr 32 (Go.Operand.tmp 1) 0, type := 0, pos := "l26_sessions.go:267", after := #[], guard := none }) (v := ?_) rfl (by kernel_rfl) (by kernel_rfl) (by kernel_rfl) (fun _ _ _ h => h) (Or.inl ⟨rfl, ?_⟩) hS ?_
      rotate_left
      · (intro w' hS'; (try dsimp only at hS'); go_simp; try with_reducible rfl)
      simp only [Act.put, List.setIfInBounds_toArray, List.set_cons_zero, List.set_cons_succ]
      refine wpAnyH_take (i := 1) (oi := { dst := some 33, op := Go.Op.load 2 (Go.Operand.tmp 32), type := 2, pos := "l26_sessions.go:267", after := #[{ on := 0, ground := Go.Ground.data }], guard := none }) (v := ?_) rfl (by kernel_rfl) (by kernel_rfl) (by kernel_rfl) (fun _ _ _ h => h) (Or.inl ⟨rfl, ?_⟩) hS ?_
      rotate_left
      · (intro w' hS'; (try dsimp only at hS'); go_simp; try with_reducible rfl)
      simp only [Act.put, List.setIfInBounds_toArray, List.set_cons_zero, List.set_cons_succ]
      refine wpAnyH_take (i := 4) (oi := { dst := some 36, op := Go.Op.fieldAddr 32 (Go.Operand.tmp 1) 3, type := 0, pos := "l26_sessions.go:267", after := #[], guard := none }) (v := ?_) rfl (by kernel_rfl) (by kernel_rfl) (by kernel_rfl) (fun _ _ _ h => h) (Or.inl ⟨rfl, ?_⟩) hS ?_
      rotate_left
      · (intro w' hS'; (try dsimp only at hS'); go_simp; try with_reducible rfl)
      simp only [Act.put, List.setIfInBounds_toArray, List.set_cons_zero, List.set_cons_succ]
      refine wpAnyH_take (i := 5) (oi := { dst := some 37, op := Go.Op.load 2 (Go.Operand.tmp 36), type := 2, pos := "l26_sessions.go:267", after := #[{ on := 4, ground := Go.Ground.data }], guard := none }) (v := ?_) rfl (by kernel_rfl) (by kernel_rfl) (by kernel_rfl) (fun _ _ _ h => h) (Or.inl ⟨rfl, ?_⟩) hS ?_
      rotate_left
      · (intro w' hS'; (try dsimp only at hS'); go_simp; try with_reducible rfl)
      simp only [Act.put, List.setIfInBounds_toArray, List.set_cons_zero, List.set_cons_succ]
      refine wpAnyH_ready (rs := [2]) (by kernel_rfl) (by simp) ?_
      refine AllReadyH.cons (o := { dst := some 34, op := Go.Op.call { callee := Go.Callee.value (Go.Operand.func 28), args := #[Go.Operand.tmp 33], argTypes := #[2] }, type := 9, pos := "l26_sessions.go:267", after := #[{ on := 1, ground := Go.Ground.data }], guard := none }) rfl (fun K hK => ?_) .nil
      refine step_call 28 #[Go.Operand.tmp 33] _ rfl rfl #[.int .i64 3] Tryd.call28 (by go_simp) (HN.out _) ?_
      rintro en w3 ⟨rfl, bw3⟩
      refine ⟨_, rfl, ?_⟩
      replace R2 := R2.later bw3
      replace T2 := T2.below bw3
      replace b2 := bt b2 bw3
      replace hS : (fun w' : World => w'.cell? ⟨w.heap.size, 0, none⟩ = some (.int .i64 3) ∧ w'.cell? ⟨w.heap.size, 1, none⟩ = some (.int .i64 (nx : Int)) ∧ w'.cell? ⟨w.heap.size, 2, none⟩ = some (.int .i64 (ny : Int)) ∧ w'.cell? ⟨w.heap.size, 3, none⟩ = some (.int .i64 (nt : Int))) w3 := ⟨R2.cell' (i := 0) rfl, R2.cell' (i := 1) rfl, R2.cell' (i := 2) rfl, R2.cell' (i := 3) rfl⟩
      dsimp only at hS
      refine hK.out _ _ ?_ (fun hHeld => ?_)
      · exact hS
      clear hK K hHeld
      simp only [Act.put, List.setIfInBounds_toArray, List.set_cons_zero, List.set_cons_succ]
      refine wpAnyH_take (i := 3) (oi := { dst := some 35, op := Go.Op.binOp Go.BinOp.add 9 (Go.Operand.tmp 34) (Go.Operand.const (Go.Value.string { data := #[32] })) 9, type := 9, pos := "l26_sessions.go:267", after := #[{ on := 2, ground := Go.Ground.data }], guard := none }) (v := ?_) rfl (by kernel_rfl) (by kernel_rfl) (by kernel_rfl) (fun _ _ _ h => h) (Or.inl ⟨rfl, ?_⟩) hS ?_
      rotate_left
      · (intro w' hS'; (try dsimp only at hS'); go_simp; try with_reducible rfl)
      simp only [Act.put, List.setIfInBounds_toArray, List.set_cons_zero, List.set_cons_succ]
      refine wpAnyH_ready (rs := [6]) (by kernel_rfl) (by simp) ?_
      refine AllReadyH.cons (o := { dst := some 38, op := Go.Op.call { callee := Go.Callee.value (Go.Operand.func 53), args := #[Go.Operand.tmp 37], argTypes := #[2] }, type := 9, pos := "l26_sessions.go:267", after := #[{ on := 5, ground := Go.Ground.data }, { on := 2, ground := Go.Ground.chain }], guard := none }) rfl (fun K hK => ?_) .nil
      refine step_call 53 #[Go.Operand.tmp 37] _ rfl rfl #[.int .i64 (nt : Int)] Tryd.call53 (by go_simp) (HT.out _ T2) ?_
      rintro en w4 ⟨rfl, bw4⟩
      refine ⟨_, rfl, ?_⟩
      replace R2 := R2.later bw4
      replace T2 := T2.below bw4
      replace b2 := bt b2 bw4
      replace hS : (fun w' : World => w'.cell? ⟨w.heap.size, 0, none⟩ = some (.int .i64 3) ∧ w'.cell? ⟨w.heap.size, 1, none⟩ = some (.int .i64 (nx : Int)) ∧ w'.cell? ⟨w.heap.size, 2, none⟩ = some (.int .i64 (ny : Int)) ∧ w'.cell? ⟨w.heap.size, 3, none⟩ = some (.int .i64 (nt : Int))) w4 := ⟨R2.cell' (i := 0) rfl, R2.cell' (i := 1) rfl, R2.cell' (i := 2) rfl, R2.cell' (i := 3) rfl⟩
      dsimp only at hS
      refine hK.out _ _ ?_ (fun hHeld => ?_)
      · exact hS
      clear hK K hHeld
      simp only [Act.put, List.setIfInBounds_toArray, List.set_cons_zero, List.set_cons_succ]
      refine wpAnyH_take (i := 7) (oi := { dst := some 39, op := Go.Op.binOp Go.BinOp.add 9 (Go.Operand.tmp 35) (Go.Operand.tmp 38) 9, type := 9, pos := "l26_sessions.go:267", after := #[{ on := 3, ground := Go.Ground.data }, { on := 6, ground := Go.Ground.data }], guard := none }) (v := ?_) rfl (by kernel_rfl) (by kernel_rfl) (by kernel_rfl) (fun _ _ _ h => h) (Or.inl ⟨rfl, ?_⟩) hS ?_
      rotate_left
      · (intro w' hS'; (try dsimp only at hS'); go_simp; try with_reducible rfl)
      simp only [Act.put, List.setIfInBounds_toArray, List.set_cons_zero, List.set_cons_succ]
      refine wpAnyH_take (i := 8) (oi := { dst := some 2, op := Go.Op.assign (Go.Operand.tmp 39), type := 9, pos := "l26_sessions.go:267", after := #[{ on := 7, ground := Go.Ground.data }, { on := 6, ground := Go.Ground.chain }, { on := 0, ground := Go.Ground.phase }, { on := 1, ground := Go.Ground.phase }, { on := 2, ground := Go.Ground.phase }, { on := 3, ground := Go.Ground.phase }, { on := 4, ground := Go.Ground.phase }, { on := 5, ground := Go.Ground.phase }, { on := 6, ground := Go.Ground.phase }, { on := 7, ground := Go.Ground.phase }], guard := none }) (v := ?_) rfl (by kernel_rfl) (by kernel_rfl) (by kernel_rfl) (fun _ _ _ h => h) (Or.inl ⟨rfl, ?_⟩) hS ?_
      rotate_left
      · (intro w' hS'; (try dsimp only at hS'); go_simp; try with_reducible rfl)
      simp only [Act.put, List.setIfInBounds_toArray, List.set_cons_zero, List.set_cons_succ]
      refine wpAnyH_done (by kernel_rfl) ?_ _
      go_wp2_with fail
      go_ret
      exact ⟨rfl, b2⟩
    · rw [if_neg (by omega)]
      go_enter Tryd.func30, Tryd.ntmps30
      go_wp2_with fail
      refine (HC.out _).mono ?_
      rintro en w1 ⟨rfl, rfl⟩
      go_wp2_with fail
      have hS : (fun w' : World => w'.cell? ⟨w.heap.size, 0, none⟩ = some (.int .i64 4) ∧ w'.cell? ⟨w.heap.size, 1, none⟩ = some (.int .i64 (nx : Int)) ∧ w'.cell? ⟨w.heap.size, 2, none⟩ = some (.int .i64 (ny : Int)) ∧ w'.cell? ⟨w.heap.size, 3, none⟩ = some (.int .i64 (nt : Int))) ((w.alloc (.cells #[.int .i64 4, .int .i64 (nx : Int), .int .i64 (ny : Int), .int .i64 (nt : Int)] 32)).alloc (.cells #[.int .i64 4, .int .i64 (nx : Int), .int .i64 (ny : Int), .int .i64 (nt : Int)] 32)).drew := ⟨y0, y1, y2, y3⟩
      dsimp only at hS
      refine wp_region_held_drew (S := (fun w' : World => w'.cell? ⟨w.heap.size, 0, none⟩ = some (.int .i64 4) ∧ w'.cell? ⟨w.heap.size, 1, none⟩ = some (.int .i64 (nx : Int)) ∧ w'.cell? ⟨w.heap.size, 2, none⟩ = some (.int .i64 (ny : Int)) ∧ w'.cell? ⟨w.heap.size, 3, none⟩ = some (.int .i64 (nt : Int)))) (by kernel_rfl) hS (fun _ => ?_)
      refine wpAnyH_take (i := 0) (oi := { dst := some 32, op := Go.Op.fieldAddr 32 (Go.Operand.tmp 1) 0, type := 0, pos := "l26_sessions.go:267", after := #[], guard := none }) (v := ?_) rfl (by kernel_rfl) (by kernel_rfl) (by kernel_rfl) (fun _ _ _ h => h) (Or.inl ⟨rfl, ?_⟩) hS ?_
      rotate_left
      · (intro w' hS'; (try dsimp only at hS'); go_simp; try with_reducible rfl)
      simp only [Act.put, List.setIfInBounds_toArray, List.set_cons_zero, List.set_cons_succ]
      refine wpAnyH_take (i := 1) (oi := { dst := some 33, op := Go.Op.load 2 (Go.Operand.tmp 32), type := 2, pos := "l26_sessions.go:267", after := #[{ on := 0, ground := Go.Ground.data }], guard := none }) (v := ?_) rfl (by kernel_rfl) (by kernel_rfl) (by kernel_rfl) (fun _ _ _ h => h) (Or.inl ⟨rfl, ?_⟩) hS ?_
      rotate_left
      · (intro w' hS'; (try dsimp only at hS'); go_simp; try with_reducible rfl)
      simp only [Act.put, List.setIfInBounds_toArray, List.set_cons_zero, List.set_cons_succ]
      refine wpAnyH_take (i := 4) (oi := { dst := some 36, op := Go.Op.fieldAddr 32 (Go.Operand.tmp 1) 3, type := 0, pos := "l26_sessions.go:267", after := #[], guard := none }) (v := ?_) rfl (by kernel_rfl) (by kernel_rfl) (by kernel_rfl) (fun _ _ _ h => h) (Or.inl ⟨rfl, ?_⟩) hS ?_
      rotate_left
      · (intro w' hS'; (try dsimp only at hS'); go_simp; try with_reducible rfl)
      simp only [Act.put, List.setIfInBounds_toArray, List.set_cons_zero, List.set_cons_succ]
      refine wpAnyH_take (i := 5) (oi := { dst := some 37, op := Go.Op.load 2 (Go.Operand.tmp 36), type := 2, pos := "l26_sessions.go:267", after := #[{ on := 4, ground := Go.Ground.data }], guard := none }) (v := ?_) rfl (by kernel_rfl) (by kernel_rfl) (by kernel_rfl) (fun _ _ _ h => h) (Or.inl ⟨rfl, ?_⟩) hS ?_
      rotate_left
      · (intro w' hS'; (try dsimp only at hS'); go_simp; try with_reducible rfl)
      simp only [Act.put, List.setIfInBounds_toArray, List.set_cons_zero, List.set_cons_succ]
      refine wpAnyH_ready (rs := [2]) (by kernel_rfl) (by simp) ?_
      refine AllReadyH.cons (o := { dst := some 34, op := Go.Op.call { callee := Go.Callee.value (Go.Operand.func 28), args := #[Go.Operand.tmp 33], argTypes := #[2] }, type := 9, pos := "l26_sessions.go:267", after := #[{ on := 1, ground := Go.Ground.data }], guard := none }) rfl (fun K hK => ?_) .nil
      refine step_call 28 #[Go.Operand.tmp 33] _ rfl rfl #[.int .i64 4] Tryd.call28 (by go_simp) (HN.out _) ?_
      rintro en w3 ⟨rfl, bw3⟩
      refine ⟨_, rfl, ?_⟩
      replace R2 := R2.later bw3
      replace T2 := T2.below bw3
      replace b2 := bt b2 bw3
      replace hS : (fun w' : World => w'.cell? ⟨w.heap.size, 0, none⟩ = some (.int .i64 4) ∧ w'.cell? ⟨w.heap.size, 1, none⟩ = some (.int .i64 (nx : Int)) ∧ w'.cell? ⟨w.heap.size, 2, none⟩ = some (.int .i64 (ny : Int)) ∧ w'.cell? ⟨w.heap.size, 3, none⟩ = some (.int .i64 (nt : Int))) w3 := ⟨R2.cell' (i := 0) rfl, R2.cell' (i := 1) rfl, R2.cell' (i := 2) rfl, R2.cell' (i := 3) rfl⟩
      dsimp only at hS
      refine hK.out _ _ ?_ (fun hHeld => ?_)
      · exact hS
      clear hK K hHeld
      simp only [Act.put, List.setIfInBounds_toArray, List.set_cons_zero, List.set_cons_succ]
      refine wpAnyH_take (i := 3) (oi := { dst := some 35, op := Go.Op.binOp Go.BinOp.add 9 (Go.Operand.tmp 34) (Go.Operand.const (Go.Value.string { data := #[32] })) 9, type := 9, pos := "l26_sessions.go:267", after := #[{ on := 2, ground := Go.Ground.data }], guard := none }) (v := ?_) rfl (by kernel_rfl) (by kernel_rfl) (by kernel_rfl) (fun _ _ _ h => h) (Or.inl ⟨rfl, ?_⟩) hS ?_
      rotate_left
      · (intro w' hS'; (try dsimp only at hS'); go_simp; try with_reducible rfl)
      simp only [Act.put, List.setIfInBounds_toArray, List.set_cons_zero, List.set_cons_succ]
      refine wpAnyH_ready (rs := [6]) (by kernel_rfl) (by simp) ?_
      refine AllReadyH.cons (o := { dst := some 38, op := Go.Op.call { callee := Go.Callee.value (Go.Operand.func 53), args := #[Go.Operand.tmp 37], argTypes := #[2] }, type := 9, pos := "l26_sessions.go:267", after := #[{ on := 5, ground := Go.Ground.data }, { on := 2, ground := Go.Ground.chain }], guard := none }) rfl (fun K hK => ?_) .nil
      refine step_call 53 #[Go.Operand.tmp 37] _ rfl rfl #[.int .i64 (nt : Int)] Tryd.call53 (by go_simp) (HT.out _ T2) ?_
      rintro en w4 ⟨rfl, bw4⟩
      refine ⟨_, rfl, ?_⟩
      replace R2 := R2.later bw4
      replace T2 := T2.below bw4
      replace b2 := bt b2 bw4
      replace hS : (fun w' : World => w'.cell? ⟨w.heap.size, 0, none⟩ = some (.int .i64 4) ∧ w'.cell? ⟨w.heap.size, 1, none⟩ = some (.int .i64 (nx : Int)) ∧ w'.cell? ⟨w.heap.size, 2, none⟩ = some (.int .i64 (ny : Int)) ∧ w'.cell? ⟨w.heap.size, 3, none⟩ = some (.int .i64 (nt : Int))) w4 := ⟨R2.cell' (i := 0) rfl, R2.cell' (i := 1) rfl, R2.cell' (i := 2) rfl, R2.cell' (i := 3) rfl⟩
      dsimp only at hS
      refine hK.out _ _ ?_ (fun hHeld => ?_)
      · exact hS
      clear hK K hHeld
      simp only [Act.put, List.setIfInBounds_toArray, List.set_cons_zero, List.set_cons_succ]
      refine wpAnyH_take (i := 7) (oi := { dst := some 39, op := Go.Op.binOp Go.BinOp.add 9 (Go.Operand.tmp 35) (Go.Operand.tmp 38) 9, type := 9, pos := "l26_sessions.go:267", after := #[{ on := 3, ground := Go.Ground.data }, { on := 6, ground := Go.Ground.data }], guard := none }) (v := ?_) rfl (by kernel_rfl) (by kernel_rfl) (by kernel_rfl) (fun _ _ _ h => h) (Or.inl ⟨rfl, ?_⟩) hS ?_
      rotate_left
      · (intro w' hS'; (try dsimp only at hS'); go_simp; try with_reducible rfl)
      simp only [Act.put, List.setIfInBounds_toArray, List.set_cons_zero, List.set_cons_succ]
      refine wpAnyH_take (i := 8) (oi := { dst := some 2, op := Go.Op.assign (Go.Operand.tmp 39), type := 9, pos := "l26_sessions.go:267", after := #[{ on := 7, ground := Go.Ground.data }, { on := 6, ground := Go.Ground.chain }, { on := 0, ground := Go.Ground.phase }, { on := 1, ground := Go.Ground.phase }, { on := 2, ground := Go.Ground.phase }, { on := 3, ground := Go.Ground.phase }, { on := 4, ground := Go.Ground.phase }, { on := 5, ground := Go.Ground.phase }, { on := 6, ground := Go.Ground.phase }, { on := 7, ground := Go.Ground.phase }], guard := none }) (v := ?_) rfl (by kernel_rfl) (by kernel_rfl) (by kernel_rfl) (fun _ _ _ h => h) (Or.inl ⟨rfl, ?_⟩) hS ?_
      rotate_left
      · (intro w' hS'; (try dsimp only at hS'); go_simp; try with_reducible rfl)
      simp only [Act.put, List.setIfInBounds_toArray, List.set_cons_zero, List.set_cons_succ]
      refine wpAnyH_done (by kernel_rfl) ?_ _
      go_wp2_with fail
      go_ret
      exact ⟨rfl, b2⟩
end Go.Proofs.YtahoopmiipmgpaaDoor
