/- Ink: the program's ValidInk. Conditions: none. -/
import Derived.Test.YtnochonfhpkibaaInkC
import Derived.Deep.RegionHeld3
namespace Go.Proofs.Ytnochonfhpkibaa
open Go Go.RowKit

theorem keep_b {w2 w3 : World} {b o : Nat} {u : Value} (o3 : Below w2.heap.size w2 w3) (hb : b < w2.heap.size) (hu : w2.cell? ⟨b, o, none⟩ = some u) : w3.cell? ⟨b, o, none⟩ = some u :=
  (Below.cell (p := ⟨b, o, none⟩) o3 hb).trans hu
set_option maxRecDepth 100000 in
set_option maxHeartbeats 1000000 in
theorem impl_ValidInk_c {o : Bool} {pe e : TypeId} {xs : List PStroke} {v : Value} {F : List Nat} (w : World) (h : (pStrokes pe e).rep o w xs [v] F) (hx : xs.length ≤ 1048576) (hxe : ∀ l ∈ xs, l.length ≤ 1048576) :
    Calls Try.prog 17 #[.agg #[v]] w fun e w' => e = .returned (.bool (inkB xs)) ∧ Below w.heap.size w w' := by
  obtain ⟨A, c, rfl, hc1, hc2, hr⟩ := pStrokes_open h
  clear h
  go_enter Try.func17, Try.ntmps17
  go_wp2_with fail
  go_loopw [8] (fun i wr => ∃ k : Nat, k ≤ xs.length ∧ i = .int .i64 k ∧ Hid (stsOk xs k = true) ∧ wr.cell? ⟨w.heap.size, 0, none⟩ = some (.slice A xs.length c) ∧ w.heap.size < wr.heap.size ∧ Below w.heap.size w wr) (fun i _ => xs.length - (intOf i).toNat)
  case atStart => exact ⟨0, Nat.zero_le _, rfl, rfl, by simp, by simp, (Below.refl _ _).alloc (Nat.le_refl _) _⟩
  case round =>
    obtain ⟨k, hk, rfl, hok, hself, hsl, hb⟩ := hrel
    have hbs := hb.size
    by_cases hlt : k < xs.length
    · obtain ⟨b, off, u, Fk, rfl, hbb, _, hrk, _, h0⟩ := hr k hlt
      rw [← hb.cell (p := ⟨b, _, none⟩) hbb] at h0
      obtain ⟨Au, cu, rfl⟩ := slice_len hrk
      have hle := hxe _ (List.getElem_mem hlt)
      have QK := hrk.below hb
      have RN := (Row.new wr 58 #[.slice Au xs[k].length cu]).drew
      have QA := Lib.hid (QK.alloc (.cells #[.slice Au xs[k].length cu] 58)).drew
      have al : Below w.heap.size w (wr.alloc (.cells #[.slice Au xs[k].length cu] 58)).drew := (hb.alloc hbs _).drew
      have HC := Lib.hid (impl_ValidStroke_c (wr.alloc (.cells #[.slice Au xs[k].length cu] 58)).drew QA.out hle)
      have hsz : wr.heap.size < (wr.alloc (.cells #[.slice Au xs[k].length cu] 58)).drew.heap.size := by simp
      have hself1 : (wr.alloc (.cells #[.slice Au xs[k].length cu] 58)).drew.cell? ⟨w.heap.size, 0, none⟩ = some (.slice (some ⟨b, off, none⟩) xs.length c) := (World.cell?_alloc_past (w := wr) _ _ _ hsl).trans hself
      clear QK
      cases hp : strokeB xs[k]
      · have HF := Lib.hid (inkB_false hlt (stOk_bad hlt hp))
        simp only [hp] at HC
        clear hr hp hrk
        go_wp2_with fail
        have hS : (fun w' => w'.cell? ⟨wr.heap.size, 0, none⟩ = some (.slice Au xs[k].length cu)) (wr.alloc (.cells #[.slice Au xs[k].length cu] 58)).drew := RN.cell' (i := 0) rfl
        dsimp only at hS
        refine wp_region_held_drew (S := (fun w' => w'.cell? ⟨wr.heap.size, 0, none⟩ = some (.slice Au xs[k].length cu))) (by kernel_rfl) hS (fun _ => ?_)
        refine wpAnyH_take (i := 0) (oi := { dst := some 13, op := Go.Op.load 58 (Go.Operand.tmp 4), type := 58, pos := "l02_strokes.go:58", after := #[], guard := none }) (v := ?_) rfl (by kernel_rfl) (by kernel_rfl) (by kernel_rfl) (fun _ _ _ h => h) (Or.inl ⟨rfl, ?_⟩) hS ?_
        rotate_left
        · (intro w' hS'; (try dsimp only at hS'); go_simp; try with_reducible rfl)
        simp only [Act.put, List.setIfInBounds_toArray, List.set_cons_zero, List.set_cons_succ]
        refine wpAnyH_ready (rs := [1]) (by kernel_rfl) (by simp) ?_
        refine AllReadyH.cons (o := { dst := some 14, op := Go.Op.call { callee := Go.Callee.value (Go.Operand.func 26), args := #[Go.Operand.tmp 13], argTypes := #[58] }, type := 4, pos := "l02_strokes.go:58", after := #[{ on := 0, ground := Go.Ground.data }], guard := none }) rfl (fun K hK => ?_) .nil
        refine step_call 26 #[.tmp 13] _ rfl rfl #[.agg #[.slice Au xs[k].length cu]] Try.call26 (by go_simp) HC.out ?_
        rintro e w1 ⟨rfl, b1⟩
        refine ⟨_, rfl, ?_⟩
        replace hS : w1.cell? ⟨wr.heap.size, 0, none⟩ = some (.slice Au xs[k].length cu) := (RN.later b1).cell' (i := 0) rfl
        refine hK.out _ _ ?_ (fun hHeld => ?_)
        · exact hS
        clear hK K hHeld
        simp only [Act.put, List.setIfInBounds_toArray, List.set_cons_zero, List.set_cons_succ]
        refine wpAnyH_take (i := 2) (oi := { dst := some 15, op := Go.Op.unOp Go.UnOp.not 4 (Go.Operand.tmp 14), type := 4, pos := "l02_strokes.go:58", after := #[{ on := 1, ground := Go.Ground.data }], guard := none }) (v := ?_) rfl (by kernel_rfl) (by kernel_rfl) (by kernel_rfl) (fun _ _ _ h => h) (Or.inl ⟨rfl, ?_⟩) hS ?_
        rotate_left
        · (intro w' hS'; (try dsimp only at hS'); go_simp; try with_reducible rfl)
        simp only [Act.put, List.setIfInBounds_toArray, List.set_cons_zero, List.set_cons_succ]
        refine wpAnyH_take (i := 3) (oi := { dst := some 16, op := Go.Op.move (Go.Operand.tmp 15), type := 4, pos := "l02_strokes.go:58", after := #[{ on := 2, ground := Go.Ground.data }, { on := 1, ground := Go.Ground.chain }], guard := none }) (v := ?_) rfl (by kernel_rfl) (by kernel_rfl) (by kernel_rfl) (fun _ _ _ h => h) (Or.inl ⟨rfl, ?_⟩) hS ?_
        rotate_left
        · (intro w' hS'; (try dsimp only at hS'); go_simp; try with_reducible rfl)
        simp only [Act.put, List.setIfInBounds_toArray, List.set_cons_zero, List.set_cons_succ]
        refine wpAnyH_take (i := 4) (oi := { dst := some 17, op := Go.Op.move (Go.Operand.tmp 3), type := 3, pos := "l02_strokes.go:58", after := #[{ on := 3, ground := Go.Ground.guard }], guard := some (3, false) }) rfl (by kernel_rfl) (by kernel_rfl) (by kernel_rfl) (fun _ _ _ h => h) (Or.inr ⟨rfl, rfl⟩) hS ?_
        simp only [Act.put, List.setIfInBounds_toArray, List.set_cons_zero, List.set_cons_succ]
        refine wpAnyH_take (i := 5) (oi := { dst := some 18, op := Go.Op.binOp Go.BinOp.gtr 3 (Go.Operand.tmp 17) (Go.Operand.const (Go.Value.int Go.IntKind.i64 0)) 3, type := 4, pos := "l02_strokes.go:58", after := #[{ on := 4, ground := Go.Ground.data }, { on := 3, ground := Go.Ground.guard }], guard := some (3, false) }) rfl (by kernel_rfl) (by kernel_rfl) (by kernel_rfl) (fun _ _ _ h => h) (Or.inr ⟨rfl, rfl⟩) hS ?_
        simp only [Act.put, List.setIfInBounds_toArray, List.set_cons_zero, List.set_cons_succ]
        refine wpAnyH_take (i := 6) (oi := { dst := some 19, op := Go.Op.move (Go.Operand.tmp 18), type := 4, pos := "l02_strokes.go:58", after := #[{ on := 5, ground := Go.Ground.data }, { on := 3, ground := Go.Ground.chain }, { on := 3, ground := Go.Ground.guard }], guard := some (3, false) }) rfl (by kernel_rfl) (by kernel_rfl) (by kernel_rfl) (fun _ _ _ h => h) (Or.inr ⟨rfl, rfl⟩) hS ?_
        simp only [Act.put, List.setIfInBounds_toArray, List.set_cons_zero, List.set_cons_succ]
        refine wpAnyH_take (i := 7) (oi := { dst := some 20, op := Go.Op.load 58 (Go.Operand.tmp 4), type := 58, pos := "l02_strokes.go:58", after := #[{ on := 6, ground := Go.Ground.guard }], guard := some (6, true) }) rfl (by kernel_rfl) (by kernel_rfl) (by kernel_rfl) (fun _ _ _ h => h) (Or.inr ⟨rfl, rfl⟩) hS ?_
        simp only [Act.put, List.setIfInBounds_toArray, List.set_cons_zero, List.set_cons_succ]
        refine wpAnyH_take (i := 8) (oi := { dst := some 21, op := Go.Op.call { callee := Go.Callee.value (Go.Operand.func 27), args := #[Go.Operand.tmp 20], argTypes := #[58] }, type := 60, pos := "l02_strokes.go:58", after := #[{ on := 7, ground := Go.Ground.data }, { on := 6, ground := Go.Ground.chain }, { on := 6, ground := Go.Ground.guard }], guard := some (6, true) }) rfl (by kernel_rfl) (by kernel_rfl) (by kernel_rfl) (fun _ _ _ h => h) (Or.inr ⟨rfl, rfl⟩) hS ?_
        simp only [Act.put, List.setIfInBounds_toArray, List.set_cons_zero, List.set_cons_succ]
        refine wpAnyH_take (i := 9) (oi := { dst := some 22, op := Go.Op.field 60 (Go.Operand.tmp 21) 2, type := 2, pos := "l02_strokes.go:58", after := #[{ on := 8, ground := Go.Ground.data }, { on := 6, ground := Go.Ground.guard }], guard := some (6, true) }) rfl (by kernel_rfl) (by kernel_rfl) (by kernel_rfl) (fun _ _ _ h => h) (Or.inr ⟨rfl, rfl⟩) hS ?_
        simp only [Act.put, List.setIfInBounds_toArray, List.set_cons_zero, List.set_cons_succ]
        refine wpAnyH_take (i := 10) (oi := { dst := some 23, op := Go.Op.fieldAddr 31 (Go.Operand.tmp 1) 0, type := 0, pos := "l02_strokes.go:58", after := #[{ on := 6, ground := Go.Ground.guard }], guard := some (6, true) }) rfl (by kernel_rfl) (by kernel_rfl) (by kernel_rfl) (fun _ _ _ h => h) (Or.inr ⟨rfl, rfl⟩) hS ?_
        simp only [Act.put, List.setIfInBounds_toArray, List.set_cons_zero, List.set_cons_succ]
        refine wpAnyH_take (i := 11) (oi := { dst := some 24, op := Go.Op.load 29 (Go.Operand.tmp 23), type := 29, pos := "l02_strokes.go:58", after := #[{ on := 10, ground := Go.Ground.data }, { on := 6, ground := Go.Ground.guard }], guard := some (6, true) }) rfl (by kernel_rfl) (by kernel_rfl) (by kernel_rfl) (fun _ _ _ h => h) (Or.inr ⟨rfl, rfl⟩) hS ?_
        simp only [Act.put, List.setIfInBounds_toArray, List.set_cons_zero, List.set_cons_succ]
        refine wpAnyH_take (i := 12) (oi := { dst := some 25, op := Go.Op.move (Go.Operand.tmp 3), type := 3, pos := "l02_strokes.go:58", after := #[{ on := 6, ground := Go.Ground.guard }], guard := some (6, true) }) rfl (by kernel_rfl) (by kernel_rfl) (by kernel_rfl) (fun _ _ _ h => h) (Or.inr ⟨rfl, rfl⟩) hS ?_
        simp only [Act.put, List.setIfInBounds_toArray, List.set_cons_zero, List.set_cons_succ]
        refine wpAnyH_take (i := 13) (oi := { dst := some 26, op := Go.Op.binOp Go.BinOp.sub 3 (Go.Operand.tmp 25) (Go.Operand.const (Go.Value.int Go.IntKind.i64 1)) 3, type := 3, pos := "l02_strokes.go:58", after := #[{ on := 12, ground := Go.Ground.data }, { on := 6, ground := Go.Ground.guard }], guard := some (6, true) }) rfl (by kernel_rfl) (by kernel_rfl) (by kernel_rfl) (fun _ _ _ h => h) (Or.inr ⟨rfl, rfl⟩) hS ?_
        simp only [Act.put, List.setIfInBounds_toArray, List.set_cons_zero, List.set_cons_succ]
        refine wpAnyH_take (i := 14) (oi := { dst := some 27, op := Go.Op.indexAddr 29 (Go.Operand.tmp 24) (Go.Operand.tmp 26), type := 0, pos := "l02_strokes.go:58", after := #[{ on := 11, ground := Go.Ground.data }, { on := 13, ground := Go.Ground.data }, { on := 6, ground := Go.Ground.guard }], guard := some (6, true) }) rfl (by kernel_rfl) (by kernel_rfl) (by kernel_rfl) (fun _ _ _ h => h) (Or.inr ⟨rfl, rfl⟩) hS ?_
        simp only [Act.put, List.setIfInBounds_toArray, List.set_cons_zero, List.set_cons_succ]
        refine wpAnyH_take (i := 15) (oi := { dst := some 28, op := Go.Op.load 58 (Go.Operand.tmp 27), type := 58, pos := "l02_strokes.go:58", after := #[{ on := 14, ground := Go.Ground.data }, { on := 6, ground := Go.Ground.guard }], guard := some (6, true) }) rfl (by kernel_rfl) (by kernel_rfl) (by kernel_rfl) (fun _ _ _ h => h) (Or.inr ⟨rfl, rfl⟩) hS ?_
        simp only [Act.put, List.setIfInBounds_toArray, List.set_cons_zero, List.set_cons_succ]
        refine wpAnyH_take (i := 16) (oi := { dst := some 29, op := Go.Op.call { callee := Go.Callee.value (Go.Operand.func 28), args := #[Go.Operand.tmp 28], argTypes := #[58] }, type := 60, pos := "l02_strokes.go:58", after := #[{ on := 15, ground := Go.Ground.data }, { on := 8, ground := Go.Ground.chain }, { on := 6, ground := Go.Ground.guard }], guard := some (6, true) }) rfl (by kernel_rfl) (by kernel_rfl) (by kernel_rfl) (fun _ _ _ h => h) (Or.inr ⟨rfl, rfl⟩) hS ?_
        simp only [Act.put, List.setIfInBounds_toArray, List.set_cons_zero, List.set_cons_succ]
        refine wpAnyH_take (i := 17) (oi := { dst := some 30, op := Go.Op.field 60 (Go.Operand.tmp 29) 2, type := 2, pos := "l02_strokes.go:58", after := #[{ on := 16, ground := Go.Ground.data }, { on := 6, ground := Go.Ground.guard }], guard := some (6, true) }) rfl (by kernel_rfl) (by kernel_rfl) (by kernel_rfl) (fun _ _ _ h => h) (Or.inr ⟨rfl, rfl⟩) hS ?_
        simp only [Act.put, List.setIfInBounds_toArray, List.set_cons_zero, List.set_cons_succ]
        refine wpAnyH_take (i := 18) (oi := { dst := some 31, op := Go.Op.binOp Go.BinOp.leq 2 (Go.Operand.tmp 22) (Go.Operand.tmp 30) 2, type := 4, pos := "l02_strokes.go:58", after := #[{ on := 9, ground := Go.Ground.data }, { on := 17, ground := Go.Ground.data }, { on := 6, ground := Go.Ground.guard }], guard := some (6, true) }) rfl (by kernel_rfl) (by kernel_rfl) (by kernel_rfl) (fun _ _ _ h => h) (Or.inr ⟨rfl, rfl⟩) hS ?_
        simp only [Act.put, List.setIfInBounds_toArray, List.set_cons_zero, List.set_cons_succ]
        refine wpAnyH_take (i := 19) (oi := { dst := some 32, op := Go.Op.pick (Go.Operand.tmp 19) (Go.Operand.tmp 31) (Go.Operand.const (Go.Value.bool false)), type := 4, pos := "l02_strokes.go:58", after := #[{ on := 6, ground := Go.Ground.data }, { on := 18, ground := Go.Ground.data }, { on := 3, ground := Go.Ground.guard }], guard := some (3, false) }) rfl (by kernel_rfl) (by kernel_rfl) (by kernel_rfl) (fun _ _ _ h => h) (Or.inr ⟨rfl, rfl⟩) hS ?_
        simp only [Act.put, List.setIfInBounds_toArray, List.set_cons_zero, List.set_cons_succ]
        refine wpAnyH_take (i := 20) (oi := { dst := some 33, op := Go.Op.pick (Go.Operand.tmp 16) (Go.Operand.const (Go.Value.bool true)) (Go.Operand.tmp 32), type := 4, pos := "l02_strokes.go:58", after := #[{ on := 3, ground := Go.Ground.data }, { on := 19, ground := Go.Ground.data }], guard := none }) (v := ?_) rfl (by kernel_rfl) (by kernel_rfl) (by kernel_rfl) (fun _ _ _ h => h) (Or.inl ⟨rfl, ?_⟩) hS ?_
        rotate_left
        · (intro w' hS'; (try dsimp only at hS'); go_simp; try with_reducible rfl)
        simp only [Act.put, List.setIfInBounds_toArray, List.set_cons_zero, List.set_cons_succ]
        refine wpAnyH_done (by kernel_rfl) ?_ _
        go_wp2_with fail
        go_ret
        exact ⟨ret_boolI HF.out.symm, al.trans (b1.mono (by omega))⟩
      · have HP := Lib.hid hp
        simp only [hp] at HC
        by_cases hz : k = 0
        · have HK : Hid (stsOk xs (k + 1) = true) := by show _ = _; rw [stsOk, hok.out, stOk_step hlt HP.out (.inl hz)]; rfl
          have g0 : (0 < k) = False := eq_false (by omega)
          clear hr hz hp hrk
          go_wp2_with fail
          have hS : (fun w' => w'.cell? ⟨wr.heap.size, 0, none⟩ = some (.slice Au xs[k].length cu)) (wr.alloc (.cells #[.slice Au xs[k].length cu] 58)).drew := RN.cell' (i := 0) rfl
          dsimp only at hS
          refine wp_region_held_drew (S := (fun w' => w'.cell? ⟨wr.heap.size, 0, none⟩ = some (.slice Au xs[k].length cu))) (by kernel_rfl) hS (fun _ => ?_)
          refine wpAnyH_take (i := 0) (oi := { dst := some 13, op := Go.Op.load 58 (Go.Operand.tmp 4), type := 58, pos := "l02_strokes.go:58", after := #[], guard := none }) (v := ?_) rfl (by kernel_rfl) (by kernel_rfl) (by kernel_rfl) (fun _ _ _ h => h) (Or.inl ⟨rfl, ?_⟩) hS ?_
          rotate_left
          · (intro w' hS'; (try dsimp only at hS'); go_simp; try with_reducible rfl)
          simp only [Act.put, List.setIfInBounds_toArray, List.set_cons_zero, List.set_cons_succ]
          refine wpAnyH_ready (rs := [1]) (by kernel_rfl) (by simp) ?_
          refine AllReadyH.cons (o := { dst := some 14, op := Go.Op.call { callee := Go.Callee.value (Go.Operand.func 26), args := #[Go.Operand.tmp 13], argTypes := #[58] }, type := 4, pos := "l02_strokes.go:58", after := #[{ on := 0, ground := Go.Ground.data }], guard := none }) rfl (fun K hK => ?_) .nil
          refine step_call 26 #[.tmp 13] _ rfl rfl #[.agg #[.slice Au xs[k].length cu]] Try.call26 (by go_simp) HC.out ?_
          rintro e w1 ⟨rfl, b1⟩
          refine ⟨_, rfl, ?_⟩
          replace hS : w1.cell? ⟨wr.heap.size, 0, none⟩ = some (.slice Au xs[k].length cu) := (RN.later b1).cell' (i := 0) rfl
          refine hK.out _ _ ?_ (fun hHeld => ?_)
          · exact hS
          clear hK K hHeld
          simp only [Act.put, List.setIfInBounds_toArray, List.set_cons_zero, List.set_cons_succ]
          refine wpAnyH_take (i := 2) (oi := { dst := some 15, op := Go.Op.unOp Go.UnOp.not 4 (Go.Operand.tmp 14), type := 4, pos := "l02_strokes.go:58", after := #[{ on := 1, ground := Go.Ground.data }], guard := none }) (v := ?_) rfl (by kernel_rfl) (by kernel_rfl) (by kernel_rfl) (fun _ _ _ h => h) (Or.inl ⟨rfl, ?_⟩) hS ?_
          rotate_left
          · (intro w' hS'; (try dsimp only at hS'); go_simp; try with_reducible rfl)
          simp only [Act.put, List.setIfInBounds_toArray, List.set_cons_zero, List.set_cons_succ]
          refine wpAnyH_take (i := 3) (oi := { dst := some 16, op := Go.Op.move (Go.Operand.tmp 15), type := 4, pos := "l02_strokes.go:58", after := #[{ on := 2, ground := Go.Ground.data }, { on := 1, ground := Go.Ground.chain }], guard := none }) (v := ?_) rfl (by kernel_rfl) (by kernel_rfl) (by kernel_rfl) (fun _ _ _ h => h) (Or.inl ⟨rfl, ?_⟩) hS ?_
          rotate_left
          · (intro w' hS'; (try dsimp only at hS'); go_simp; try with_reducible rfl)
          simp only [Act.put, List.setIfInBounds_toArray, List.set_cons_zero, List.set_cons_succ]
          refine wpAnyH_take (i := 4) (oi := { dst := some 17, op := Go.Op.move (Go.Operand.tmp 3), type := 3, pos := "l02_strokes.go:58", after := #[{ on := 3, ground := Go.Ground.guard }], guard := some (3, false) }) (v := ?_) rfl (by kernel_rfl) (by kernel_rfl) (by kernel_rfl) (fun _ _ _ h => h) (Or.inl ⟨rfl, ?_⟩) hS ?_
          rotate_left
          · (intro w' hS'; (try dsimp only at hS'); go_simp; try with_reducible rfl)
          simp only [Act.put, List.setIfInBounds_toArray, List.set_cons_zero, List.set_cons_succ]
          refine wpAnyH_take (i := 5) (oi := { dst := some 18, op := Go.Op.binOp Go.BinOp.gtr 3 (Go.Operand.tmp 17) (Go.Operand.const (Go.Value.int Go.IntKind.i64 0)) 3, type := 4, pos := "l02_strokes.go:58", after := #[{ on := 4, ground := Go.Ground.data }, { on := 3, ground := Go.Ground.guard }], guard := some (3, false) }) (v := ?_) rfl (by kernel_rfl) (by kernel_rfl) (by kernel_rfl) (fun _ _ _ h => h) (Or.inl ⟨rfl, ?_⟩) hS ?_
          rotate_left
          · (intro w' hS'; (try dsimp only at hS'); go_simp; try with_reducible rfl)
          simp only [Act.put, List.setIfInBounds_toArray, List.set_cons_zero, List.set_cons_succ]
          refine wpAnyH_take (i := 6) (oi := { dst := some 19, op := Go.Op.move (Go.Operand.tmp 18), type := 4, pos := "l02_strokes.go:58", after := #[{ on := 5, ground := Go.Ground.data }, { on := 3, ground := Go.Ground.chain }, { on := 3, ground := Go.Ground.guard }], guard := some (3, false) }) (v := ?_) rfl (by kernel_rfl) (by kernel_rfl) (by kernel_rfl) (fun _ _ _ h => h) (Or.inl ⟨rfl, ?_⟩) hS ?_
          rotate_left
          · (intro w' hS'; (try dsimp only at hS'); go_simp; try with_reducible rfl)
          simp only [Act.put, List.setIfInBounds_toArray, List.set_cons_zero, List.set_cons_succ]
          refine wpAnyH_take (i := 7) (oi := { dst := some 20, op := Go.Op.load 58 (Go.Operand.tmp 4), type := 58, pos := "l02_strokes.go:58", after := #[{ on := 6, ground := Go.Ground.guard }], guard := some (6, true) }) rfl (by kernel_rfl) (by kernel_rfl) (by kernel_rfl) (fun _ _ _ h => h) (Or.inr ⟨rfl, rfl⟩) hS ?_
          simp only [Act.put, List.setIfInBounds_toArray, List.set_cons_zero, List.set_cons_succ]
          refine wpAnyH_take (i := 8) (oi := { dst := some 21, op := Go.Op.call { callee := Go.Callee.value (Go.Operand.func 27), args := #[Go.Operand.tmp 20], argTypes := #[58] }, type := 60, pos := "l02_strokes.go:58", after := #[{ on := 7, ground := Go.Ground.data }, { on := 6, ground := Go.Ground.chain }, { on := 6, ground := Go.Ground.guard }], guard := some (6, true) }) rfl (by kernel_rfl) (by kernel_rfl) (by kernel_rfl) (fun _ _ _ h => h) (Or.inr ⟨rfl, rfl⟩) hS ?_
          simp only [Act.put, List.setIfInBounds_toArray, List.set_cons_zero, List.set_cons_succ]
          refine wpAnyH_take (i := 9) (oi := { dst := some 22, op := Go.Op.field 60 (Go.Operand.tmp 21) 2, type := 2, pos := "l02_strokes.go:58", after := #[{ on := 8, ground := Go.Ground.data }, { on := 6, ground := Go.Ground.guard }], guard := some (6, true) }) rfl (by kernel_rfl) (by kernel_rfl) (by kernel_rfl) (fun _ _ _ h => h) (Or.inr ⟨rfl, rfl⟩) hS ?_
          simp only [Act.put, List.setIfInBounds_toArray, List.set_cons_zero, List.set_cons_succ]
          refine wpAnyH_take (i := 10) (oi := { dst := some 23, op := Go.Op.fieldAddr 31 (Go.Operand.tmp 1) 0, type := 0, pos := "l02_strokes.go:58", after := #[{ on := 6, ground := Go.Ground.guard }], guard := some (6, true) }) rfl (by kernel_rfl) (by kernel_rfl) (by kernel_rfl) (fun _ _ _ h => h) (Or.inr ⟨rfl, rfl⟩) hS ?_
          simp only [Act.put, List.setIfInBounds_toArray, List.set_cons_zero, List.set_cons_succ]
          refine wpAnyH_take (i := 11) (oi := { dst := some 24, op := Go.Op.load 29 (Go.Operand.tmp 23), type := 29, pos := "l02_strokes.go:58", after := #[{ on := 10, ground := Go.Ground.data }, { on := 6, ground := Go.Ground.guard }], guard := some (6, true) }) rfl (by kernel_rfl) (by kernel_rfl) (by kernel_rfl) (fun _ _ _ h => h) (Or.inr ⟨rfl, rfl⟩) hS ?_
          simp only [Act.put, List.setIfInBounds_toArray, List.set_cons_zero, List.set_cons_succ]
          refine wpAnyH_take (i := 12) (oi := { dst := some 25, op := Go.Op.move (Go.Operand.tmp 3), type := 3, pos := "l02_strokes.go:58", after := #[{ on := 6, ground := Go.Ground.guard }], guard := some (6, true) }) rfl (by kernel_rfl) (by kernel_rfl) (by kernel_rfl) (fun _ _ _ h => h) (Or.inr ⟨rfl, rfl⟩) hS ?_
          simp only [Act.put, List.setIfInBounds_toArray, List.set_cons_zero, List.set_cons_succ]
          refine wpAnyH_take (i := 13) (oi := { dst := some 26, op := Go.Op.binOp Go.BinOp.sub 3 (Go.Operand.tmp 25) (Go.Operand.const (Go.Value.int Go.IntKind.i64 1)) 3, type := 3, pos := "l02_strokes.go:58", after := #[{ on := 12, ground := Go.Ground.data }, { on := 6, ground := Go.Ground.guard }], guard := some (6, true) }) rfl (by kernel_rfl) (by kernel_rfl) (by kernel_rfl) (fun _ _ _ h => h) (Or.inr ⟨rfl, rfl⟩) hS ?_
          simp only [Act.put, List.setIfInBounds_toArray, List.set_cons_zero, List.set_cons_succ]
          refine wpAnyH_take (i := 14) (oi := { dst := some 27, op := Go.Op.indexAddr 29 (Go.Operand.tmp 24) (Go.Operand.tmp 26), type := 0, pos := "l02_strokes.go:58", after := #[{ on := 11, ground := Go.Ground.data }, { on := 13, ground := Go.Ground.data }, { on := 6, ground := Go.Ground.guard }], guard := some (6, true) }) rfl (by kernel_rfl) (by kernel_rfl) (by kernel_rfl) (fun _ _ _ h => h) (Or.inr ⟨rfl, rfl⟩) hS ?_
          simp only [Act.put, List.setIfInBounds_toArray, List.set_cons_zero, List.set_cons_succ]
          refine wpAnyH_take (i := 15) (oi := { dst := some 28, op := Go.Op.load 58 (Go.Operand.tmp 27), type := 58, pos := "l02_strokes.go:58", after := #[{ on := 14, ground := Go.Ground.data }, { on := 6, ground := Go.Ground.guard }], guard := some (6, true) }) rfl (by kernel_rfl) (by kernel_rfl) (by kernel_rfl) (fun _ _ _ h => h) (Or.inr ⟨rfl, rfl⟩) hS ?_
          simp only [Act.put, List.setIfInBounds_toArray, List.set_cons_zero, List.set_cons_succ]
          refine wpAnyH_take (i := 16) (oi := { dst := some 29, op := Go.Op.call { callee := Go.Callee.value (Go.Operand.func 28), args := #[Go.Operand.tmp 28], argTypes := #[58] }, type := 60, pos := "l02_strokes.go:58", after := #[{ on := 15, ground := Go.Ground.data }, { on := 8, ground := Go.Ground.chain }, { on := 6, ground := Go.Ground.guard }], guard := some (6, true) }) rfl (by kernel_rfl) (by kernel_rfl) (by kernel_rfl) (fun _ _ _ h => h) (Or.inr ⟨rfl, rfl⟩) hS ?_
          simp only [Act.put, List.setIfInBounds_toArray, List.set_cons_zero, List.set_cons_succ]
          refine wpAnyH_take (i := 17) (oi := { dst := some 30, op := Go.Op.field 60 (Go.Operand.tmp 29) 2, type := 2, pos := "l02_strokes.go:58", after := #[{ on := 16, ground := Go.Ground.data }, { on := 6, ground := Go.Ground.guard }], guard := some (6, true) }) rfl (by kernel_rfl) (by kernel_rfl) (by kernel_rfl) (fun _ _ _ h => h) (Or.inr ⟨rfl, rfl⟩) hS ?_
          simp only [Act.put, List.setIfInBounds_toArray, List.set_cons_zero, List.set_cons_succ]
          refine wpAnyH_take (i := 18) (oi := { dst := some 31, op := Go.Op.binOp Go.BinOp.leq 2 (Go.Operand.tmp 22) (Go.Operand.tmp 30) 2, type := 4, pos := "l02_strokes.go:58", after := #[{ on := 9, ground := Go.Ground.data }, { on := 17, ground := Go.Ground.data }, { on := 6, ground := Go.Ground.guard }], guard := some (6, true) }) rfl (by kernel_rfl) (by kernel_rfl) (by kernel_rfl) (fun _ _ _ h => h) (Or.inr ⟨rfl, rfl⟩) hS ?_
          simp only [Act.put, List.setIfInBounds_toArray, List.set_cons_zero, List.set_cons_succ]
          refine wpAnyH_take (i := 19) (oi := { dst := some 32, op := Go.Op.pick (Go.Operand.tmp 19) (Go.Operand.tmp 31) (Go.Operand.const (Go.Value.bool false)), type := 4, pos := "l02_strokes.go:58", after := #[{ on := 6, ground := Go.Ground.data }, { on := 18, ground := Go.Ground.data }, { on := 3, ground := Go.Ground.guard }], guard := some (3, false) }) (v := ?_) rfl (by kernel_rfl) (by kernel_rfl) (by kernel_rfl) (fun _ _ _ h => h) (Or.inl ⟨rfl, ?_⟩) hS ?_
          rotate_left
          · (intro w' hS'; (try dsimp only at hS'); go_simp; try with_reducible rfl)
          simp only [Act.put, List.setIfInBounds_toArray, List.set_cons_zero, List.set_cons_succ]
          refine wpAnyH_take (i := 20) (oi := { dst := some 33, op := Go.Op.pick (Go.Operand.tmp 16) (Go.Operand.const (Go.Value.bool true)) (Go.Operand.tmp 32), type := 4, pos := "l02_strokes.go:58", after := #[{ on := 3, ground := Go.Ground.data }, { on := 19, ground := Go.Ground.data }], guard := none }) (v := ?_) rfl (by kernel_rfl) (by kernel_rfl) (by kernel_rfl) (fun _ _ _ h => h) (Or.inl ⟨rfl, ?_⟩) hS ?_
          rotate_left
          · (intro w' hS'; (try dsimp only at hS'); go_simp; try with_reducible rfl)
          simp only [Act.put, List.setIfInBounds_toArray, List.set_cons_zero, List.set_cons_succ]
          refine wpAnyH_done (by kernel_rfl) ?_ _
          have hself2 := (Below.cell (p := ⟨w.heap.size, 0, none⟩) b1 (by show w.heap.size < _; omega)).trans hself1
          have hsz1 := b1.size
          go_wp2_with fail
          go_roundw
          case rel => exact ⟨k + 1, by omega, by go_num, HK, hself2, by omega, al.trans (b1.mono (by omega))⟩
          case measure => simp [intOf]; omega
        · obtain ⟨j, hj⟩ : ∃ j, k = j + 1 := ⟨k - 1, by omega⟩
          have jl : j < xs.length := by omega
          obtain ⟨b', off', u', Fj, e', hbb', _, hrj, _, h3⟩ := hr j jl
          obtain ⟨Aj, cj, rfl⟩ := slice_len hrj
          injection e' with e'
          injection e' with e1 e2 _
          subst e1; subst e2
          rw [← hb.cell (p := ⟨b, _, none⟩) hbb] at h3
          have hbw : b < wr.heap.size := by omega
          have h31 : (wr.alloc (.cells #[.slice Au xs[k].length cu] 58)).drew.cell? ⟨b, off + j, none⟩ = some (.slice Aj xs[j].length cj) := (World.cell?_alloc_past (w := wr) _ _ _ hbw).trans h3
          have hlej := hxe _ (List.getElem_mem jl)
          have QJ := Lib.hid ((hrj.below hb).alloc (.cells #[.slice Au xs[k].length cu] 58)).drew
          have p1 := Lib.hid (strokeB_pos hp)
          have p2 := Lib.hid (strokeB_pos (stOk_stroke jl (stsOk_get hok.out (show j < k by omega))))
          have CF := Lib.hid (fun w2 (bb : Below (wr.alloc (.cells #[.slice Au xs[k].length cu] 58)).drew.heap.size (wr.alloc (.cells #[.slice Au xs[k].length cu] 58)).drew w2) => impl_firstOf_c w2 (QA.out.below bb) p1.out)
          have CL := Lib.hid (fun w2 (bb : Below (wr.alloc (.cells #[.slice Au xs[k].length cu] 58)).drew.heap.size (wr.alloc (.cells #[.slice Au xs[k].length cu] 58)).drew w2) => impl_lastOf_c w2 (QJ.out.below bb) p2.out hlej)
          have g0 : (0 < k) = True := eq_true (by omega)
          have gj : IntKind.i64.wrap ((k : Int) - 1) = (j : Int) := (IntWalk.i64_in _ (by omega)).trans (by omega)
          have jl' : (j : Int) < (xs.length : Int) := by omega
          have j0 : (0 : Int) ≤ (j : Int) := by omega
          have HT : firstT xs[k] ≤ lastT xs[j] → Hid (inkB xs = false) := fun ht => inkB_false hlt (by subst hj; exact stOk_late hlt ht)
          have HN : ¬ firstT xs[k] ≤ lastT xs[j] → Hid (stsOk xs (k + 1) = true) := fun ht => by
            show _ = _
            rw [stsOk, hok.out, stOk_step hlt HP.out (.inr ⟨j, hj, fun _ => by omega⟩)]; rfl
          have ef : (pt xs[k] 0).t = firstT xs[k] := rfl
          have el : (pt xs[j] (xs[j].length - 1)).t = lastT xs[j] := rfl
          rw [ef] at CF
          rw [el] at CL
          generalize hft : firstT xs[k] = ft at CF HT HN
          generalize hlt' : lastT xs[j] = ltt at CL HT HN
          have HT' := Lib.hid HT
          have HN' := Lib.hid HN
          have HJ := Lib.hid hj
          clear hr h3 hj hz hp hrj hrk HT HN ef el hft hlt'
          by_cases ht : ft ≤ ltt
          · have HF := HT'.out ht
            have gt : (ft ≤ ltt) = True := eq_true ht
            clear ht
            go_wp2_with fail
            have hfd : ∀ (x y z : Int) (w : World), (Instr.field 60 (.agg #[.int .i64 x, .int .i64 y, .int .i64 z]) 2).run Try.prog w = .ok (.int .i64 z) w := fun _ _ _ _ => by kernel_rfl
            have x1 := RN.cell' (i := 0) (u := .slice Au xs[k].length cu) rfl
            go_region_held3 (fun w' => w'.cell? ⟨wr.heap.size, 0, none⟩ = some (.slice Au xs[k].length cu) ∧ w'.cell? ⟨w.heap.size, 0, none⟩ = some (.slice (some ⟨b, off, none⟩) xs.length c) ∧ w'.cell? ⟨b, off + j, none⟩ = some (.slice Aj xs[j].length cj)) (first | exact ⟨x1, hself1, h31⟩ | exact ⟨(RN.later b1).cell' (i := 0) rfl, keep_b b1 (Nat.lt_trans hsl hsz) hself1, keep_b b1 (Nat.lt_trans hbw hsz) h31⟩ | exact ⟨(RN.later (bt b1 b2)).cell' (i := 0) rfl, keep_b (bt b1 b2) (Nat.lt_trans hsl hsz) hself1, keep_b (bt b1 b2) (Nat.lt_trans hbw hsz) h31⟩ | exact ⟨(RN.later (bt (bt b1 b2) b3)).cell' (i := 0) rfl, keep_b (bt (bt b1 b2) b3) (Nat.lt_trans hsl hsz) hself1, keep_b (bt (bt b1 b2) b3) (Nat.lt_trans hbw hsz) h31⟩) (first | (go_at_call 26; refine HC.out.mono ?_; rintro e w1 ⟨rfl, b1⟩) | (go_at_call 27; refine (CF.out _ b1).mono ?_; rintro e w2 ⟨rfl, b2⟩) | (go_at_call 27; refine (CF.out _ (bt b1 b2)).mono ?_; rintro e w3 ⟨rfl, b3⟩) | (go_at_call 28; refine (CL.out _ b1).mono ?_; rintro e w2 ⟨rfl, b2⟩) | (go_at_call 28; refine (CL.out _ (bt b1 b2)).mono ?_; rintro e w3 ⟨rfl, b3⟩))
            all_goals
              go_wp2_with fail
              go_ret
              exact ⟨ret_boolI HF.out.symm, al.trans ((bt (bt b1 b2) b3).mono (by omega))⟩
          · have HK := HN'.out ht
            have gt : (ft ≤ ltt) = False := eq_false ht
            clear ht
            go_wp2_with fail
            have hfd : ∀ (x y z : Int) (w : World), (Instr.field 60 (.agg #[.int .i64 x, .int .i64 y, .int .i64 z]) 2).run Try.prog w = .ok (.int .i64 z) w := fun _ _ _ _ => by kernel_rfl
            have x1 := RN.cell' (i := 0) (u := .slice Au xs[k].length cu) rfl
            go_region_held3 (fun w' => w'.cell? ⟨wr.heap.size, 0, none⟩ = some (.slice Au xs[k].length cu) ∧ w'.cell? ⟨w.heap.size, 0, none⟩ = some (.slice (some ⟨b, off, none⟩) xs.length c) ∧ w'.cell? ⟨b, off + j, none⟩ = some (.slice Aj xs[j].length cj)) (first | exact ⟨x1, hself1, h31⟩ | exact ⟨(RN.later b1).cell' (i := 0) rfl, keep_b b1 (Nat.lt_trans hsl hsz) hself1, keep_b b1 (Nat.lt_trans hbw hsz) h31⟩ | exact ⟨(RN.later (bt b1 b2)).cell' (i := 0) rfl, keep_b (bt b1 b2) (Nat.lt_trans hsl hsz) hself1, keep_b (bt b1 b2) (Nat.lt_trans hbw hsz) h31⟩ | exact ⟨(RN.later (bt (bt b1 b2) b3)).cell' (i := 0) rfl, keep_b (bt (bt b1 b2) b3) (Nat.lt_trans hsl hsz) hself1, keep_b (bt (bt b1 b2) b3) (Nat.lt_trans hbw hsz) h31⟩) (first | (go_at_call 26; refine HC.out.mono ?_; rintro e w1 ⟨rfl, b1⟩) | (go_at_call 27; refine (CF.out _ b1).mono ?_; rintro e w2 ⟨rfl, b2⟩) | (go_at_call 27; refine (CF.out _ (bt b1 b2)).mono ?_; rintro e w3 ⟨rfl, b3⟩) | (go_at_call 28; refine (CL.out _ b1).mono ?_; rintro e w2 ⟨rfl, b2⟩) | (go_at_call 28; refine (CL.out _ (bt b1 b2)).mono ?_; rintro e w3 ⟨rfl, b3⟩))
            all_goals
              have hself2 := keep_b (bt (bt b1 b2) b3) (Nat.lt_trans hsl hsz) hself1
              have hsz3 := (bt (bt b1 b2) b3).size
              have hb3 := al.trans ((bt (bt b1 b2) b3).mono (by omega))
              clear x1
              go_wp2_with fail
              go_roundw
              case rel => exact ⟨k + 1, by omega, by go_num, HK, hself2, by omega, hb3⟩
              case measure => simp [intOf]; omega
    · obtain rfl : k = xs.length := by omega
      clear hr
      have HV : Hid (inkB xs = decide (xs.length ≤ 16)) := by show _ = _; rw [inkB, hok.out]; rfl
      go_wp2_with fail
      go_ret
      exact ⟨ret_boolI (by rw [HV.out, decide_eq_decide]; omega), hb⟩
end Go.Proofs.Ytnochonfhpkibaa
