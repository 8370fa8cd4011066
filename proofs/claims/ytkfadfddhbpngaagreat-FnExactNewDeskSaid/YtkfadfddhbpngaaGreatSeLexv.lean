/- The program's own setups: lexicons. Conditions: none. -/
import Derived.Test.YtkfadfddhbpngaaGreatTkv
import Derived.Test.YtkfadfddhbpngaaGreatSeVv
import Derived.Test.YtkfadfddhbpngaaGreatTakeCallv
namespace Go.Proofs.YtkfadfddhbpngaaGreat
open Go Go.RowKit
abbrev zo118_4_0 : Oper := { dst := some 13, op := .fieldAddr 183 (.tmp 4) 0, type := 0, pos := "l16_lexicon.go:29", after := #[], guard := none }
abbrev zo118_4_1 : Oper := { dst := some 14, op := .load 9 (.tmp 13), type := 9, pos := "l16_lexicon.go:29", after := #[{ on := 0, ground := .data }], guard := none }
abbrev zo118_4_2 : Oper := { dst := some 15, op := .call { callee := .value (.func 147), args := #[.tmp 14], argTypes := #[9] }, type := 4, pos := "l16_lexicon.go:29", after := #[{ on := 1, ground := .data }], guard := none }
abbrev zo118_4_3 : Oper := { dst := some 16, op := .unOp .not 4 (.tmp 15), type := 4, pos := "l16_lexicon.go:29", after := #[{ on := 2, ground := .data }], guard := none }
abbrev zo118_4_4 : Oper := { dst := some 17, op := .move (.tmp 16), type := 4, pos := "l16_lexicon.go:29", after := #[{ on := 3, ground := .data }, { on := 2, ground := .chain }], guard := none }
abbrev zo118_4_5 : Oper := { dst := some 18, op := .fieldAddr 183 (.tmp 4) 1, type := 0, pos := "l16_lexicon.go:29", after := #[{ on := 4, ground := .guard }], guard := some (4, false) }
abbrev zo118_4_6 : Oper := { dst := some 19, op := .load 2 (.tmp 18), type := 2, pos := "l16_lexicon.go:29", after := #[{ on := 5, ground := .data }, { on := 4, ground := .guard }], guard := some (4, false) }
abbrev zo118_4_7 : Oper := { dst := some 20, op := .call { callee := .value (.func 182), args := #[.tmp 19], argTypes := #[2] }, type := 4, pos := "l16_lexicon.go:29", after := #[{ on := 6, ground := .data }, { on := 4, ground := .chain }, { on := 4, ground := .guard }], guard := some (4, false) }
abbrev zo118_4_8 : Oper := { dst := some 21, op := .unOp .not 4 (.tmp 20), type := 4, pos := "l16_lexicon.go:29", after := #[{ on := 7, ground := .data }, { on := 4, ground := .guard }], guard := some (4, false) }
abbrev zo118_4_9 : Oper := { dst := some 22, op := .pick (.tmp 17) (.const (.bool true)) (.tmp 21), type := 4, pos := "l16_lexicon.go:29", after := #[{ on := 4, ground := .data }, { on := 8, ground := .data }], guard := none }
abbrev zo118_4_10 : Oper := { dst := some 23, op := .move (.tmp 22), type := 4, pos := "l16_lexicon.go:29", after := #[{ on := 9, ground := .data }, { on := 7, ground := .chain }], guard := none }
abbrev zo118_4_11 : Oper := { dst := some 24, op := .move (.tmp 3), type := 3, pos := "l16_lexicon.go:29", after := #[{ on := 10, ground := .guard }], guard := some (10, false) }
abbrev zo118_4_12 : Oper := { dst := some 25, op := .binOp .gtr 3 (.tmp 24) (.const (.int .i64 0)) 3, type := 4, pos := "l16_lexicon.go:29", after := #[{ on := 11, ground := .data }, { on := 10, ground := .guard }], guard := some (10, false) }
abbrev zo118_4_13 : Oper := { dst := some 26, op := .move (.tmp 25), type := 4, pos := "l16_lexicon.go:29", after := #[{ on := 12, ground := .data }, { on := 10, ground := .chain }, { on := 10, ground := .guard }], guard := some (10, false) }
abbrev zo118_4_14 : Oper := { dst := some 27, op := .fieldAddr 183 (.tmp 4) 0, type := 0, pos := "l16_lexicon.go:29", after := #[{ on := 13, ground := .guard }], guard := some (13, true) }
abbrev zo118_4_15 : Oper := { dst := some 28, op := .load 9 (.tmp 27), type := 9, pos := "l16_lexicon.go:29", after := #[{ on := 14, ground := .data }, { on := 13, ground := .guard }], guard := some (13, true) }
abbrev zo118_4_16 : Oper := { dst := some 29, op := .fieldAddr 56 (.tmp 1) 0, type := 0, pos := "l16_lexicon.go:29", after := #[{ on := 13, ground := .guard }], guard := some (13, true) }
abbrev zo118_4_17 : Oper := { dst := some 30, op := .load 54 (.tmp 29), type := 54, pos := "l16_lexicon.go:29", after := #[{ on := 16, ground := .data }, { on := 13, ground := .guard }], guard := some (13, true) }
abbrev zo118_4_18 : Oper := { dst := some 31, op := .move (.tmp 3), type := 3, pos := "l16_lexicon.go:29", after := #[{ on := 13, ground := .guard }], guard := some (13, true) }
abbrev zo118_4_19 : Oper := { dst := some 32, op := .binOp .sub 3 (.tmp 31) (.const (.int .i64 1)) 3, type := 3, pos := "l16_lexicon.go:29", after := #[{ on := 18, ground := .data }, { on := 13, ground := .guard }], guard := some (13, true) }
abbrev zo118_4_20 : Oper := { dst := some 33, op := .indexAddr 54 (.tmp 30) (.tmp 32), type := 0, pos := "l16_lexicon.go:29", after := #[{ on := 17, ground := .data }, { on := 19, ground := .data }, { on := 13, ground := .guard }], guard := some (13, true) }
abbrev zo118_4_21 : Oper := { dst := some 34, op := .fieldAddr 183 (.tmp 33) 0, type := 0, pos := "l16_lexicon.go:29", after := #[{ on := 20, ground := .data }, { on := 13, ground := .guard }], guard := some (13, true) }
abbrev zo118_4_22 : Oper := { dst := some 35, op := .load 9 (.tmp 34), type := 9, pos := "l16_lexicon.go:29", after := #[{ on := 21, ground := .data }, { on := 13, ground := .guard }], guard := some (13, true) }
abbrev zo118_4_23 : Oper := { dst := some 36, op := .binOp .leq 9 (.tmp 28) (.tmp 35) 9, type := 4, pos := "l16_lexicon.go:29", after := #[{ on := 15, ground := .data }, { on := 22, ground := .data }, { on := 13, ground := .guard }], guard := some (13, true) }
abbrev zo118_4_24 : Oper := { dst := some 37, op := .pick (.tmp 26) (.tmp 36) (.const (.bool false)), type := 4, pos := "l16_lexicon.go:29", after := #[{ on := 13, ground := .data }, { on := 23, ground := .data }, { on := 10, ground := .guard }], guard := some (10, false) }
abbrev zo118_4_25 : Oper := { dst := some 38, op := .pick (.tmp 23) (.const (.bool true)) (.tmp 37), type := 4, pos := "l16_lexicon.go:29", after := #[{ on := 10, ground := .data }, { on := 24, ground := .data }], guard := none }

theorem lexB_false {xs : List PEntry} {k : Nat} (hk : k < xs.length) (h : entOk xs k = false) : lexB xs = false := by simp [lexB, entsOk_false h hk]
theorem leq_iff (a b : ByteArray) : (Op.bytesLess a.toList b.toList || a.toList == b.toList) = !bLess b a := by
 rcases bLess_sto.cases a b with ⟨h1, h2, h3, h4⟩ | rfl | ⟨h1, h2, h3, h4⟩
 · unfold bLess at h1 h2 ⊢; simp [h1, h2]
 · have := bl_irr a.toList; unfold bLess; simp [this]
 · have h5 : (a.toList == b.toList) = false := by rw [str_eq]; simpa using h3
   unfold bLess at h1 h2 ⊢; simp [h1, h2, h5]
set_option maxRecDepth 100000 in
set_option maxHeartbeats 4000000 in
theorem impl_ValidLexicon_c {o : Bool} {e : TypeId} {xs : List PEntry} {v : Value} {F : List Nat} (w : World) (h : (pEntrys e).rep o w xs [v] F) (hx : xs.length ≤ 1048576) (hs : ∀ l ∈ xs, l.word.size ≤ 1048576) :
 Calls Tryz.prog 118 #[.agg #[v]] w fun e w' => e = .returned (.bool (lexB xs)) ∧ Below w.heap.size w w' := by
 obtain ⟨A, c, rfl, hc1, hc2, hr⟩ := pEntrys_open h
 clear h
 go_enter Tryz.func118, Tryz.ntmps118
 go_wp2_with fail
 go_loopw [8] (fun i wr => ∃ k : Nat, k ≤ xs.length ∧ i = .int .i64 k ∧ Hid (entsOk xs k = true) ∧ wr.cell? ⟨w.heap.size, 0, none⟩ = some (.slice A xs.length c) ∧ w.heap.size < wr.heap.size ∧ Below w.heap.size w wr) (fun i _ => xs.length - (intOf i).toNat)
 case atStart => exact ⟨0, Nat.zero_le _, rfl, rfl, by simp, by simp, (Below.refl _ _).alloc (Nat.le_refl _) _⟩
 case round =>
  obtain ⟨k, hk, rfl, hok, hself, hsl, hb⟩ := hrel
  have hbs := hb.size
  by_cases hlt : k < xs.length
  · obtain ⟨b, off, rfl, hbb, _, h0, h1, _⟩ := hr k hlt
    rw [← hb.cell (p := ⟨b, _, none⟩) hbb] at h0 h1
    have HW := Lib.hid (impl_IsWord_c xs[k].word (hs _ (List.getElem_mem hlt)))
    have HQ := Lib.hid (impl_isCost_c xs[k].cost)
    have RN := (Row.new wr 183 #[.string xs[k].word, .int .i64 xs[k].cost]).drew
    have al : Below w.heap.size w (wr.alloc (.cells #[.string xs[k].word, .int .i64 xs[k].cost] 183)).drew := (hb.alloc hbs _).drew
    have kp : ∀ (g i : Nat) (u : Value), g < wr.heap.size → wr.cell? ⟨g, i, none⟩ = some u → (wr.alloc (.cells #[.string xs[k].word, .int .i64 xs[k].cost] 183)).drew.cell? ⟨g, i, none⟩ = some u :=
     fun g i u hg hc => (World.cell?_alloc_past (w := wr) _ _ _ hg).trans hc
    have he : entOk xs k = (isWordB xs[k].word && (costB xs[k].cost && (decide (k = 0) || bLess (entAt xs (k - 1)).word xs[k].word))) := by rw [entOk, entAt_get hlt]
    have hs1 : entsOk xs (k + 1) = (entsOk xs k && entOk xs k) := rfl
    cases hw : isWordB xs[k].word
    · have HF := Lib.hid (lexB_false hlt (by rw [he, hw]; rfl))
      simp only [hw] at HW
      clear hr hw he hs1
      go_wp2_with fail
      have hS : (fun w' : World => w'.cell? ⟨wr.heap.size, 0, none⟩ = some (.string xs[k].word) ∧ w'.cell? ⟨wr.heap.size, 1, none⟩ = some (.int .i64 xs[k].cost)) (wr.alloc (.cells #[.string xs[k].word, .int .i64 xs[k].cost] 183)).drew := ⟨RN.cell' (i := 0) rfl, RN.cell' (i := 1) rfl⟩
      dsimp only at hS
      refine wp_region_held_drew (S := (fun w' : World => w'.cell? ⟨wr.heap.size, 0, none⟩ = some (.string xs[k].word) ∧ w'.cell? ⟨wr.heap.size, 1, none⟩ = some (.int .i64 xs[k].cost))) (by kernel_rfl) hS (fun _ => ?_)
      refine tK (i := 0) (oi := zo118_4_0) (v := ?_) rfl (by kernel_rfl) (fun _ _ _ h => h) (Or.inl ⟨rfl, ?_⟩) hS ?_
      rotate_left
      · (intro w' hS'; (try dsimp only at hS'); dsimp only [zo118_4_0]; go_simp; try with_reducible rfl)
      simp only [Act.put, pA, pB, pC]
      refine tK (i := 1) (oi := zo118_4_1) (v := ?_) rfl (by kernel_rfl) (fun _ _ _ h => h) (Or.inl ⟨rfl, ?_⟩) hS ?_
      rotate_left
      · (intro w' hS'; (try dsimp only at hS'); dsimp only [zo118_4_1]; go_simp; try with_reducible rfl)
      simp only [Act.put, pA, pB, pC]
      refine wpAnyH_ready (rs := [2]) (by kernel_rfl) (by simp) ?_
      refine AllReadyH.cons (o := zo118_4_2) rfl (fun K hK => ?_) .nil
      refine step_call 147 #[.tmp 14] _ rfl rfl #[.string xs[k].word] Tryz.call147 (by go_simp) (HW.out _) ?_
      rintro e w1 ⟨rfl, b1⟩
      refine ⟨_, rfl, ?_⟩
      have nb0 : wr.heap.size < (wr.alloc (.cells #[.string xs[k].word, .int .i64 xs[k].cost] 183)).drew.heap.size := by simp
      replace hS : (fun w' : World => w'.cell? ⟨wr.heap.size, 0, none⟩ = some (.string xs[k].word) ∧ w'.cell? ⟨wr.heap.size, 1, none⟩ = some (.int .i64 xs[k].cost)) w1 := ⟨(b1.cell (p := ⟨_, _, none⟩) nb0).trans hS.1, (b1.cell (p := ⟨_, _, none⟩) nb0).trans hS.2⟩
      dsimp only at hS
      refine hK.out _ _ ?_ (fun hHeld => ?_)
      · exact hS
      clear hK K hHeld
      simp only [Act.put, pA, pB, pC]
      refine tK (i := 3) (oi := zo118_4_3) (v := ?_) rfl (by kernel_rfl) (fun _ _ _ h => h) (Or.inl ⟨rfl, ?_⟩) hS ?_
      rotate_left
      · (intro w' hS'; (try dsimp only at hS'); dsimp only [zo118_4_3]; go_simp; try with_reducible rfl)
      simp only [Act.put, pA, pB, pC]
      refine tK (i := 4) (oi := zo118_4_4) (v := ?_) rfl (by kernel_rfl) (fun _ _ _ h => h) (Or.inl ⟨rfl, ?_⟩) hS ?_
      rotate_left
      · (intro w' hS'; (try dsimp only at hS'); dsimp only [zo118_4_4]; go_simp; try with_reducible rfl)
      simp only [Act.put, pA, pB, pC]
      refine tK (i := 5) (oi := zo118_4_5) rfl (by kernel_rfl) (fun _ _ _ h => h) (Or.inr ⟨rfl, rfl⟩) hS ?_
      simp only [Act.put, pA, pB, pC]
      refine tK (i := 6) (oi := zo118_4_6) rfl (by kernel_rfl) (fun _ _ _ h => h) (Or.inr ⟨rfl, rfl⟩) hS ?_
      simp only [Act.put, pA, pB, pC]
      refine tK (i := 7) (oi := zo118_4_7) rfl (by kernel_rfl) (fun _ _ _ h => h) (Or.inr ⟨rfl, rfl⟩) hS ?_
      simp only [Act.put, pA, pB, pC]
      refine tK (i := 8) (oi := zo118_4_8) rfl (by kernel_rfl) (fun _ _ _ h => h) (Or.inr ⟨rfl, rfl⟩) hS ?_
      simp only [Act.put, pA, pB, pC]
      refine tK (i := 9) (oi := zo118_4_9) (v := ?_) rfl (by kernel_rfl) (fun _ _ _ h => h) (Or.inl ⟨rfl, ?_⟩) hS ?_
      rotate_left
      · (intro w' hS'; (try dsimp only at hS'); dsimp only [zo118_4_9]; go_simp; try with_reducible rfl)
      simp only [Act.put, pA, pB, pC]
      refine tK (i := 10) (oi := zo118_4_10) (v := ?_) rfl (by kernel_rfl) (fun _ _ _ h => h) (Or.inl ⟨rfl, ?_⟩) hS ?_
      rotate_left
      · (intro w' hS'; (try dsimp only at hS'); dsimp only [zo118_4_10]; go_simp; try with_reducible rfl)
      simp only [Act.put, pA, pB, pC]
      refine tK (i := 11) (oi := zo118_4_11) rfl (by kernel_rfl) (fun _ _ _ h => h) (Or.inr ⟨rfl, rfl⟩) hS ?_
      simp only [Act.put, pA, pB, pC]
      refine tK (i := 12) (oi := zo118_4_12) rfl (by kernel_rfl) (fun _ _ _ h => h) (Or.inr ⟨rfl, rfl⟩) hS ?_
      simp only [Act.put, pA, pB, pC]
      refine tK (i := 13) (oi := zo118_4_13) rfl (by kernel_rfl) (fun _ _ _ h => h) (Or.inr ⟨rfl, rfl⟩) hS ?_
      simp only [Act.put, pA, pB, pC]
      refine tK (i := 14) (oi := zo118_4_14) rfl (by kernel_rfl) (fun _ _ _ h => h) (Or.inr ⟨rfl, rfl⟩) hS ?_
      simp only [Act.put, pA, pB, pC]
      refine tK (i := 15) (oi := zo118_4_15) rfl (by kernel_rfl) (fun _ _ _ h => h) (Or.inr ⟨rfl, rfl⟩) hS ?_
      simp only [Act.put, pA, pB, pC]
      refine tK (i := 16) (oi := zo118_4_16) rfl (by kernel_rfl) (fun _ _ _ h => h) (Or.inr ⟨rfl, rfl⟩) hS ?_
      simp only [Act.put, pA, pB, pC]
      refine tK (i := 17) (oi := zo118_4_17) rfl (by kernel_rfl) (fun _ _ _ h => h) (Or.inr ⟨rfl, rfl⟩) hS ?_
      simp only [Act.put, pA, pB, pC]
      refine tK (i := 18) (oi := zo118_4_18) rfl (by kernel_rfl) (fun _ _ _ h => h) (Or.inr ⟨rfl, rfl⟩) hS ?_
      simp only [Act.put, pA, pB, pC]
      refine tK (i := 19) (oi := zo118_4_19) rfl (by kernel_rfl) (fun _ _ _ h => h) (Or.inr ⟨rfl, rfl⟩) hS ?_
      simp only [Act.put, pA, pB, pC]
      refine tK (i := 20) (oi := zo118_4_20) rfl (by kernel_rfl) (fun _ _ _ h => h) (Or.inr ⟨rfl, rfl⟩) hS ?_
      simp only [Act.put, pA, pB, pC]
      refine tK (i := 21) (oi := zo118_4_21) rfl (by kernel_rfl) (fun _ _ _ h => h) (Or.inr ⟨rfl, rfl⟩) hS ?_
      simp only [Act.put, pA, pB, pC]
      refine tK (i := 22) (oi := zo118_4_22) rfl (by kernel_rfl) (fun _ _ _ h => h) (Or.inr ⟨rfl, rfl⟩) hS ?_
      simp only [Act.put, pA, pB, pC]
      refine tK (i := 23) (oi := zo118_4_23) rfl (by kernel_rfl) (fun _ _ _ h => h) (Or.inr ⟨rfl, rfl⟩) hS ?_
      simp only [Act.put, pA, pB, pC]
      refine tK (i := 24) (oi := zo118_4_24) rfl (by kernel_rfl) (fun _ _ _ h => h) (Or.inr ⟨rfl, rfl⟩) hS ?_
      simp only [Act.put, pA, pB, pC]
      refine tK (i := 25) (oi := zo118_4_25) (v := ?_) rfl (by kernel_rfl) (fun _ _ _ h => h) (Or.inl ⟨rfl, ?_⟩) hS ?_
      rotate_left
      · (intro w' hS'; (try dsimp only at hS'); dsimp only [zo118_4_25]; go_simp; try with_reducible rfl)
      simp only [Act.put, pA, pB, pC]
      refine wpAnyH_done (by kernel_rfl) ?_ _
      go_wp2_with fail
      go_ret
      exact ⟨ret_boolI HF.out.symm, al.trans (b1.mono (by simp; omega))⟩
    · simp only [hw] at HW
      cases hq : costB xs[k].cost
      · have HF := Lib.hid (lexB_false hlt (by rw [he, hw, hq]; rfl))
        simp only [hq] at HQ
        clear hr hw he hs1 hq
        go_wp2_with fail
        have hS : (fun w' : World => w'.cell? ⟨wr.heap.size, 0, none⟩ = some (.string xs[k].word) ∧ w'.cell? ⟨wr.heap.size, 1, none⟩ = some (.int .i64 xs[k].cost)) (wr.alloc (.cells #[.string xs[k].word, .int .i64 xs[k].cost] 183)).drew := ⟨RN.cell' (i := 0) rfl, RN.cell' (i := 1) rfl⟩
        dsimp only at hS
        refine wp_region_held_drew (S := (fun w' : World => w'.cell? ⟨wr.heap.size, 0, none⟩ = some (.string xs[k].word) ∧ w'.cell? ⟨wr.heap.size, 1, none⟩ = some (.int .i64 xs[k].cost))) (by kernel_rfl) hS (fun _ => ?_)
        refine tK (i := 0) (oi := zo118_4_0) (v := ?_) rfl (by kernel_rfl) (fun _ _ _ h => h) (Or.inl ⟨rfl, ?_⟩) hS ?_
        rotate_left
        · (intro w' hS'; (try dsimp only at hS'); dsimp only [zo118_4_0]; go_simp; try with_reducible rfl)
        simp only [Act.put, pA, pB, pC]
        refine tK (i := 1) (oi := zo118_4_1) (v := ?_) rfl (by kernel_rfl) (fun _ _ _ h => h) (Or.inl ⟨rfl, ?_⟩) hS ?_
        rotate_left
        · (intro w' hS'; (try dsimp only at hS'); dsimp only [zo118_4_1]; go_simp; try with_reducible rfl)
        simp only [Act.put, pA, pB, pC]
        refine wpAnyH_ready (rs := [2]) (by kernel_rfl) (by simp) ?_
        refine AllReadyH.cons (o := zo118_4_2) rfl (fun K hK => ?_) .nil
        refine step_call 147 #[.tmp 14] _ rfl rfl #[.string xs[k].word] Tryz.call147 (by go_simp) (HW.out _) ?_
        rintro e w1 ⟨rfl, b1⟩
        refine ⟨_, rfl, ?_⟩
        have nb0 : wr.heap.size < (wr.alloc (.cells #[.string xs[k].word, .int .i64 xs[k].cost] 183)).drew.heap.size := by simp
        replace hS : (fun w' : World => w'.cell? ⟨wr.heap.size, 0, none⟩ = some (.string xs[k].word) ∧ w'.cell? ⟨wr.heap.size, 1, none⟩ = some (.int .i64 xs[k].cost)) w1 := ⟨(b1.cell (p := ⟨_, _, none⟩) nb0).trans hS.1, (b1.cell (p := ⟨_, _, none⟩) nb0).trans hS.2⟩
        dsimp only at hS
        refine hK.out _ _ ?_ (fun hHeld => ?_)
        · exact hS
        clear hK K hHeld
        simp only [Act.put, pA, pB, pC]
        refine tK (i := 3) (oi := zo118_4_3) (v := ?_) rfl (by kernel_rfl) (fun _ _ _ h => h) (Or.inl ⟨rfl, ?_⟩) hS ?_
        rotate_left
        · (intro w' hS'; (try dsimp only at hS'); dsimp only [zo118_4_3]; go_simp; try with_reducible rfl)
        simp only [Act.put, pA, pB, pC]
        refine tK (i := 4) (oi := zo118_4_4) (v := ?_) rfl (by kernel_rfl) (fun _ _ _ h => h) (Or.inl ⟨rfl, ?_⟩) hS ?_
        rotate_left
        · (intro w' hS'; (try dsimp only at hS'); dsimp only [zo118_4_4]; go_simp; try with_reducible rfl)
        simp only [Act.put, pA, pB, pC]
        refine tK (i := 5) (oi := zo118_4_5) (v := ?_) rfl (by kernel_rfl) (fun _ _ _ h => h) (Or.inl ⟨rfl, ?_⟩) hS ?_
        rotate_left
        · (intro w' hS'; (try dsimp only at hS'); dsimp only [zo118_4_5]; go_simp; try with_reducible rfl)
        simp only [Act.put, pA, pB, pC]
        refine tK (i := 6) (oi := zo118_4_6) (v := ?_) rfl (by kernel_rfl) (fun _ _ _ h => h) (Or.inl ⟨rfl, ?_⟩) hS ?_
        rotate_left
        · (intro w' hS'; (try dsimp only at hS'); dsimp only [zo118_4_6]; go_simp; try with_reducible rfl)
        simp only [Act.put, pA, pB, pC]
        refine take_call (i := 7) (oi := zo118_4_7) rfl (by kernel_rfl) (by kernel_rfl) (by kernel_rfl) (fun _ _ _ h => h) 182 #[.tmp 19] _ rfl rfl #[.int .i64 xs[k].cost] Tryz.call182 (by go_simp) (fun w => HQ.out w) hS ?_
        simp only [Act.put, pA, pB, pC]
        refine tK (i := 8) (oi := zo118_4_8) (v := ?_) rfl (by kernel_rfl) (fun _ _ _ h => h) (Or.inl ⟨rfl, ?_⟩) hS ?_
        rotate_left
        · (intro w' hS'; (try dsimp only at hS'); dsimp only [zo118_4_8]; go_simp; try with_reducible rfl)
        simp only [Act.put, pA, pB, pC]
        refine tK (i := 9) (oi := zo118_4_9) (v := ?_) rfl (by kernel_rfl) (fun _ _ _ h => h) (Or.inl ⟨rfl, ?_⟩) hS ?_
        rotate_left
        · (intro w' hS'; (try dsimp only at hS'); dsimp only [zo118_4_9]; go_simp; try with_reducible rfl)
        simp only [Act.put, pA, pB, pC]
        refine tK (i := 10) (oi := zo118_4_10) (v := ?_) rfl (by kernel_rfl) (fun _ _ _ h => h) (Or.inl ⟨rfl, ?_⟩) hS ?_
        rotate_left
        · (intro w' hS'; (try dsimp only at hS'); dsimp only [zo118_4_10]; go_simp; try with_reducible rfl)
        simp only [Act.put, pA, pB, pC]
        refine tK (i := 11) (oi := zo118_4_11) rfl (by kernel_rfl) (fun _ _ _ h => h) (Or.inr ⟨rfl, rfl⟩) hS ?_
        simp only [Act.put, pA, pB, pC]
        refine tK (i := 12) (oi := zo118_4_12) rfl (by kernel_rfl) (fun _ _ _ h => h) (Or.inr ⟨rfl, rfl⟩) hS ?_
        simp only [Act.put, pA, pB, pC]
        refine tK (i := 13) (oi := zo118_4_13) rfl (by kernel_rfl) (fun _ _ _ h => h) (Or.inr ⟨rfl, rfl⟩) hS ?_
        simp only [Act.put, pA, pB, pC]
        refine tK (i := 14) (oi := zo118_4_14) rfl (by kernel_rfl) (fun _ _ _ h => h) (Or.inr ⟨rfl, rfl⟩) hS ?_
        simp only [Act.put, pA, pB, pC]
        refine tK (i := 15) (oi := zo118_4_15) rfl (by kernel_rfl) (fun _ _ _ h => h) (Or.inr ⟨rfl, rfl⟩) hS ?_
        simp only [Act.put, pA, pB, pC]
        refine tK (i := 16) (oi := zo118_4_16) rfl (by kernel_rfl) (fun _ _ _ h => h) (Or.inr ⟨rfl, rfl⟩) hS ?_
        simp only [Act.put, pA, pB, pC]
        refine tK (i := 17) (oi := zo118_4_17) rfl (by kernel_rfl) (fun _ _ _ h => h) (Or.inr ⟨rfl, rfl⟩) hS ?_
        simp only [Act.put, pA, pB, pC]
        refine tK (i := 18) (oi := zo118_4_18) rfl (by kernel_rfl) (fun _ _ _ h => h) (Or.inr ⟨rfl, rfl⟩) hS ?_
        simp only [Act.put, pA, pB, pC]
        refine tK (i := 19) (oi := zo118_4_19) rfl (by kernel_rfl) (fun _ _ _ h => h) (Or.inr ⟨rfl, rfl⟩) hS ?_
        simp only [Act.put, pA, pB, pC]
        refine tK (i := 20) (oi := zo118_4_20) rfl (by kernel_rfl) (fun _ _ _ h => h) (Or.inr ⟨rfl, rfl⟩) hS ?_
        simp only [Act.put, pA, pB, pC]
        refine tK (i := 21) (oi := zo118_4_21) rfl (by kernel_rfl) (fun _ _ _ h => h) (Or.inr ⟨rfl, rfl⟩) hS ?_
        simp only [Act.put, pA, pB, pC]
        refine tK (i := 22) (oi := zo118_4_22) rfl (by kernel_rfl) (fun _ _ _ h => h) (Or.inr ⟨rfl, rfl⟩) hS ?_
        simp only [Act.put, pA, pB, pC]
        refine tK (i := 23) (oi := zo118_4_23) rfl (by kernel_rfl) (fun _ _ _ h => h) (Or.inr ⟨rfl, rfl⟩) hS ?_
        simp only [Act.put, pA, pB, pC]
        refine tK (i := 24) (oi := zo118_4_24) rfl (by kernel_rfl) (fun _ _ _ h => h) (Or.inr ⟨rfl, rfl⟩) hS ?_
        simp only [Act.put, pA, pB, pC]
        refine tK (i := 25) (oi := zo118_4_25) (v := ?_) rfl (by kernel_rfl) (fun _ _ _ h => h) (Or.inl ⟨rfl, ?_⟩) hS ?_
        rotate_left
        · (intro w' hS'; (try dsimp only at hS'); dsimp only [zo118_4_25]; go_simp; try with_reducible rfl)
        simp only [Act.put, pA, pB, pC]
        refine wpAnyH_done (by kernel_rfl) ?_ _
        go_wp2_with fail
        go_ret
        exact ⟨ret_boolI HF.out.symm, al.trans (b1.mono (by simp; omega))⟩
      · simp only [hq] at HQ
        by_cases hz : k = 0
        · have HK : Hid (entsOk xs (k + 1) = true) := by show _ = _; rw [hs1, hok.out, he, hw, hq]; simp [hz]
          have g0 : (0 < k) = False := eq_false (by omega)
          clear hr hz hw he hs1 hq
          go_wp2_with fail
          have hS : (fun w' : World => w'.cell? ⟨wr.heap.size, 0, none⟩ = some (.string xs[k].word) ∧ w'.cell? ⟨wr.heap.size, 1, none⟩ = some (.int .i64 xs[k].cost)) (wr.alloc (.cells #[.string xs[k].word, .int .i64 xs[k].cost] 183)).drew := ⟨RN.cell' (i := 0) rfl, RN.cell' (i := 1) rfl⟩
          dsimp only at hS
          refine wp_region_held_drew (S := (fun w' : World => w'.cell? ⟨wr.heap.size, 0, none⟩ = some (.string xs[k].word) ∧ w'.cell? ⟨wr.heap.size, 1, none⟩ = some (.int .i64 xs[k].cost))) (by kernel_rfl) hS (fun _ => ?_)
          refine tK (i := 0) (oi := zo118_4_0) (v := ?_) rfl (by kernel_rfl) (fun _ _ _ h => h) (Or.inl ⟨rfl, ?_⟩) hS ?_
          rotate_left
          · (intro w' hS'; (try dsimp only at hS'); dsimp only [zo118_4_0]; go_simp; try with_reducible rfl)
          simp only [Act.put, pA, pB, pC]
          refine tK (i := 1) (oi := zo118_4_1) (v := ?_) rfl (by kernel_rfl) (fun _ _ _ h => h) (Or.inl ⟨rfl, ?_⟩) hS ?_
          rotate_left
          · (intro w' hS'; (try dsimp only at hS'); dsimp only [zo118_4_1]; go_simp; try with_reducible rfl)
          simp only [Act.put, pA, pB, pC]
          refine wpAnyH_ready (rs := [2]) (by kernel_rfl) (by simp) ?_
          refine AllReadyH.cons (o := zo118_4_2) rfl (fun K hK => ?_) .nil
          refine step_call 147 #[.tmp 14] _ rfl rfl #[.string xs[k].word] Tryz.call147 (by go_simp) (HW.out _) ?_
          rintro e w1 ⟨rfl, b1⟩
          refine ⟨_, rfl, ?_⟩
          have nb0 : wr.heap.size < (wr.alloc (.cells #[.string xs[k].word, .int .i64 xs[k].cost] 183)).drew.heap.size := by simp
          replace hS : (fun w' : World => w'.cell? ⟨wr.heap.size, 0, none⟩ = some (.string xs[k].word) ∧ w'.cell? ⟨wr.heap.size, 1, none⟩ = some (.int .i64 xs[k].cost)) w1 := ⟨(b1.cell (p := ⟨_, _, none⟩) nb0).trans hS.1, (b1.cell (p := ⟨_, _, none⟩) nb0).trans hS.2⟩
          dsimp only at hS
          refine hK.out _ _ ?_ (fun hHeld => ?_)
          · exact hS
          clear hK K hHeld
          simp only [Act.put, pA, pB, pC]
          refine tK (i := 3) (oi := zo118_4_3) (v := ?_) rfl (by kernel_rfl) (fun _ _ _ h => h) (Or.inl ⟨rfl, ?_⟩) hS ?_
          rotate_left
          · (intro w' hS'; (try dsimp only at hS'); dsimp only [zo118_4_3]; go_simp; try with_reducible rfl)
          simp only [Act.put, pA, pB, pC]
          refine tK (i := 4) (oi := zo118_4_4) (v := ?_) rfl (by kernel_rfl) (fun _ _ _ h => h) (Or.inl ⟨rfl, ?_⟩) hS ?_
          rotate_left
          · (intro w' hS'; (try dsimp only at hS'); dsimp only [zo118_4_4]; go_simp; try with_reducible rfl)
          simp only [Act.put, pA, pB, pC]
          refine tK (i := 5) (oi := zo118_4_5) (v := ?_) rfl (by kernel_rfl) (fun _ _ _ h => h) (Or.inl ⟨rfl, ?_⟩) hS ?_
          rotate_left
          · (intro w' hS'; (try dsimp only at hS'); dsimp only [zo118_4_5]; go_simp; try with_reducible rfl)
          simp only [Act.put, pA, pB, pC]
          refine tK (i := 6) (oi := zo118_4_6) (v := ?_) rfl (by kernel_rfl) (fun _ _ _ h => h) (Or.inl ⟨rfl, ?_⟩) hS ?_
          rotate_left
          · (intro w' hS'; (try dsimp only at hS'); dsimp only [zo118_4_6]; go_simp; try with_reducible rfl)
          simp only [Act.put, pA, pB, pC]
          refine take_call (i := 7) (oi := zo118_4_7) rfl (by kernel_rfl) (by kernel_rfl) (by kernel_rfl) (fun _ _ _ h => h) 182 #[.tmp 19] _ rfl rfl #[.int .i64 xs[k].cost] Tryz.call182 (by go_simp) (fun w => HQ.out w) hS ?_
          simp only [Act.put, pA, pB, pC]
          refine tK (i := 8) (oi := zo118_4_8) (v := ?_) rfl (by kernel_rfl) (fun _ _ _ h => h) (Or.inl ⟨rfl, ?_⟩) hS ?_
          rotate_left
          · (intro w' hS'; (try dsimp only at hS'); dsimp only [zo118_4_8]; go_simp; try with_reducible rfl)
          simp only [Act.put, pA, pB, pC]
          refine tK (i := 9) (oi := zo118_4_9) (v := ?_) rfl (by kernel_rfl) (fun _ _ _ h => h) (Or.inl ⟨rfl, ?_⟩) hS ?_
          rotate_left
          · (intro w' hS'; (try dsimp only at hS'); dsimp only [zo118_4_9]; go_simp; try with_reducible rfl)
          simp only [Act.put, pA, pB, pC]
          refine tK (i := 10) (oi := zo118_4_10) (v := ?_) rfl (by kernel_rfl) (fun _ _ _ h => h) (Or.inl ⟨rfl, ?_⟩) hS ?_
          rotate_left
          · (intro w' hS'; (try dsimp only at hS'); dsimp only [zo118_4_10]; go_simp; try with_reducible rfl)
          simp only [Act.put, pA, pB, pC]
          refine tK (i := 11) (oi := zo118_4_11) (v := ?_) rfl (by kernel_rfl) (fun _ _ _ h => h) (Or.inl ⟨rfl, ?_⟩) hS ?_
          rotate_left
          · (intro w' hS'; (try dsimp only at hS'); dsimp only [zo118_4_11]; go_simp; try with_reducible rfl)
          simp only [Act.put, pA, pB, pC]
          refine tK (i := 12) (oi := zo118_4_12) (v := ?_) rfl (by kernel_rfl) (fun _ _ _ h => h) (Or.inl ⟨rfl, ?_⟩) hS ?_
          rotate_left
          · (intro w' hS'; (try dsimp only at hS'); dsimp only [zo118_4_12]; go_simp; try with_reducible rfl)
          simp only [Act.put, pA, pB, pC]
          refine tK (i := 13) (oi := zo118_4_13) (v := ?_) rfl (by kernel_rfl) (fun _ _ _ h => h) (Or.inl ⟨rfl, ?_⟩) hS ?_
          rotate_left
          · (intro w' hS'; (try dsimp only at hS'); dsimp only [zo118_4_13]; go_simp; try with_reducible rfl)
          simp only [Act.put, pA, pB, pC]
          refine tK (i := 14) (oi := zo118_4_14) rfl (by kernel_rfl) (fun _ _ _ h => h) (Or.inr ⟨rfl, rfl⟩) hS ?_
          simp only [Act.put, pA, pB, pC]
          refine tK (i := 15) (oi := zo118_4_15) rfl (by kernel_rfl) (fun _ _ _ h => h) (Or.inr ⟨rfl, rfl⟩) hS ?_
          simp only [Act.put, pA, pB, pC]
          refine tK (i := 16) (oi := zo118_4_16) rfl (by kernel_rfl) (fun _ _ _ h => h) (Or.inr ⟨rfl, rfl⟩) hS ?_
          simp only [Act.put, pA, pB, pC]
          refine tK (i := 17) (oi := zo118_4_17) rfl (by kernel_rfl) (fun _ _ _ h => h) (Or.inr ⟨rfl, rfl⟩) hS ?_
          simp only [Act.put, pA, pB, pC]
          refine tK (i := 18) (oi := zo118_4_18) rfl (by kernel_rfl) (fun _ _ _ h => h) (Or.inr ⟨rfl, rfl⟩) hS ?_
          simp only [Act.put, pA, pB, pC]
          refine tK (i := 19) (oi := zo118_4_19) rfl (by kernel_rfl) (fun _ _ _ h => h) (Or.inr ⟨rfl, rfl⟩) hS ?_
          simp only [Act.put, pA, pB, pC]
          refine tK (i := 20) (oi := zo118_4_20) rfl (by kernel_rfl) (fun _ _ _ h => h) (Or.inr ⟨rfl, rfl⟩) hS ?_
          simp only [Act.put, pA, pB, pC]
          refine tK (i := 21) (oi := zo118_4_21) rfl (by kernel_rfl) (fun _ _ _ h => h) (Or.inr ⟨rfl, rfl⟩) hS ?_
          simp only [Act.put, pA, pB, pC]
          refine tK (i := 22) (oi := zo118_4_22) rfl (by kernel_rfl) (fun _ _ _ h => h) (Or.inr ⟨rfl, rfl⟩) hS ?_
          simp only [Act.put, pA, pB, pC]
          refine tK (i := 23) (oi := zo118_4_23) rfl (by kernel_rfl) (fun _ _ _ h => h) (Or.inr ⟨rfl, rfl⟩) hS ?_
          simp only [Act.put, pA, pB, pC]
          refine tK (i := 24) (oi := zo118_4_24) (v := ?_) rfl (by kernel_rfl) (fun _ _ _ h => h) (Or.inl ⟨rfl, ?_⟩) hS ?_
          rotate_left
          · (intro w' hS'; (try dsimp only at hS'); dsimp only [zo118_4_24]; go_simp; try with_reducible rfl)
          simp only [Act.put, pA, pB, pC]
          refine tK (i := 25) (oi := zo118_4_25) (v := ?_) rfl (by kernel_rfl) (fun _ _ _ h => h) (Or.inl ⟨rfl, ?_⟩) hS ?_
          rotate_left
          · (intro w' hS'; (try dsimp only at hS'); dsimp only [zo118_4_25]; go_simp; try with_reducible rfl)
          simp only [Act.put, pA, pB, pC]
          refine wpAnyH_done (by kernel_rfl) ?_ _
          go_wp2_with fail
          go_roundw
          case rel => exact ⟨k + 1, by omega, by go_num, HK, (b1.cell (p := ⟨_, _, none⟩) (by simp; omega)).trans (kp _ _ _ hsl hself), Nat.lt_of_lt_of_le (by simp; omega) b1.size, al.trans (b1.mono (by simp; omega))⟩
          case measure => simp [intOf]; omega
        · obtain ⟨j, hj⟩ : ∃ j, k = j + 1 := ⟨k - 1, by omega⟩
          have jl : j < xs.length := by omega
          obtain ⟨b', off', e', hbb', _, h3, _⟩ := hr j jl
          injection e' with e'
          injection e' with e1 e2 _
          subst e1; subst e2
          rw [← hb.cell (p := ⟨b, _, none⟩) hbb] at h3
          have g0 : (0 < k) = True := eq_true (by omega)
          have gj : IntKind.i64.wrap ((k : Int) - 1) = (j : Int) := (IntWalk.i64_in _ (by omega)).trans (by omega)
          have jl' : (j : Int) < (xs.length : Int) := by omega
          have j0 : (0 : Int) ≤ (j : Int) := by omega
          have hen : entAt xs (k - 1) = xs[j] := by subst hj; exact entAt_get jl
          have hle := leq_iff xs[k].word xs[j].word
          have dk : decide (k = 0) = false := decide_eq_false hz
          rw [hen, hw, hq, dk] at he
          clear hr
          cases hlw : bLess xs[j].word xs[k].word
          · have HF := Lib.hid (lexB_false hlt (by rw [he, hlw]; rfl))
            rw [hlw] at hle
            have HJ := Lib.hid hj
            clear hj hz hw he hs1 hq hen dk hlw
            go_wp2_with fail
            have hS : (fun w' : World => w'.cell? ⟨wr.heap.size, 0, none⟩ = some (.string xs[k].word) ∧ w'.cell? ⟨wr.heap.size, 1, none⟩ = some (.int .i64 xs[k].cost) ∧ w'.cell? ⟨w.heap.size, 0, none⟩ = some (.slice (some ⟨b, off, none⟩) xs.length c) ∧ w'.cell? ⟨b, off + j * 2, none⟩ = some (.string xs[j].word)) (wr.alloc (.cells #[.string xs[k].word, .int .i64 xs[k].cost] 183)).drew := ⟨RN.cell' (i := 0) rfl, RN.cell' (i := 1) rfl, kp _ _ _ hsl hself, kp _ _ _ (by omega) h3⟩
            dsimp only at hS
            refine wp_region_held_drew (S := (fun w' : World => w'.cell? ⟨wr.heap.size, 0, none⟩ = some (.string xs[k].word) ∧ w'.cell? ⟨wr.heap.size, 1, none⟩ = some (.int .i64 xs[k].cost) ∧ w'.cell? ⟨w.heap.size, 0, none⟩ = some (.slice (some ⟨b, off, none⟩) xs.length c) ∧ w'.cell? ⟨b, off + j * 2, none⟩ = some (.string xs[j].word))) (by kernel_rfl) hS (fun _ => ?_)
            refine tK (i := 0) (oi := zo118_4_0) (v := ?_) rfl (by kernel_rfl) (fun _ _ _ h => h) (Or.inl ⟨rfl, ?_⟩) hS ?_
            rotate_left
            · (intro w' hS'; (try dsimp only at hS'); dsimp only [zo118_4_0]; go_simp; try with_reducible rfl)
            simp only [Act.put, pA, pB, pC]
            refine tK (i := 1) (oi := zo118_4_1) (v := ?_) rfl (by kernel_rfl) (fun _ _ _ h => h) (Or.inl ⟨rfl, ?_⟩) hS ?_
            rotate_left
            · (intro w' hS'; (try dsimp only at hS'); dsimp only [zo118_4_1]; go_simp; try with_reducible rfl)
            simp only [Act.put, pA, pB, pC]
            refine wpAnyH_ready (rs := [2]) (by kernel_rfl) (by simp) ?_
            refine AllReadyH.cons (o := zo118_4_2) rfl (fun K hK => ?_) .nil
            refine step_call 147 #[.tmp 14] _ rfl rfl #[.string xs[k].word] Tryz.call147 (by go_simp) (HW.out _) ?_
            rintro e w1 ⟨rfl, b1⟩
            refine ⟨_, rfl, ?_⟩
            have nb0 : wr.heap.size < (wr.alloc (.cells #[.string xs[k].word, .int .i64 xs[k].cost] 183)).drew.heap.size := by simp
            have nbw : w.heap.size < (wr.alloc (.cells #[.string xs[k].word, .int .i64 xs[k].cost] 183)).drew.heap.size := by simp; omega
            have nbb : b < (wr.alloc (.cells #[.string xs[k].word, .int .i64 xs[k].cost] 183)).drew.heap.size := by simp; omega
            replace hS : (fun w' : World => w'.cell? ⟨wr.heap.size, 0, none⟩ = some (.string xs[k].word) ∧ w'.cell? ⟨wr.heap.size, 1, none⟩ = some (.int .i64 xs[k].cost) ∧ w'.cell? ⟨w.heap.size, 0, none⟩ = some (.slice (some ⟨b, off, none⟩) xs.length c) ∧ w'.cell? ⟨b, off + j * 2, none⟩ = some (.string xs[j].word)) w1 := ⟨(b1.cell (p := ⟨_, _, none⟩) nb0).trans hS.1, (b1.cell (p := ⟨_, _, none⟩) nb0).trans hS.2.1, (b1.cell (p := ⟨_, _, none⟩) nbw).trans hS.2.2.1, (b1.cell (p := ⟨_, _, none⟩) nbb).trans hS.2.2.2⟩
            dsimp only at hS
            refine hK.out _ _ ?_ (fun hHeld => ?_)
            · exact hS
            clear hK K hHeld
            simp only [Act.put, pA, pB, pC]
            refine tK (i := 3) (oi := zo118_4_3) (v := ?_) rfl (by kernel_rfl) (fun _ _ _ h => h) (Or.inl ⟨rfl, ?_⟩) hS ?_
            rotate_left
            · (intro w' hS'; (try dsimp only at hS'); dsimp only [zo118_4_3]; go_simp; try with_reducible rfl)
            simp only [Act.put, pA, pB, pC]
            refine tK (i := 4) (oi := zo118_4_4) (v := ?_) rfl (by kernel_rfl) (fun _ _ _ h => h) (Or.inl ⟨rfl, ?_⟩) hS ?_
            rotate_left
            · (intro w' hS'; (try dsimp only at hS'); dsimp only [zo118_4_4]; go_simp; try with_reducible rfl)
            simp only [Act.put, pA, pB, pC]
            refine tK (i := 5) (oi := zo118_4_5) (v := ?_) rfl (by kernel_rfl) (fun _ _ _ h => h) (Or.inl ⟨rfl, ?_⟩) hS ?_
            rotate_left
            · (intro w' hS'; (try dsimp only at hS'); dsimp only [zo118_4_5]; go_simp; try with_reducible rfl)
            simp only [Act.put, pA, pB, pC]
            refine tK (i := 6) (oi := zo118_4_6) (v := ?_) rfl (by kernel_rfl) (fun _ _ _ h => h) (Or.inl ⟨rfl, ?_⟩) hS ?_
            rotate_left
            · (intro w' hS'; (try dsimp only at hS'); dsimp only [zo118_4_6]; go_simp; try with_reducible rfl)
            simp only [Act.put, pA, pB, pC]
            refine take_call (i := 7) (oi := zo118_4_7) rfl (by kernel_rfl) (by kernel_rfl) (by kernel_rfl) (fun _ _ _ h => h) 182 #[.tmp 19] _ rfl rfl #[.int .i64 xs[k].cost] Tryz.call182 (by go_simp) (fun w => HQ.out w) hS ?_
            simp only [Act.put, pA, pB, pC]
            refine tK (i := 8) (oi := zo118_4_8) (v := ?_) rfl (by kernel_rfl) (fun _ _ _ h => h) (Or.inl ⟨rfl, ?_⟩) hS ?_
            rotate_left
            · (intro w' hS'; (try dsimp only at hS'); dsimp only [zo118_4_8]; go_simp; try with_reducible rfl)
            simp only [Act.put, pA, pB, pC]
            refine tK (i := 9) (oi := zo118_4_9) (v := ?_) rfl (by kernel_rfl) (fun _ _ _ h => h) (Or.inl ⟨rfl, ?_⟩) hS ?_
            rotate_left
            · (intro w' hS'; (try dsimp only at hS'); dsimp only [zo118_4_9]; go_simp; try with_reducible rfl)
            simp only [Act.put, pA, pB, pC]
            refine tK (i := 10) (oi := zo118_4_10) (v := ?_) rfl (by kernel_rfl) (fun _ _ _ h => h) (Or.inl ⟨rfl, ?_⟩) hS ?_
            rotate_left
            · (intro w' hS'; (try dsimp only at hS'); dsimp only [zo118_4_10]; go_simp; try with_reducible rfl)
            simp only [Act.put, pA, pB, pC]
            refine tK (i := 11) (oi := zo118_4_11) (v := ?_) rfl (by kernel_rfl) (fun _ _ _ h => h) (Or.inl ⟨rfl, ?_⟩) hS ?_
            rotate_left
            · (intro w' hS'; (try dsimp only at hS'); dsimp only [zo118_4_11]; go_simp; try with_reducible rfl)
            simp only [Act.put, pA, pB, pC]
            refine tK (i := 12) (oi := zo118_4_12) (v := ?_) rfl (by kernel_rfl) (fun _ _ _ h => h) (Or.inl ⟨rfl, ?_⟩) hS ?_
            rotate_left
            · (intro w' hS'; (try dsimp only at hS'); dsimp only [zo118_4_12]; go_simp; try with_reducible rfl)
            simp only [Act.put, pA, pB, pC]
            refine tK (i := 13) (oi := zo118_4_13) (v := ?_) rfl (by kernel_rfl) (fun _ _ _ h => h) (Or.inl ⟨rfl, ?_⟩) hS ?_
            rotate_left
            · (intro w' hS'; (try dsimp only at hS'); dsimp only [zo118_4_13]; go_simp; try with_reducible rfl)
            simp only [Act.put, pA, pB, pC]
            refine tK (i := 14) (oi := zo118_4_14) (v := ?_) rfl (by kernel_rfl) (fun _ _ _ h => h) (Or.inl ⟨rfl, ?_⟩) hS ?_
            rotate_left
            · (intro w' hS'; (try dsimp only at hS'); dsimp only [zo118_4_14]; go_simp; try with_reducible rfl)
            simp only [Act.put, pA, pB, pC]
            refine tK (i := 15) (oi := zo118_4_15) (v := ?_) rfl (by kernel_rfl) (fun _ _ _ h => h) (Or.inl ⟨rfl, ?_⟩) hS ?_
            rotate_left
            · (intro w' hS'; (try dsimp only at hS'); dsimp only [zo118_4_15]; go_simp; try with_reducible rfl)
            simp only [Act.put, pA, pB, pC]
            refine tK (i := 16) (oi := zo118_4_16) (v := ?_) rfl (by kernel_rfl) (fun _ _ _ h => h) (Or.inl ⟨rfl, ?_⟩) hS ?_
            rotate_left
            · (intro w' hS'; (try dsimp only at hS'); dsimp only [zo118_4_16]; go_simp; try with_reducible rfl)
            simp only [Act.put, pA, pB, pC]
            refine tK (i := 17) (oi := zo118_4_17) (v := ?_) rfl (by kernel_rfl) (fun _ _ _ h => h) (Or.inl ⟨rfl, ?_⟩) hS ?_
            rotate_left
            · (intro w' hS'; (try dsimp only at hS'); dsimp only [zo118_4_17]; go_simp; try with_reducible rfl)
            simp only [Act.put, pA, pB, pC]
            refine tK (i := 18) (oi := zo118_4_18) (v := ?_) rfl (by kernel_rfl) (fun _ _ _ h => h) (Or.inl ⟨rfl, ?_⟩) hS ?_
            rotate_left
            · (intro w' hS'; (try dsimp only at hS'); dsimp only [zo118_4_18]; go_simp; try with_reducible rfl)
            simp only [Act.put, pA, pB, pC]
            refine tK (i := 19) (oi := zo118_4_19) (v := ?_) rfl (by kernel_rfl) (fun _ _ _ h => h) (Or.inl ⟨rfl, ?_⟩) hS ?_
            rotate_left
            · (intro w' hS'; (try dsimp only at hS'); dsimp only [zo118_4_19]; go_simp; try with_reducible rfl)
            simp only [Act.put, pA, pB, pC]
            refine tK (i := 20) (oi := zo118_4_20) (v := ?_) rfl (by kernel_rfl) (fun _ _ _ h => h) (Or.inl ⟨rfl, ?_⟩) hS ?_
            rotate_left
            · (intro w' hS'; (try dsimp only at hS'); dsimp only [zo118_4_20]; go_simp; try with_reducible rfl)
            simp only [Act.put, pA, pB, pC]
            refine tK (i := 21) (oi := zo118_4_21) (v := ?_) rfl (by kernel_rfl) (fun _ _ _ h => h) (Or.inl ⟨rfl, ?_⟩) hS ?_
            rotate_left
            · (intro w' hS'; (try dsimp only at hS'); dsimp only [zo118_4_21]; go_simp; try with_reducible rfl)
            simp only [Act.put, pA, pB, pC]
            refine tK (i := 22) (oi := zo118_4_22) (v := ?_) rfl (by kernel_rfl) (fun _ _ _ h => h) (Or.inl ⟨rfl, ?_⟩) hS ?_
            rotate_left
            · (intro w' hS'; (try dsimp only at hS'); dsimp only [zo118_4_22]; go_simp; try with_reducible rfl)
            simp only [Act.put, pA, pB, pC]
            refine tK (i := 23) (oi := zo118_4_23) (v := ?_) rfl (by kernel_rfl) (fun _ _ _ h => h) (Or.inl ⟨rfl, ?_⟩) hS ?_
            rotate_left
            · (intro w' hS'; (try dsimp only at hS'); dsimp only [zo118_4_23]; go_simp; try with_reducible rfl)
            simp only [Act.put, pA, pB, pC]
            refine tK (i := 24) (oi := zo118_4_24) (v := ?_) rfl (by kernel_rfl) (fun _ _ _ h => h) (Or.inl ⟨rfl, ?_⟩) hS ?_
            rotate_left
            · (intro w' hS'; (try dsimp only at hS'); dsimp only [zo118_4_24]; go_simp; try with_reducible rfl)
            simp only [Act.put, pA, pB, pC]
            refine tK (i := 25) (oi := zo118_4_25) (v := ?_) rfl (by kernel_rfl) (fun _ _ _ h => h) (Or.inl ⟨rfl, ?_⟩) hS ?_
            rotate_left
            · (intro w' hS'; (try dsimp only at hS'); dsimp only [zo118_4_25]; go_simp; try with_reducible rfl)
            simp only [Act.put, pA, pB, pC]
            refine wpAnyH_done (by kernel_rfl) ?_ _
            go_wp2_with fail
            go_ret
            exact ⟨ret_boolI HF.out.symm, al.trans (b1.mono (by simp; omega))⟩
          · have HK : Hid (entsOk xs (k + 1) = true) := by show _ = _; rw [hs1, hok.out, he, hlw]; rfl
            rw [hlw] at hle
            have HJ := Lib.hid hj
            clear hj hz hw he hs1 hq hen dk hlw
            go_wp2_with fail
            have hS : (fun w' : World => w'.cell? ⟨wr.heap.size, 0, none⟩ = some (.string xs[k].word) ∧ w'.cell? ⟨wr.heap.size, 1, none⟩ = some (.int .i64 xs[k].cost) ∧ w'.cell? ⟨w.heap.size, 0, none⟩ = some (.slice (some ⟨b, off, none⟩) xs.length c) ∧ w'.cell? ⟨b, off + j * 2, none⟩ = some (.string xs[j].word)) (wr.alloc (.cells #[.string xs[k].word, .int .i64 xs[k].cost] 183)).drew := ⟨RN.cell' (i := 0) rfl, RN.cell' (i := 1) rfl, kp _ _ _ hsl hself, kp _ _ _ (by omega) h3⟩
            dsimp only at hS
            refine wp_region_held_drew (S := (fun w' : World => w'.cell? ⟨wr.heap.size, 0, none⟩ = some (.string xs[k].word) ∧ w'.cell? ⟨wr.heap.size, 1, none⟩ = some (.int .i64 xs[k].cost) ∧ w'.cell? ⟨w.heap.size, 0, none⟩ = some (.slice (some ⟨b, off, none⟩) xs.length c) ∧ w'.cell? ⟨b, off + j * 2, none⟩ = some (.string xs[j].word))) (by kernel_rfl) hS (fun _ => ?_)
            refine tK (i := 0) (oi := zo118_4_0) (v := ?_) rfl (by kernel_rfl) (fun _ _ _ h => h) (Or.inl ⟨rfl, ?_⟩) hS ?_
            rotate_left
            · (intro w' hS'; (try dsimp only at hS'); dsimp only [zo118_4_0]; go_simp; try with_reducible rfl)
            simp only [Act.put, pA, pB, pC]
            refine tK (i := 1) (oi := zo118_4_1) (v := ?_) rfl (by kernel_rfl) (fun _ _ _ h => h) (Or.inl ⟨rfl, ?_⟩) hS ?_
            rotate_left
            · (intro w' hS'; (try dsimp only at hS'); dsimp only [zo118_4_1]; go_simp; try with_reducible rfl)
            simp only [Act.put, pA, pB, pC]
            refine wpAnyH_ready (rs := [2]) (by kernel_rfl) (by simp) ?_
            refine AllReadyH.cons (o := zo118_4_2) rfl (fun K hK => ?_) .nil
            refine step_call 147 #[.tmp 14] _ rfl rfl #[.string xs[k].word] Tryz.call147 (by go_simp) (HW.out _) ?_
            rintro e w1 ⟨rfl, b1⟩
            refine ⟨_, rfl, ?_⟩
            have nb0 : wr.heap.size < (wr.alloc (.cells #[.string xs[k].word, .int .i64 xs[k].cost] 183)).drew.heap.size := by simp
            have nbw : w.heap.size < (wr.alloc (.cells #[.string xs[k].word, .int .i64 xs[k].cost] 183)).drew.heap.size := by simp; omega
            have nbb : b < (wr.alloc (.cells #[.string xs[k].word, .int .i64 xs[k].cost] 183)).drew.heap.size := by simp; omega
            replace hS : (fun w' : World => w'.cell? ⟨wr.heap.size, 0, none⟩ = some (.string xs[k].word) ∧ w'.cell? ⟨wr.heap.size, 1, none⟩ = some (.int .i64 xs[k].cost) ∧ w'.cell? ⟨w.heap.size, 0, none⟩ = some (.slice (some ⟨b, off, none⟩) xs.length c) ∧ w'.cell? ⟨b, off + j * 2, none⟩ = some (.string xs[j].word)) w1 := ⟨(b1.cell (p := ⟨_, _, none⟩) nb0).trans hS.1, (b1.cell (p := ⟨_, _, none⟩) nb0).trans hS.2.1, (b1.cell (p := ⟨_, _, none⟩) nbw).trans hS.2.2.1, (b1.cell (p := ⟨_, _, none⟩) nbb).trans hS.2.2.2⟩
            dsimp only at hS
            refine hK.out _ _ ?_ (fun hHeld => ?_)
            · exact hS
            clear hK K hHeld
            simp only [Act.put, pA, pB, pC]
            refine tK (i := 3) (oi := zo118_4_3) (v := ?_) rfl (by kernel_rfl) (fun _ _ _ h => h) (Or.inl ⟨rfl, ?_⟩) hS ?_
            rotate_left
            · (intro w' hS'; (try dsimp only at hS'); dsimp only [zo118_4_3]; go_simp; try with_reducible rfl)
            simp only [Act.put, pA, pB, pC]
            refine tK (i := 4) (oi := zo118_4_4) (v := ?_) rfl (by kernel_rfl) (fun _ _ _ h => h) (Or.inl ⟨rfl, ?_⟩) hS ?_
            rotate_left
            · (intro w' hS'; (try dsimp only at hS'); dsimp only [zo118_4_4]; go_simp; try with_reducible rfl)
            simp only [Act.put, pA, pB, pC]
            refine tK (i := 5) (oi := zo118_4_5) (v := ?_) rfl (by kernel_rfl) (fun _ _ _ h => h) (Or.inl ⟨rfl, ?_⟩) hS ?_
            rotate_left
            · (intro w' hS'; (try dsimp only at hS'); dsimp only [zo118_4_5]; go_simp; try with_reducible rfl)
            simp only [Act.put, pA, pB, pC]
            refine tK (i := 6) (oi := zo118_4_6) (v := ?_) rfl (by kernel_rfl) (fun _ _ _ h => h) (Or.inl ⟨rfl, ?_⟩) hS ?_
            rotate_left
            · (intro w' hS'; (try dsimp only at hS'); dsimp only [zo118_4_6]; go_simp; try with_reducible rfl)
            simp only [Act.put, pA, pB, pC]
            refine take_call (i := 7) (oi := zo118_4_7) rfl (by kernel_rfl) (by kernel_rfl) (by kernel_rfl) (fun _ _ _ h => h) 182 #[.tmp 19] _ rfl rfl #[.int .i64 xs[k].cost] Tryz.call182 (by go_simp) (fun w => HQ.out w) hS ?_
            simp only [Act.put, pA, pB, pC]
            refine tK (i := 8) (oi := zo118_4_8) (v := ?_) rfl (by kernel_rfl) (fun _ _ _ h => h) (Or.inl ⟨rfl, ?_⟩) hS ?_
            rotate_left
            · (intro w' hS'; (try dsimp only at hS'); dsimp only [zo118_4_8]; go_simp; try with_reducible rfl)
            simp only [Act.put, pA, pB, pC]
            refine tK (i := 9) (oi := zo118_4_9) (v := ?_) rfl (by kernel_rfl) (fun _ _ _ h => h) (Or.inl ⟨rfl, ?_⟩) hS ?_
            rotate_left
            · (intro w' hS'; (try dsimp only at hS'); dsimp only [zo118_4_9]; go_simp; try with_reducible rfl)
            simp only [Act.put, pA, pB, pC]
            refine tK (i := 10) (oi := zo118_4_10) (v := ?_) rfl (by kernel_rfl) (fun _ _ _ h => h) (Or.inl ⟨rfl, ?_⟩) hS ?_
            rotate_left
            · (intro w' hS'; (try dsimp only at hS'); dsimp only [zo118_4_10]; go_simp; try with_reducible rfl)
            simp only [Act.put, pA, pB, pC]
            refine tK (i := 11) (oi := zo118_4_11) (v := ?_) rfl (by kernel_rfl) (fun _ _ _ h => h) (Or.inl ⟨rfl, ?_⟩) hS ?_
            rotate_left
            · (intro w' hS'; (try dsimp only at hS'); dsimp only [zo118_4_11]; go_simp; try with_reducible rfl)
            simp only [Act.put, pA, pB, pC]
            refine tK (i := 12) (oi := zo118_4_12) (v := ?_) rfl (by kernel_rfl) (fun _ _ _ h => h) (Or.inl ⟨rfl, ?_⟩) hS ?_
            rotate_left
            · (intro w' hS'; (try dsimp only at hS'); dsimp only [zo118_4_12]; go_simp; try with_reducible rfl)
            simp only [Act.put, pA, pB, pC]
            refine tK (i := 13) (oi := zo118_4_13) (v := ?_) rfl (by kernel_rfl) (fun _ _ _ h => h) (Or.inl ⟨rfl, ?_⟩) hS ?_
            rotate_left
            · (intro w' hS'; (try dsimp only at hS'); dsimp only [zo118_4_13]; go_simp; try with_reducible rfl)
            simp only [Act.put, pA, pB, pC]
            refine tK (i := 14) (oi := zo118_4_14) (v := ?_) rfl (by kernel_rfl) (fun _ _ _ h => h) (Or.inl ⟨rfl, ?_⟩) hS ?_
            rotate_left
            · (intro w' hS'; (try dsimp only at hS'); dsimp only [zo118_4_14]; go_simp; try with_reducible rfl)
            simp only [Act.put, pA, pB, pC]
            refine tK (i := 15) (oi := zo118_4_15) (v := ?_) rfl (by kernel_rfl) (fun _ _ _ h => h) (Or.inl ⟨rfl, ?_⟩) hS ?_
            rotate_left
            · (intro w' hS'; (try dsimp only at hS'); dsimp only [zo118_4_15]; go_simp; try with_reducible rfl)
            simp only [Act.put, pA, pB, pC]
            refine tK (i := 16) (oi := zo118_4_16) (v := ?_) rfl (by kernel_rfl) (fun _ _ _ h => h) (Or.inl ⟨rfl, ?_⟩) hS ?_
            rotate_left
            · (intro w' hS'; (try dsimp only at hS'); dsimp only [zo118_4_16]; go_simp; try with_reducible rfl)
            simp only [Act.put, pA, pB, pC]
            refine tK (i := 17) (oi := zo118_4_17) (v := ?_) rfl (by kernel_rfl) (fun _ _ _ h => h) (Or.inl ⟨rfl, ?_⟩) hS ?_
            rotate_left
            · (intro w' hS'; (try dsimp only at hS'); dsimp only [zo118_4_17]; go_simp; try with_reducible rfl)
            simp only [Act.put, pA, pB, pC]
            refine tK (i := 18) (oi := zo118_4_18) (v := ?_) rfl (by kernel_rfl) (fun _ _ _ h => h) (Or.inl ⟨rfl, ?_⟩) hS ?_
            rotate_left
            · (intro w' hS'; (try dsimp only at hS'); dsimp only [zo118_4_18]; go_simp; try with_reducible rfl)
            simp only [Act.put, pA, pB, pC]
            refine tK (i := 19) (oi := zo118_4_19) (v := ?_) rfl (by kernel_rfl) (fun _ _ _ h => h) (Or.inl ⟨rfl, ?_⟩) hS ?_
            rotate_left
            · (intro w' hS'; (try dsimp only at hS'); dsimp only [zo118_4_19]; go_simp; try with_reducible rfl)
            simp only [Act.put, pA, pB, pC]
            refine tK (i := 20) (oi := zo118_4_20) (v := ?_) rfl (by kernel_rfl) (fun _ _ _ h => h) (Or.inl ⟨rfl, ?_⟩) hS ?_
            rotate_left
            · (intro w' hS'; (try dsimp only at hS'); dsimp only [zo118_4_20]; go_simp; try with_reducible rfl)
            simp only [Act.put, pA, pB, pC]
            refine tK (i := 21) (oi := zo118_4_21) (v := ?_) rfl (by kernel_rfl) (fun _ _ _ h => h) (Or.inl ⟨rfl, ?_⟩) hS ?_
            rotate_left
            · (intro w' hS'; (try dsimp only at hS'); dsimp only [zo118_4_21]; go_simp; try with_reducible rfl)
            simp only [Act.put, pA, pB, pC]
            refine tK (i := 22) (oi := zo118_4_22) (v := ?_) rfl (by kernel_rfl) (fun _ _ _ h => h) (Or.inl ⟨rfl, ?_⟩) hS ?_
            rotate_left
            · (intro w' hS'; (try dsimp only at hS'); dsimp only [zo118_4_22]; go_simp; try with_reducible rfl)
            simp only [Act.put, pA, pB, pC]
            refine tK (i := 23) (oi := zo118_4_23) (v := ?_) rfl (by kernel_rfl) (fun _ _ _ h => h) (Or.inl ⟨rfl, ?_⟩) hS ?_
            rotate_left
            · (intro w' hS'; (try dsimp only at hS'); dsimp only [zo118_4_23]; go_simp; try with_reducible rfl)
            simp only [Act.put, pA, pB, pC]
            refine tK (i := 24) (oi := zo118_4_24) (v := ?_) rfl (by kernel_rfl) (fun _ _ _ h => h) (Or.inl ⟨rfl, ?_⟩) hS ?_
            rotate_left
            · (intro w' hS'; (try dsimp only at hS'); dsimp only [zo118_4_24]; go_simp; try with_reducible rfl)
            simp only [Act.put, pA, pB, pC]
            refine tK (i := 25) (oi := zo118_4_25) (v := ?_) rfl (by kernel_rfl) (fun _ _ _ h => h) (Or.inl ⟨rfl, ?_⟩) hS ?_
            rotate_left
            · (intro w' hS'; (try dsimp only at hS'); dsimp only [zo118_4_25]; go_simp; try with_reducible rfl)
            simp only [Act.put, pA, pB, pC]
            refine wpAnyH_done (by kernel_rfl) ?_ _
            go_wp2_with fail
            go_roundw
            case rel => exact ⟨k + 1, by omega, by go_num, HK, (b1.cell (p := ⟨_, _, none⟩) (by simp; omega)).trans (kp _ _ _ hsl hself), Nat.lt_of_lt_of_le (by simp; omega) b1.size, al.trans (b1.mono (by simp; omega))⟩
            case measure => simp [intOf]; omega
  · obtain rfl : k = xs.length := by omega
    by_cases h60 : xs.length ≤ 60
    · have g6 : ((xs.length : Int) ≤ 60) = True := eq_true (by omega)
      have HF : Hid (lexB xs = true) := by show _ = _; simp [lexB, hok.out, h60]
      clear h60 hr
      go_wp2_with fail
      go_ret
      exact ⟨ret_boolI HF.out.symm, hb⟩
    · have g6 : ((xs.length : Int) ≤ 60) = False := eq_false (by omega)
      have HF : Hid (lexB xs = false) := by show _ = _; simp [lexB, h60]
      clear h60 hr
      go_wp2_with fail
      go_ret
      exact ⟨ret_boolI HF.out.symm, hb⟩
end Go.Proofs.YtkfadfddhbpngaaGreat
