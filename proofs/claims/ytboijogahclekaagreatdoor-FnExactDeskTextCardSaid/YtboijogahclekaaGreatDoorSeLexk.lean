/- The program's own setups: lexicons. Conditions: none. -/
import Derived.Test.YtboijogahclekaaGreatDoorTkk
import Derived.Test.YtboijogahclekaaGreatDoorSeVk
import Derived.Test.YtboijogahclekaaGreatDoorConfk
import Derived.Test.YtboijogahclekaaGreatDoorStrSk
import Derived.Test.YtboijogahclekaaGreatDoorRowk
import Derived.Laws.Cover1
import Derived.Sort.Grow
import Derived.Test.YtboijogahclekaaGreatDoorRows
import Derived.Test.YtboijogahclekaaGreatDoorShelfHask
namespace Go.Proofs.YtboijogahclekaaGreatDoor
open Go Go.RowKit
theorem lexB_false {xs : List PEntry} {k : Nat} (hk : k < xs.length) (h : entOk xs k = false) : lexB xs = false := by simp [lexB, entsOk_false h hk]
theorem leq_iff (a b : ByteArray) : (Op.bytesLess a.toList b.toList || a.toList == b.toList) = !bLess b a := by
 rcases bLess_sto.cases a b with ⟨h1, h2, h3, h4⟩ | rfl | ⟨h1, h2, h3, h4⟩
 · unfold bLess at h1 h2 ⊢; simp [h1, h2]
 · have := bl_irr a.toList; unfold bLess; simp [this]
 · have h5 : (a.toList == b.toList) = false := by rw [str_eq]; simpa using h3
   unfold bLess at h1 h2 ⊢; simp [h1, h2, h5]
set_option maxRecDepth 100000 in
set_option maxHeartbeats 4000000 in
theorem impl_ValidLexicon_c {o : Bool} {e : TypeId} {xs : List PEntry} {v : Value} {F : List Nat} (w : World) (h : (pEntrys e).rep o w xs [v] F) (hx : xs.length ≤ 1048576) (hs : ∀ l ∈ xs, l.word.size ≤ 1048576) :
 Calls Tryz.prog 114 #[.agg #[v]] w fun e w' => e = .returned (.bool (lexB xs)) ∧ Below w.heap.size w w' := by
 obtain ⟨A, c, rfl, hc1, hc2, hr⟩ := pEntrys_open h
 clear h
 go_enter Tryz.func114, Tryz.ntmps114
 go_wp2_with fail
 go_loopw [8] (fun i wr => ∃ k : Nat, k ≤ xs.length ∧ i = .int .i64 k ∧ Hid (entsOk xs k = true) ∧ wr.cell? ⟨w.heap.size, 0, none⟩ = some (.slice A xs.length c) ∧ w.heap.size < wr.heap.size ∧ Below w.heap.size w wr) (fun i _ => xs.length - (intOf i).toNat)
 case atStart => exact ⟨0, Nat.zero_le _, rfl, rfl, by simp, by simp, (Below.refl _ _).alloc (Nat.le_refl _) _⟩
 case round =>
  obtain ⟨k, hk, rfl, hok, hself, hsl, hb⟩ := hrel
  have hbs := hb.size
  by_cases hlt : k < xs.length
  · obtain ⟨b, off, rfl, hbb, _, h0, h1, _⟩ := hr k hlt
    rw [← hb.cell (p := ⟨b, _, none⟩) hbb] at h0 h1
    have HW := Lib.hid (impl_IsWord_c xs[k].word (hs _ (List.getElem_mem hlt)))
    have HQ := Lib.hid (impl_isCost_c xs[k].cost)
    have RN := (Row.new wr 241 #[.string xs[k].word, .int .i64 xs[k].cost]).drew
    have al : Below w.heap.size w (wr.alloc (.cells #[.string xs[k].word, .int .i64 xs[k].cost] 241)).drew := (hb.alloc hbs _).drew
    have kp : ∀ (g i : Nat) (u : Value), g < wr.heap.size → wr.cell? ⟨g, i, none⟩ = some u → (wr.alloc (.cells #[.string xs[k].word, .int .i64 xs[k].cost] 241)).drew.cell? ⟨g, i, none⟩ = some u :=
     fun g i u hg hc => (World.cell?_alloc_past (w := wr) _ _ _ hg).trans hc
    have he : entOk xs k = (isWordB xs[k].word && (costB xs[k].cost && (decide (k = 0) || bLess (entAt xs (k - 1)).word xs[k].word))) := by rw [entOk, entAt_get hlt]
    have hs1 : entsOk xs (k + 1) = (entsOk xs k && entOk xs k) := rfl
    cases hw : isWordB xs[k].word
    · have HF := Lib.hid (lexB_false hlt (by rw [he, hw]; rfl))
      simp only [hw] at HW
      clear hr hw he hs1
      go_wp2_with fail
      have hS : (fun w' : World => w'.cell? ⟨wr.heap.size, 0, none⟩ = some (.string xs[k].word) ∧ w'.cell? ⟨wr.heap.size, 1, none⟩ = some (.int .i64 xs[k].cost)) (wr.alloc (.cells #[.string xs[k].word, .int .i64 xs[k].cost] 241)).drew := ⟨RN.c0, RN.c1⟩
      dsimp only at hS
      refine wp_region_held_drew (S := (fun w' : World => w'.cell? ⟨wr.heap.size, 0, none⟩ = some (.string xs[k].word) ∧ w'.cell? ⟨wr.heap.size, 1, none⟩ = some (.int .i64 xs[k].cost))) (by kernel_rfl) hS (fun _ => ?_)
      refine tJ 0 hS ?_
      refine tJ 1 hS ?_
      refine rJ 2 fun K hK => ?_
      refine step_call 79 #[.tmp 14] _ rfl rfl #[.string xs[k].word] Tryz.call79 (by go_simp) (HW.out _) ?_
      rintro e w1 ⟨rfl, b1⟩
      refine ⟨_, rfl, ?_⟩
      have nb0 : wr.heap.size < (wr.alloc (.cells #[.string xs[k].word, .int .i64 xs[k].cost] 241)).drew.heap.size := by simp
      replace hS : (fun w' : World => w'.cell? ⟨wr.heap.size, 0, none⟩ = some (.string xs[k].word) ∧ w'.cell? ⟨wr.heap.size, 1, none⟩ = some (.int .i64 xs[k].cost)) w1 := ⟨(b1.cell (p := ⟨_, _, none⟩) nb0).trans hS.1, (b1.cell (p := ⟨_, _, none⟩) nb0).trans hS.2⟩
      dsimp only at hS
      refine bJ hK hS ?_
      clear hK K
      simp only [Act.put, pA, pB, pC]
      refine tJ 3 hS ?_
      refine tJ 4 hS ?_
      refine tJ0 5 hS ?_
      refine tJ0 6 hS ?_
      refine tJ0 7 hS ?_
      refine tJ0 8 hS ?_
      refine tJ 9 hS ?_
      refine tJ 10 hS ?_
      refine tJ0 11 hS ?_
      refine tJ0 12 hS ?_
      refine tJ0 13 hS ?_
      refine tJ0 14 hS ?_
      refine tJ0 15 hS ?_
      refine tJ0 16 hS ?_
      refine tJ0 17 hS ?_
      refine tJ0 18 hS ?_
      refine tJ0 19 hS ?_
      refine tJ0 20 hS ?_
      refine tJ0 21 hS ?_
      refine tJ0 22 hS ?_
      refine tJ0 23 hS ?_
      refine tJ0 24 hS ?_
      refine tJ 25 hS ?_
      refine wpAnyH_done (by kernel_rfl) ?_ _
      go_wp2_with fail
      go_ret
      exact ⟨ret_boolI HF.out.symm, al.trans (b1.mono (by simp; omega))⟩
    · simp only [hw] at HW
      cases hq : costB xs[k].cost
      · have HF := Lib.hid (lexB_false hlt (by rw [he, hw, hq]; rfl))
        simp only [hq] at HQ
        clear hr hw he hs1 hq
        go_wp2_with fail
        have hS : (fun w' : World => w'.cell? ⟨wr.heap.size, 0, none⟩ = some (.string xs[k].word) ∧ w'.cell? ⟨wr.heap.size, 1, none⟩ = some (.int .i64 xs[k].cost)) (wr.alloc (.cells #[.string xs[k].word, .int .i64 xs[k].cost] 241)).drew := ⟨RN.c0, RN.c1⟩
        dsimp only at hS
        refine wp_region_held_drew (S := (fun w' : World => w'.cell? ⟨wr.heap.size, 0, none⟩ = some (.string xs[k].word) ∧ w'.cell? ⟨wr.heap.size, 1, none⟩ = some (.int .i64 xs[k].cost))) (by kernel_rfl) hS (fun _ => ?_)
        refine tJ 0 hS ?_
        refine tJ 1 hS ?_
        refine rJ 2 fun K hK => ?_
        refine step_call 79 #[.tmp 14] _ rfl rfl #[.string xs[k].word] Tryz.call79 (by go_simp) (HW.out _) ?_
        rintro e w1 ⟨rfl, b1⟩
        refine ⟨_, rfl, ?_⟩
        have nb0 : wr.heap.size < (wr.alloc (.cells #[.string xs[k].word, .int .i64 xs[k].cost] 241)).drew.heap.size := by simp
        replace hS : (fun w' : World => w'.cell? ⟨wr.heap.size, 0, none⟩ = some (.string xs[k].word) ∧ w'.cell? ⟨wr.heap.size, 1, none⟩ = some (.int .i64 xs[k].cost)) w1 := ⟨(b1.cell (p := ⟨_, _, none⟩) nb0).trans hS.1, (b1.cell (p := ⟨_, _, none⟩) nb0).trans hS.2⟩
        dsimp only at hS
        refine bJ hK hS ?_
        clear hK K
        simp only [Act.put, pA, pB, pC]
        refine tJ 3 hS ?_
        refine tJ 4 hS ?_
        refine tJ 5 hS ?_
        refine tJ 6 hS ?_
        refine tC (i := 7) 146 #[Go.Operand.tmp 19] #[.int .i64 xs[k].cost] Tryz.call146 (fun w => HQ.out w) hS ?_
        simp only [Act.put, pA, pB, pC]
        refine tJ 8 hS ?_
        refine tJ 9 hS ?_
        refine tJ 10 hS ?_
        refine tJ0 11 hS ?_
        refine tJ0 12 hS ?_
        refine tJ0 13 hS ?_
        refine tJ0 14 hS ?_
        refine tJ0 15 hS ?_
        refine tJ0 16 hS ?_
        refine tJ0 17 hS ?_
        refine tJ0 18 hS ?_
        refine tJ0 19 hS ?_
        refine tJ0 20 hS ?_
        refine tJ0 21 hS ?_
        refine tJ0 22 hS ?_
        refine tJ0 23 hS ?_
        refine tJ0 24 hS ?_
        refine tJ 25 hS ?_
        refine wpAnyH_done (by kernel_rfl) ?_ _
        go_wp2_with fail
        go_ret
        exact ⟨ret_boolI HF.out.symm, al.trans (b1.mono (by simp; omega))⟩
      · simp only [hq] at HQ
        by_cases hz : k = 0
        · have HK : Hid (entsOk xs (k + 1) = true) := by show _ = _; rw [hs1, hok.out, he, hw, hq]; simp [hz]
          have g0 : (0 < k) = False := eq_false (by omega)
          clear hr hz hw he hs1 hq
          go_wp2_with fail
          have hS : (fun w' : World => w'.cell? ⟨wr.heap.size, 0, none⟩ = some (.string xs[k].word) ∧ w'.cell? ⟨wr.heap.size, 1, none⟩ = some (.int .i64 xs[k].cost)) (wr.alloc (.cells #[.string xs[k].word, .int .i64 xs[k].cost] 241)).drew := ⟨RN.c0, RN.c1⟩
          dsimp only at hS
          refine wp_region_held_drew (S := (fun w' : World => w'.cell? ⟨wr.heap.size, 0, none⟩ = some (.string xs[k].word) ∧ w'.cell? ⟨wr.heap.size, 1, none⟩ = some (.int .i64 xs[k].cost))) (by kernel_rfl) hS (fun _ => ?_)
          refine tJ 0 hS ?_
          refine tJ 1 hS ?_
          refine rJ 2 fun K hK => ?_
          refine step_call 79 #[.tmp 14] _ rfl rfl #[.string xs[k].word] Tryz.call79 (by go_simp) (HW.out _) ?_
          rintro e w1 ⟨rfl, b1⟩
          refine ⟨_, rfl, ?_⟩
          have nb0 : wr.heap.size < (wr.alloc (.cells #[.string xs[k].word, .int .i64 xs[k].cost] 241)).drew.heap.size := by simp
          replace hS : (fun w' : World => w'.cell? ⟨wr.heap.size, 0, none⟩ = some (.string xs[k].word) ∧ w'.cell? ⟨wr.heap.size, 1, none⟩ = some (.int .i64 xs[k].cost)) w1 := ⟨(b1.cell (p := ⟨_, _, none⟩) nb0).trans hS.1, (b1.cell (p := ⟨_, _, none⟩) nb0).trans hS.2⟩
          dsimp only at hS
          refine bJ hK hS ?_
          clear hK K
          simp only [Act.put, pA, pB, pC]
          refine tJ 3 hS ?_
          refine tJ 4 hS ?_
          refine tJ 5 hS ?_
          refine tJ 6 hS ?_
          refine tC (i := 7) 146 #[Go.Operand.tmp 19] #[.int .i64 xs[k].cost] Tryz.call146 (fun w => HQ.out w) hS ?_
          simp only [Act.put, pA, pB, pC]
          refine tJ 8 hS ?_
          refine tJ 9 hS ?_
          refine tJ 10 hS ?_
          refine tJ 11 hS ?_
          refine tJ 12 hS ?_
          refine tJ 13 hS ?_
          refine tJ0 14 hS ?_
          refine tJ0 15 hS ?_
          refine tJ0 16 hS ?_
          refine tJ0 17 hS ?_
          refine tJ0 18 hS ?_
          refine tJ0 19 hS ?_
          refine tJ0 20 hS ?_
          refine tJ0 21 hS ?_
          refine tJ0 22 hS ?_
          refine tJ0 23 hS ?_
          refine tJ 24 hS ?_
          refine tJ 25 hS ?_
          refine wpAnyH_done (by kernel_rfl) ?_ _
          go_wp2_with fail
          go_roundw
          case rel => exact ⟨k + 1, by omega, by go_num, HK, (b1.cell (p := ⟨_, _, none⟩) (by simp; omega)).trans (kp _ _ _ hsl hself), Nat.lt_of_lt_of_le (by simp; omega) b1.size, al.trans (b1.mono (by simp; omega))⟩
          case measure => simp [intOf]; omega
        · obtain ⟨j, hj⟩ : ∃ j, k = j + 1 := ⟨k - 1, by omega⟩
          have jl : j < xs.length := by omega
          obtain ⟨b', off', e', hbb', _, h3, _⟩ := hr j jl
          injection e' with e'
          injection e' with e1 e2 _
          subst e1; subst e2
          rw [← hb.cell (p := ⟨b, _, none⟩) hbb] at h3
          have g0 : (0 < k) = True := eq_true (by omega)
          have gj : IntKind.i64.wrap ((k : Int) - 1) = (j : Int) := (IntWalk.i64_in _ (by omega)).trans (by omega)
          have jl' : (j : Int) < (xs.length : Int) := by omega
          have j0 : (0 : Int) ≤ (j : Int) := by omega
          have hen : entAt xs (k - 1) = xs[j] := by subst hj; exact entAt_get jl
          have hle := leq_iff xs[k].word xs[j].word
          have dk : decide (k = 0) = false := decide_eq_false hz
          rw [hen, hw, hq, dk] at he
          clear hr
          cases hlw : bLess xs[j].word xs[k].word
          · have HF := Lib.hid (lexB_false hlt (by rw [he, hlw]; rfl))
            rw [hlw] at hle
            have HJ := Lib.hid hj
            clear hj hz hw he hs1 hq hen dk hlw
            go_wp2_with fail
            have hS : (fun w' : World => w'.cell? ⟨wr.heap.size, 0, none⟩ = some (.string xs[k].word) ∧ w'.cell? ⟨wr.heap.size, 1, none⟩ = some (.int .i64 xs[k].cost) ∧ w'.cell? ⟨w.heap.size, 0, none⟩ = some (.slice (some ⟨b, off, none⟩) xs.length c) ∧ w'.cell? ⟨b, off + j * 2, none⟩ = some (.string xs[j].word)) (wr.alloc (.cells #[.string xs[k].word, .int .i64 xs[k].cost] 241)).drew := ⟨RN.c0, RN.c1, kp _ _ _ hsl hself, kp _ _ _ (by omega) h3⟩
            dsimp only at hS
            refine wp_region_held_drew (S := (fun w' : World => w'.cell? ⟨wr.heap.size, 0, none⟩ = some (.string xs[k].word) ∧ w'.cell? ⟨wr.heap.size, 1, none⟩ = some (.int .i64 xs[k].cost) ∧ w'.cell? ⟨w.heap.size, 0, none⟩ = some (.slice (some ⟨b, off, none⟩) xs.length c) ∧ w'.cell? ⟨b, off + j * 2, none⟩ = some (.string xs[j].word))) (by kernel_rfl) hS (fun _ => ?_)
            refine tJ 0 hS ?_
            refine tJ 1 hS ?_
            refine rJ 2 fun K hK => ?_
            refine step_call 79 #[.tmp 14] _ rfl rfl #[.string xs[k].word] Tryz.call79 (by go_simp) (HW.out _) ?_
            rintro e w1 ⟨rfl, b1⟩
            refine ⟨_, rfl, ?_⟩
            have nb0 : wr.heap.size < (wr.alloc (.cells #[.string xs[k].word, .int .i64 xs[k].cost] 241)).drew.heap.size := by simp
            have nbw : w.heap.size < (wr.alloc (.cells #[.string xs[k].word, .int .i64 xs[k].cost] 241)).drew.heap.size := by simp; omega
            have nbb : b < (wr.alloc (.cells #[.string xs[k].word, .int .i64 xs[k].cost] 241)).drew.heap.size := by simp; omega
            replace hS : (fun w' : World => w'.cell? ⟨wr.heap.size, 0, none⟩ = some (.string xs[k].word) ∧ w'.cell? ⟨wr.heap.size, 1, none⟩ = some (.int .i64 xs[k].cost) ∧ w'.cell? ⟨w.heap.size, 0, none⟩ = some (.slice (some ⟨b, off, none⟩) xs.length c) ∧ w'.cell? ⟨b, off + j * 2, none⟩ = some (.string xs[j].word)) w1 := ⟨(b1.cell (p := ⟨_, _, none⟩) nb0).trans hS.1, (b1.cell (p := ⟨_, _, none⟩) nb0).trans hS.2.1, (b1.cell (p := ⟨_, _, none⟩) nbw).trans hS.2.2.1, (b1.cell (p := ⟨_, _, none⟩) nbb).trans hS.2.2.2⟩
            dsimp only at hS
            refine bJ hK hS ?_
            clear hK K
            simp only [Act.put, pA, pB, pC]
            refine tJ 3 hS ?_
            refine tJ 4 hS ?_
            refine tJ 5 hS ?_
            refine tJ 6 hS ?_
            refine tC (i := 7) 146 #[Go.Operand.tmp 19] #[.int .i64 xs[k].cost] Tryz.call146 (fun w => HQ.out w) hS ?_
            simp only [Act.put, pA, pB, pC]
            refine tJ 8 hS ?_
            refine tJ 9 hS ?_
            refine tJ 10 hS ?_
            refine tJ 11 hS ?_
            refine tJ 12 hS ?_
            refine tJ 13 hS ?_
            refine tJ 14 hS ?_
            refine tJ 15 hS ?_
            refine tJ 16 hS ?_
            refine tJ 17 hS ?_
            refine tJ 18 hS ?_
            refine tJ 19 hS ?_
            refine tJ 20 hS ?_
            refine tJ 21 hS ?_
            refine tJ 22 hS ?_
            refine tJ 23 hS ?_
            refine tJ 24 hS ?_
            refine tJ 25 hS ?_
            refine wpAnyH_done (by kernel_rfl) ?_ _
            go_wp2_with fail
            go_ret
            exact ⟨ret_boolI HF.out.symm, al.trans (b1.mono (by simp; omega))⟩
          · have HK : Hid (entsOk xs (k + 1) = true) := by show _ = _; rw [hs1, hok.out, he, hlw]; rfl
            rw [hlw] at hle
            have HJ := Lib.hid hj
            clear hj hz hw he hs1 hq hen dk hlw
            go_wp2_with fail
            have hS : (fun w' : World => w'.cell? ⟨wr.heap.size, 0, none⟩ = some (.string xs[k].word) ∧ w'.cell? ⟨wr.heap.size, 1, none⟩ = some (.int .i64 xs[k].cost) ∧ w'.cell? ⟨w.heap.size, 0, none⟩ = some (.slice (some ⟨b, off, none⟩) xs.length c) ∧ w'.cell? ⟨b, off + j * 2, none⟩ = some (.string xs[j].word)) (wr.alloc (.cells #[.string xs[k].word, .int .i64 xs[k].cost] 241)).drew := ⟨RN.c0, RN.c1, kp _ _ _ hsl hself, kp _ _ _ (by omega) h3⟩
            dsimp only at hS
            refine wp_region_held_drew (S := (fun w' : World => w'.cell? ⟨wr.heap.size, 0, none⟩ = some (.string xs[k].word) ∧ w'.cell? ⟨wr.heap.size, 1, none⟩ = some (.int .i64 xs[k].cost) ∧ w'.cell? ⟨w.heap.size, 0, none⟩ = some (.slice (some ⟨b, off, none⟩) xs.length c) ∧ w'.cell? ⟨b, off + j * 2, none⟩ = some (.string xs[j].word))) (by kernel_rfl) hS (fun _ => ?_)
            refine tJ 0 hS ?_
            refine tJ 1 hS ?_
            refine rJ 2 fun K hK => ?_
            refine step_call 79 #[.tmp 14] _ rfl rfl #[.string xs[k].word] Tryz.call79 (by go_simp) (HW.out _) ?_
            rintro e w1 ⟨rfl, b1⟩
            refine ⟨_, rfl, ?_⟩
            have nb0 : wr.heap.size < (wr.alloc (.cells #[.string xs[k].word, .int .i64 xs[k].cost] 241)).drew.heap.size := by simp
            have nbw : w.heap.size < (wr.alloc (.cells #[.string xs[k].word, .int .i64 xs[k].cost] 241)).drew.heap.size := by simp; omega
            have nbb : b < (wr.alloc (.cells #[.string xs[k].word, .int .i64 xs[k].cost] 241)).drew.heap.size := by simp; omega
            replace hS : (fun w' : World => w'.cell? ⟨wr.heap.size, 0, none⟩ = some (.string xs[k].word) ∧ w'.cell? ⟨wr.heap.size, 1, none⟩ = some (.int .i64 xs[k].cost) ∧ w'.cell? ⟨w.heap.size, 0, none⟩ = some (.slice (some ⟨b, off, none⟩) xs.length c) ∧ w'.cell? ⟨b, off + j * 2, none⟩ = some (.string xs[j].word)) w1 := ⟨(b1.cell (p := ⟨_, _, none⟩) nb0).trans hS.1, (b1.cell (p := ⟨_, _, none⟩) nb0).trans hS.2.1, (b1.cell (p := ⟨_, _, none⟩) nbw).trans hS.2.2.1, (b1.cell (p := ⟨_, _, none⟩) nbb).trans hS.2.2.2⟩
            dsimp only at hS
            refine bJ hK hS ?_
            clear hK K
            simp only [Act.put, pA, pB, pC]
            refine tJ 3 hS ?_
            refine tJ 4 hS ?_
            refine tJ 5 hS ?_
            refine tJ 6 hS ?_
            refine tC (i := 7) 146 #[Go.Operand.tmp 19] #[.int .i64 xs[k].cost] Tryz.call146 (fun w => HQ.out w) hS ?_
            simp only [Act.put, pA, pB, pC]
            refine tJ 8 hS ?_
            refine tJ 9 hS ?_
            refine tJ 10 hS ?_
            refine tJ 11 hS ?_
            refine tJ 12 hS ?_
            refine tJ 13 hS ?_
            refine tJ 14 hS ?_
            refine tJ 15 hS ?_
            refine tJ 16 hS ?_
            refine tJ 17 hS ?_
            refine tJ 18 hS ?_
            refine tJ 19 hS ?_
            refine tJ 20 hS ?_
            refine tJ 21 hS ?_
            refine tJ 22 hS ?_
            refine tJ 23 hS ?_
            refine tJ 24 hS ?_
            refine tJ 25 hS ?_
            refine wpAnyH_done (by kernel_rfl) ?_ _
            go_wp2_with fail
            go_roundw
            case rel => exact ⟨k + 1, by omega, by go_num, HK, (b1.cell (p := ⟨_, _, none⟩) (by simp; omega)).trans (kp _ _ _ hsl hself), Nat.lt_of_lt_of_le (by simp; omega) b1.size, al.trans (b1.mono (by simp; omega))⟩
            case measure => simp [intOf]; omega
  · obtain rfl : k = xs.length := by omega
    by_cases h60 : xs.length ≤ 60
    · have g6 : ((xs.length : Int) ≤ 60) = True := eq_true (by omega)
      have HF : Hid (lexB xs = true) := by show _ = _; simp [lexB, hok.out, h60]
      clear h60 hr
      go_wp2_with fail
      go_ret
      exact ⟨ret_boolI HF.out.symm, hb⟩
    · have g6 : ((xs.length : Int) ≤ 60) = False := eq_false (by omega)
      have HF : Hid (lexB xs = false) := by show _ = _; simp [lexB, h60]
      clear h60 hr
      go_wp2_with fail
      go_ret
      exact ⟨ret_boolI HF.out.symm, hb⟩
def Grw (w w' : World) : Prop := ∃ q os, w' = Sort.grow (w.drewN q) os
theorem Grw.refl (w : World) : Grw w w := ⟨0, #[], by rw [Sort.grow_empty]; rfl⟩
theorem Grw.alloc {w w' : World} (h : Grw w w') (o : Obj) : Grw w (w'.alloc o) := by
 obtain ⟨q, os, rfl⟩ := h
 exact ⟨q, os ++ #[o], by rw [Sort.alloc_eq_grow, Sort.grow_grow]⟩
theorem Grw.drewN {w w' : World} (h : Grw w w') (n : Nat) : Grw w (w'.drewN n) := by
 obtain ⟨q, os, rfl⟩ := h
 exact ⟨q + n, os, by rw [← World.drewN_drewN]; rfl⟩
theorem Grw.drew {w w' : World} (h : Grw w w') : Grw w w'.drew := h.drewN 1
theorem Grw.below {w w' : World} (h : Grw w w') : Below w.heap.size w w' := by
 obtain ⟨q, os, rfl⟩ := h
 refine ⟨rfl, rfl, rfl, ?_, fun i hi => ?_⟩
 · show w.heap.size ≤ (w.heap ++ os).size
   simp
 · show (w.heap ++ os)[i]? = w.heap[i]?
   rw [Array.getElem?_append_left hi]
theorem isNaN_c (s : ByteArray) (w : World) : Calls Tryz.prog 186 #[.string s] w fun e w' => e = .returned (.bool false) ∧ w' = w := by
 go_enter Tryz.func186, Tryz.ntmps186
 go_wp2_with fail
 go_ret
 exact ⟨by simp, rfl⟩
theorem Compare_c (a b : ByteArray) (w : World) : Calls Tryz.prog 173 #[.string a, .string b] w fun e w' => e = .returned (.int .i64 (cmpF a b)) ∧ w' = w := by
 have Ca := Lib.hid (isNaN_c a)
 have Cb := Lib.hid (isNaN_c b)
 have hc := bLess_sto.cases a b
 unfold bLess at hc
 rcases hc with ⟨h1, h2, h3, h4⟩ | rfl | ⟨h1, h2, h3, h4⟩
 · have HE : Hid (cmpF a b = -1) := by show _ = _; unfold cmpF bLess; rw [h1]; rfl
   clear h2 h3 h4
   go_enter Tryz.func173, Tryz.ntmps173
   go_wp2_with fail
   refine (Ca.out _).mono ?_
   rintro e w1 ⟨rfl, rfl⟩
   go_wp2_with fail
   refine (Cb.out _).mono ?_
   rintro e w1 ⟨rfl, rfl⟩
   go_wp2_with fail
   go_ret
   exact ⟨by rw [HE.out]; rfl, rfl⟩
 · have h1 := bl_irr a.toList
   have HE : Hid (cmpF a a = 0) := by show _ = _; unfold cmpF bLess; rw [h1]; rfl
   go_enter Tryz.func173, Tryz.ntmps173
   go_wp2_with fail
   refine (Ca.out _).mono ?_
   rintro e w1 ⟨rfl, rfl⟩
   go_wp2_with fail
   refine (Cb.out _).mono ?_
   rintro e w1 ⟨rfl, rfl⟩
   go_wp2_with fail
   go_ret
   exact ⟨by rw [HE.out]; rfl, rfl⟩
 · have HE : Hid (cmpF a b = 1) := by show _ = _; unfold cmpF bLess; rw [h1, h2]; rfl
   have h5 : (a.toList == b.toList) = false := by rw [str_eq]; simpa using h3
   clear h2 h3 h4
   go_enter Tryz.func173, Tryz.ntmps173
   go_wp2_with fail
   refine (Ca.out _).mono ?_
   rintro e w1 ⟨rfl, rfl⟩
   go_wp2_with fail
   refine (Cb.out _).mono ?_
   rintro e w1 ⟨rfl, rfl⟩
   go_wp2_with fail
   go_ret
   exact ⟨by rw [HE.out]; rfl, rfl⟩
set_option maxRecDepth 100000 in
theorem Or_c {g : Nat} {e : TypeId} (a b : Int) (w : World) (h : Row w g e [.int .i64 a, .int .i64 b]) :
 Calls Tryz.prog 172 #[.slice (some ⟨g, 0, none⟩) 2 2] w fun e w' => e = .returned (.int .i64 (if a ≠ 0 then a else b)) ∧ w' = w := by
 have c0 := h.c0
 have c1 := h.c1
 go_enter Tryz.func172, Tryz.ntmps172
 go_wp2_with fail
 go_loop [5, 8] (fun s i => ∃ k : Nat, (k = 0 ∨ k = 1 ∧ a = 0 ∨ k = 2 ∧ a = 0 ∧ b = 0) ∧ i = .int .i64 k) (fun _ i => 2 - (intOf i).toNat)
 case atStart => exact ⟨0, .inl rfl, rfl⟩
 case round =>
  obtain ⟨k, hk, rfl⟩ := hrel
  rcases hk with rfl | ⟨rfl, rfl⟩ | ⟨rfl, rfl, rfl⟩
  · by_cases h0 : a = 0
    · subst h0
      go_wp2_with fail
      go_round
      case rel => exact ⟨1, by simp, by first | rfl | go_num⟩
      case measure => simp [intOf]
    · have g0 : (a != 0) = true := by simp [h0]
      go_wp2_with fail
      go_ret
      exact ⟨by simp, rfl⟩
  · by_cases h0 : b = 0
    · subst h0
      go_wp2_with fail
      go_round
      case rel => exact ⟨2, by simp, by first | rfl | go_num⟩
      case measure => simp [intOf]
    · have g0 : (b != 0) = true := by simp [h0]
      go_wp2_with fail
      go_ret
      exact ⟨by simp, rfl⟩
  · go_wp2_with fail
    go_ret
    exact ⟨by simp, rfl⟩
theorem and_intro4 {a b c d : Prop} (h1 : a) (h2 : b) (h3 : c) (h4 : d) : a ∧ b ∧ c ∧ d := ⟨h1, h2, h3, h4⟩
set_option maxRecDepth 100000 in
set_option maxHeartbeats 1000000 in
theorem impl_compareBigrams_c (x y : PBigram) (w : World) : Calls Tryz.prog 148 #[.agg #[.string x.first, .string x.second, .int .i64 x.cost], .agg #[.string y.first, .string y.second, .int .i64 y.cost]] w fun e w' => e = .returned (.int .i64 (cmpC (bigKey x) (bigKey y))) ∧ Grw w w' := by
 obtain ⟨a, b, n⟩ := x
 obtain ⟨c, d, m⟩ := y
 dsimp only [bigKey, cmpC]
 have HC1 := Lib.hid (Compare_c a c)
 have HC2 := Lib.hid (Compare_c b d)
 generalize cmpF a c = r1 at HC1 ⊢
 generalize cmpF b d = r2 at HC2 ⊢
 obtain ⟨r, hr⟩ : ∃ r, (if r1 ≠ 0 then r1 else r2) = r := ⟨_, rfl⟩
 rw [hr]
 have HR := Lib.hid hr
 clear hr
 have GW := Lib.hid (((Grw.refl w).alloc (.cells #[.string a, .string b, .int .i64 n] 244)).alloc (.cells #[.string c, .string d, .int .i64 m] 244))
 have R1 := (Row.new w 244 #[.string a, .string b, .int .i64 n]).alloc (.cells #[.string c, .string d, .int .i64 m] 244)
 have R2 := Row.new (w.alloc (.cells #[.string a, .string b, .int .i64 n] 244)) 244 #[.string c, .string d, .int .i64 m]
 rw [World.size_alloc] at R2
 go_enter Tryz.func148, Tryz.ntmps148
 go_wp2_with fail
 generalize (w.alloc (.cells #[.string a, .string b, .int .i64 n] 244)).alloc (.cells #[.string c, .string d, .int .i64 m] 244) = w2 at *
 have p0 := R1.c0
 have p1 := R1.c1
 have q0 := R2.c0
 have q1 := R2.c1
 have hS : (fun w' : World => w'.cell? ⟨w.heap.size, 0, none⟩ = some (.string a) ∧ w'.cell? ⟨w.heap.size, 1, none⟩ = some (.string b) ∧ w'.cell? ⟨w.heap.size + 1, 0, none⟩ = some (.string c) ∧ w'.cell? ⟨w.heap.size + 1, 1, none⟩ = some (.string d)) w2.drew := ⟨p0, p1, q0, q1⟩
 refine wp_region_held_drew (S := fun w' : World => w'.cell? ⟨w.heap.size, 0, none⟩ = some (.string a) ∧ w'.cell? ⟨w.heap.size, 1, none⟩ = some (.string b) ∧ w'.cell? ⟨w.heap.size + 1, 0, none⟩ = some (.string c) ∧ w'.cell? ⟨w.heap.size + 1, 1, none⟩ = some (.string d)) (by kernel_rfl) hS (fun _ => ?_)
 refine tJ 0 hS ?_
 refine tJ 1 hS ?_
 refine tJ 2 hS ?_
 refine tJ 3 hS ?_
 refine tC (i := 4) 173 #[Go.Operand.tmp 6, Go.Operand.tmp 8] #[.string a, .string c] Tryz.call173 (fun w => HC1.out w) hS ?_
 simp only [Act.put, pA, pB, pC]
 refine tJ 5 hS ?_
 refine tJ 6 hS ?_
 refine tJ 7 hS ?_
 refine tJ 8 hS ?_
 refine tC (i := 9) 173 #[Go.Operand.tmp 11, Go.Operand.tmp 13] #[.string b, .string d] Tryz.call173 (fun w => HC2.out w) hS ?_
 simp only [Act.put, pA, pB, pC]
 refine rJ 10 fun K hK => ?_
 go_simp
 have R3 := Row.new w2.drew 3 #[.int .i64 r1, .int .i64 r2]
 have GW3 := Lib.hid (GW.out.drew.alloc (.cells #[.int .i64 r1, .int .i64 r2] 3))
 replace hS := and_intro4 (((R1.drew).alloc (.cells #[.int .i64 r1, .int .i64 r2] 3)).c0) (((R1.drew).alloc (.cells #[.int .i64 r1, .int .i64 r2] 3)).c1) (((R2.drew).alloc (.cells #[.int .i64 r1, .int .i64 r2] 3)).c0) (((R2.drew).alloc (.cells #[.int .i64 r1, .int .i64 r2] 3)).c1)
 refine hK.out _ _ hS (fun _ => ?_)
 clear hK K
 have RO := Or_c r1 r2 _ R3
 rw [HR.out] at RO
 refine rJ 11 fun K hK => ?_
 refine step_call 172 #[.tmp 15] _ rfl rfl #[.slice (some ⟨w2.heap.size, 0, none⟩) 2 2] Tryz.call172 (by go_simp) RO ?_
 rintro e w1 ⟨rfl, rfl⟩
 refine ⟨_, rfl, ?_⟩
 refine bJ hK hS ?_
 clear hK K
 simp only [Act.put, pA, pB, pC]
 refine tJ 12 hS ?_
 refine wpAnyH_done (by kernel_rfl) ?_ _
 go_wp2_with fail
 go_ret
 exact ⟨rfl, GW3.out⟩
end Go.Proofs.YtboijogahclekaaGreatDoor
