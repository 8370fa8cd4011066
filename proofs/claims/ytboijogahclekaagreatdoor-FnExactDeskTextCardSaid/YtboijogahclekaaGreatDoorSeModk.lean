/- The program's own setups: models. Conditions: none. -/
import Derived.Test.YtboijogahclekaaGreatDoorTkk
import Derived.Test.YtboijogahclekaaGreatDoorSeVk
import Derived.Test.YtboijogahclekaaGreatDoorSeLexk
namespace Go.Proofs.YtboijogahclekaaGreatDoor
open Go Go.RowKit
theorem modelB_false {n : Int} {xs : List PBigram} {k : Nat} (hk : k < xs.length) (h : bigOk xs k = false) : modelB n xs = false := by simp [modelB, bigsOk_false h hk]
set_option maxHeartbeats 1000000 in
theorem impl_validBigram_c (s : PBigram) (h1 : s.first.size ≤ 1048576) (h2 : s.second.size ≤ 1048576) (w : World) :
 Calls Tryz.prog 147 #[.agg #[.string s.first, .string s.second, .int .i64 s.cost]] w fun e w' => e = .returned (.bool (bigB s)) ∧ Below w.heap.size w w' := by
 obtain ⟨f, g, n⟩ := s
 dsimp only at h1 h2 ⊢
 have C1 := Lib.hid (fun w' => impl_IsWord_c g h2 w')
 have C2 := Lib.hid (fun w' => impl_IsWord_c f h1 w')
 have C3 := Lib.hid (impl_isCost_c n)
 have hb : bigB ⟨f, g, n⟩ = (isWordB g && ((decide (f = .empty) || isWordB f) && costB n)) := rfl
 rw [hb]
 clear hb
 have al : Below w.heap.size w (w.alloc (.cells #[.string f, .string g, .int .i64 n] 244)) := (Below.refl _ _).alloc (Nat.le_refl _) _
 have R := Row.new w 244 #[.string f, .string g, .int .i64 n]
 have he : f.toList.isEmpty = decide (f = .empty) := by
  have := str_eq f .empty
  rw [show ByteArray.empty.toList = [] from by simp, List.beq_nil_eq] at this
  exact this
 generalize decide (f = .empty) = d0 at he ⊢
 generalize isWordB g = d1 at C1 ⊢
 generalize isWordB f = d2 at C2 ⊢
 generalize costB n = d3 at C3 ⊢
 cases d1
 · go_enter Tryz.func147, Tryz.ntmps147
   go_wp2_with fail
   refine (C1.out _).mono ?_
   rintro e w1 ⟨rfl, b1⟩
   go_wp2_with fail
   go_ret
   exact ⟨rfl, al.trans (b1.mono al.size)⟩
 · cases d0
   · cases d2
     · go_enter Tryz.func147, Tryz.ntmps147
       go_wp2_with fail
       refine (C1.out _).mono ?_
       rintro e w1 ⟨rfl, b1⟩
       have q0 := (R.later b1).c0
       go_wp2_with fail
       refine (C2.out _).mono ?_
       rintro e w2 ⟨rfl, b2⟩
       go_wp2_with fail
       go_ret
       exact ⟨rfl, (al.trans (b1.mono al.size)).trans (b2.mono (Nat.le_trans al.size b1.size))⟩
     · go_enter Tryz.func147, Tryz.ntmps147
       go_wp2_with fail
       refine (C1.out _).mono ?_
       rintro e w1 ⟨rfl, b1⟩
       have q0 := (R.later b1).c0
       go_wp2_with fail
       refine (C2.out _).mono ?_
       rintro e w2 ⟨rfl, b2⟩
       clear q0
       have q2 := ((R.later b1).later b2).c2
       go_wp2_with fail
       refine (C3.out _).mono ?_
       rintro e w3 ⟨rfl, rfl⟩
       go_wp2_with fail
       go_ret
       exact ⟨rfl, (al.trans (b1.mono al.size)).trans (b2.mono (Nat.le_trans al.size b1.size))⟩
   · go_enter Tryz.func147, Tryz.ntmps147
     go_wp2_with fail
     refine (C1.out _).mono ?_
     rintro e w1 ⟨rfl, b1⟩
     have q0 := (R.later b1).c0
     have q2 := (R.later b1).c2
     go_wp2_with fail
     refine (C3.out _).mono ?_
     rintro e w3 ⟨rfl, rfl⟩
     go_wp2_with fail
     go_ret
     exact ⟨rfl, al.trans (b1.mono al.size)⟩
set_option maxRecDepth 100000 in
set_option maxHeartbeats 4000000 in
theorem impl_ValidModel_c {o : Bool} {e : TypeId} {n : Int} {xs : List PBigram} {v : Value} {F : List Nat} (w : World) (h : (pBigrams e).rep o w xs [v] F) (hx : xs.length ≤ 1048576) (hs : ∀ l ∈ xs, l.first.size ≤ 1048576 ∧ l.second.size ≤ 1048576) :
 Calls Tryz.prog 115 #[.agg #[.int .i64 n, v]] w fun e w' => e = .returned (.bool (modelB n xs)) ∧ Below w.heap.size w w' := by
 obtain ⟨A, c, rfl, hc1, hc2, hr⟩ := pBigrams_open h
 clear h
 go_enter Tryz.func115, Tryz.ntmps115
 go_wp2_with fail
 go_loopw [8] (fun i wr => ∃ k : Nat, k ≤ xs.length ∧ i = .int .i64 k ∧ Hid (bigsOk xs k = true) ∧ wr.cell? ⟨w.heap.size, 1, none⟩ = some (.slice A xs.length c) ∧ wr.cell? ⟨w.heap.size, 0, none⟩ = some (.int .i64 n) ∧ w.heap.size < wr.heap.size ∧ Below w.heap.size w wr) (fun i _ => xs.length - (intOf i).toNat)
 case atStart => exact ⟨0, Nat.zero_le _, rfl, rfl, by simp, by simp, by simp, (Below.refl _ _).alloc (Nat.le_refl _) _⟩
 case round =>
  obtain ⟨k, hk, rfl, hok, hself, hself0, hsl, hb⟩ := hrel
  have hbs := hb.size
  by_cases hlt : k < xs.length
  · obtain ⟨b, off, rfl, hbb, _, h0, h1, h2, _⟩ := hr k hlt
    rw [← hb.cell (p := ⟨b, _, none⟩) hbb] at h0 h1 h2
    have hsk := hs _ (List.getElem_mem hlt)
    have HW := Lib.hid (impl_validBigram_c xs[k] hsk.1 hsk.2)
    have RN := (Row.new wr 244 #[.string xs[k].first, .string xs[k].second, .int .i64 xs[k].cost]).drew
    have al : Below w.heap.size w (wr.alloc (.cells #[.string xs[k].first, .string xs[k].second, .int .i64 xs[k].cost] 244)).drew := (hb.alloc hbs _).drew
    have kp : ∀ (g i : Nat) (u : Value), g < wr.heap.size → wr.cell? ⟨g, i, none⟩ = some u → (wr.alloc (.cells #[.string xs[k].first, .string xs[k].second, .int .i64 xs[k].cost] 244)).drew.cell? ⟨g, i, none⟩ = some u :=
     fun g i u hg hc => (World.cell?_alloc_past (w := wr) _ _ _ hg).trans hc
    have he : bigOk xs k = (bigB xs[k] && (decide (k = 0) || cLess (bigKey (bigAt xs (k - 1))) (bigKey xs[k]))) := by rw [bigOk, bigAt_get hlt]
    have hs1 : bigsOk xs (k + 1) = (bigsOk xs k && bigOk xs k) := rfl
    clear hsk
    cases hw : bigB xs[k]
    · have HF := Lib.hid (modelB_false (n := n) hlt (by rw [he, hw]; rfl))
      simp only [hw] at HW
      clear hr hw he hs1
      go_wp2_with fail
      have hS : (fun w' : World => w'.cell? ⟨wr.heap.size, 0, none⟩ = some (.string xs[k].first) ∧ w'.cell? ⟨wr.heap.size, 1, none⟩ = some (.string xs[k].second) ∧ w'.cell? ⟨wr.heap.size, 2, none⟩ = some (.int .i64 xs[k].cost)) (wr.alloc (.cells #[.string xs[k].first, .string xs[k].second, .int .i64 xs[k].cost] 244)).drew := ⟨RN.c0, RN.c1, RN.c2⟩
      dsimp only at hS
      refine wp_region_held_drew (S := (fun w' : World => w'.cell? ⟨wr.heap.size, 0, none⟩ = some (.string xs[k].first) ∧ w'.cell? ⟨wr.heap.size, 1, none⟩ = some (.string xs[k].second) ∧ w'.cell? ⟨wr.heap.size, 2, none⟩ = some (.int .i64 xs[k].cost))) (by kernel_rfl) hS (fun _ => ?_)
      refine tJ 0 hS ?_
      refine rJ 1 fun K hK => ?_
      refine step_call 147 #[.tmp 13] _ rfl rfl #[.agg #[.string xs[k].first, .string xs[k].second, .int .i64 xs[k].cost]] Tryz.call147 (by go_simp) (HW.out _) ?_
      rintro e w1 ⟨rfl, b1⟩
      refine ⟨_, rfl, ?_⟩
      have nb0 : wr.heap.size < (wr.alloc (.cells #[.string xs[k].first, .string xs[k].second, .int .i64 xs[k].cost] 244)).drew.heap.size := by simp
      replace hS : (fun w' : World => w'.cell? ⟨wr.heap.size, 0, none⟩ = some (.string xs[k].first) ∧ w'.cell? ⟨wr.heap.size, 1, none⟩ = some (.string xs[k].second) ∧ w'.cell? ⟨wr.heap.size, 2, none⟩ = some (.int .i64 xs[k].cost)) w1 := ⟨(b1.cell (p := ⟨_, _, none⟩) nb0).trans hS.1, (b1.cell (p := ⟨_, _, none⟩) nb0).trans hS.2.1, (b1.cell (p := ⟨_, _, none⟩) nb0).trans hS.2.2⟩
      dsimp only at hS
      refine bJ hK hS ?_
      clear hK K
      simp only [Act.put, pA, pB, pC]
      refine tJ 2 hS ?_
      refine tJ 3 hS ?_
      refine tJ0 4 hS ?_
      refine tJ0 5 hS ?_
      refine tJ0 6 hS ?_
      refine tJ0 7 hS ?_
      refine tJ0 8 hS ?_
      refine tJ0 9 hS ?_
      refine tJ0 10 hS ?_
      refine tJ0 11 hS ?_
      refine tJ0 12 hS ?_
      refine tJ0 13 hS ?_
      refine tJ0 14 hS ?_
      refine tJ0 15 hS ?_
      refine tJ0 16 hS ?_
      refine tJ 17 hS ?_
      refine wpAnyH_done (by kernel_rfl) ?_ _
      go_wp2_with fail
      go_ret
      exact ⟨ret_boolI HF.out.symm, al.trans (b1.mono (by simp; omega))⟩
    · simp only [hw] at HW
      by_cases hz : k = 0
      · have HK : Hid (bigsOk xs (k + 1) = true) := by show _ = _; rw [hs1, hok.out, he, hw]; simp [hz]
        have g0 : (0 < k) = False := eq_false (by omega)
        clear hr hz hw he hs1
        go_wp2_with fail
        have hS : (fun w' : World => w'.cell? ⟨wr.heap.size, 0, none⟩ = some (.string xs[k].first) ∧ w'.cell? ⟨wr.heap.size, 1, none⟩ = some (.string xs[k].second) ∧ w'.cell? ⟨wr.heap.size, 2, none⟩ = some (.int .i64 xs[k].cost)) (wr.alloc (.cells #[.string xs[k].first, .string xs[k].second, .int .i64 xs[k].cost] 244)).drew := ⟨RN.c0, RN.c1, RN.c2⟩
        dsimp only at hS
        refine wp_region_held_drew (S := (fun w' : World => w'.cell? ⟨wr.heap.size, 0, none⟩ = some (.string xs[k].first) ∧ w'.cell? ⟨wr.heap.size, 1, none⟩ = some (.string xs[k].second) ∧ w'.cell? ⟨wr.heap.size, 2, none⟩ = some (.int .i64 xs[k].cost))) (by kernel_rfl) hS (fun _ => ?_)
        refine tJ 0 hS ?_
        refine rJ 1 fun K hK => ?_
        refine step_call 147 #[.tmp 13] _ rfl rfl #[.agg #[.string xs[k].first, .string xs[k].second, .int .i64 xs[k].cost]] Tryz.call147 (by go_simp) (HW.out _) ?_
        rintro e w1 ⟨rfl, b1⟩
        refine ⟨_, rfl, ?_⟩
        have nb0 : wr.heap.size < (wr.alloc (.cells #[.string xs[k].first, .string xs[k].second, .int .i64 xs[k].cost] 244)).drew.heap.size := by simp
        replace hS : (fun w' : World => w'.cell? ⟨wr.heap.size, 0, none⟩ = some (.string xs[k].first) ∧ w'.cell? ⟨wr.heap.size, 1, none⟩ = some (.string xs[k].second) ∧ w'.cell? ⟨wr.heap.size, 2, none⟩ = some (.int .i64 xs[k].cost)) w1 := ⟨(b1.cell (p := ⟨_, _, none⟩) nb0).trans hS.1, (b1.cell (p := ⟨_, _, none⟩) nb0).trans hS.2.1, (b1.cell (p := ⟨_, _, none⟩) nb0).trans hS.2.2⟩
        dsimp only at hS
        refine bJ hK hS ?_
        clear hK K
        simp only [Act.put, pA, pB, pC]
        refine tJ 2 hS ?_
        refine tJ 3 hS ?_
        refine tJ 4 hS ?_
        refine tJ 5 hS ?_
        refine tJ 6 hS ?_
        refine tJ0 7 hS ?_
        refine tJ0 8 hS ?_
        refine tJ0 9 hS ?_
        refine tJ0 10 hS ?_
        refine tJ0 11 hS ?_
        refine tJ0 12 hS ?_
        refine tJ0 13 hS ?_
        refine tJ0 14 hS ?_
        refine tJ0 15 hS ?_
        refine tJ 16 hS ?_
        refine tJ 17 hS ?_
        refine wpAnyH_done (by kernel_rfl) ?_ _
        go_wp2_with fail
        go_roundw
        case rel => exact ⟨k + 1, by omega, by go_num, HK, (b1.cell (p := ⟨_, _, none⟩) (by simp; omega)).trans (kp _ _ _ hsl hself), (b1.cell (p := ⟨_, _, none⟩) (by simp; omega)).trans (kp _ _ _ hsl hself0), Nat.lt_of_lt_of_le (by simp; omega) b1.size, al.trans (b1.mono (by simp; omega))⟩
        case measure => simp [intOf]; omega
      · obtain ⟨j, hj⟩ : ∃ j, k = j + 1 := ⟨k - 1, by omega⟩
        have jl : j < xs.length := by omega
        obtain ⟨b', off', e', hbb', _, h3, h4, h5, _⟩ := hr j jl
        injection e' with e'
        injection e' with e1 e2 _
        subst e1; subst e2
        rw [← hb.cell (p := ⟨b, _, none⟩) hbb] at h3 h4 h5
        have g0 : (0 < k) = True := eq_true (by omega)
        have gj : IntKind.i64.wrap ((k : Int) - 1) = (j : Int) := (IntWalk.i64_in _ (by omega)).trans (by omega)
        have jl' : (j : Int) < (xs.length : Int) := by omega
        have j0 : (0 : Int) ≤ (j : Int) := by omega
        have hen : bigAt xs (k - 1) = xs[j] := by subst hj; exact bigAt_get jl
        have dk : decide (k = 0) = false := decide_eq_false hz
        rw [hen, hw, dk] at he
        have hcc := impl_compareBigrams_c xs[j] xs[k]
        have hneg := cmpC_neg (bigKey xs[j]) (bigKey xs[k])
        generalize cmpC (bigKey xs[j]) (bigKey xs[k]) = z at hcc hneg
        have HC := Lib.hid hcc
        clear hr hcc
        cases hlw : cLess (bigKey xs[j]) (bigKey xs[k])
        · have HF := Lib.hid (modelB_false (n := n) hlt (by rw [he, hlw]; rfl))
          have gz : ((0 : Int) ≤ z) = True := eq_true (by rw [hlw] at hneg; have := of_decide_eq_false hneg; omega)
          have HJ := Lib.hid hj
          clear hj hz hw he hs1 hen dk hlw hneg
          go_wp2_with fail
          have hS : (fun w' : World => w'.cell? ⟨wr.heap.size, 0, none⟩ = some (.string xs[k].first) ∧ w'.cell? ⟨wr.heap.size, 1, none⟩ = some (.string xs[k].second) ∧ w'.cell? ⟨wr.heap.size, 2, none⟩ = some (.int .i64 xs[k].cost) ∧ w'.cell? ⟨w.heap.size, 1, none⟩ = some (.slice (some ⟨b, off, none⟩) xs.length c) ∧ w'.cell? ⟨b, off + j * 3, none⟩ = some (.string xs[j].first) ∧ w'.cell? ⟨b, off + j * 3 + 1, none⟩ = some (.string xs[j].second) ∧ w'.cell? ⟨b, off + j * 3 + 2, none⟩ = some (.int .i64 xs[j].cost)) (wr.alloc (.cells #[.string xs[k].first, .string xs[k].second, .int .i64 xs[k].cost] 244)).drew := ⟨RN.c0, RN.c1, RN.c2, kp _ _ _ hsl hself, kp _ _ _ (by omega) h3, kp _ _ _ (by omega) h4, kp _ _ _ (by omega) h5⟩
          dsimp only at hS
          refine wp_region_held_drew (S := (fun w' : World => w'.cell? ⟨wr.heap.size, 0, none⟩ = some (.string xs[k].first) ∧ w'.cell? ⟨wr.heap.size, 1, none⟩ = some (.string xs[k].second) ∧ w'.cell? ⟨wr.heap.size, 2, none⟩ = some (.int .i64 xs[k].cost) ∧ w'.cell? ⟨w.heap.size, 1, none⟩ = some (.slice (some ⟨b, off, none⟩) xs.length c) ∧ w'.cell? ⟨b, off + j * 3, none⟩ = some (.string xs[j].first) ∧ w'.cell? ⟨b, off + j * 3 + 1, none⟩ = some (.string xs[j].second) ∧ w'.cell? ⟨b, off + j * 3 + 2, none⟩ = some (.int .i64 xs[j].cost))) (by kernel_rfl) hS (fun _ => ?_)
          refine tJ 0 hS ?_
          refine rJ 1 fun K hK => ?_
          refine step_call 147 #[.tmp 13] _ rfl rfl #[.agg #[.string xs[k].first, .string xs[k].second, .int .i64 xs[k].cost]] Tryz.call147 (by go_simp) (HW.out _) ?_
          rintro e w1 ⟨rfl, b1⟩
          refine ⟨_, rfl, ?_⟩
          have nb0 : wr.heap.size < (wr.alloc (.cells #[.string xs[k].first, .string xs[k].second, .int .i64 xs[k].cost] 244)).drew.heap.size := by simp
          have nbw : w.heap.size < (wr.alloc (.cells #[.string xs[k].first, .string xs[k].second, .int .i64 xs[k].cost] 244)).drew.heap.size := by simp; omega
          have nbb : b < (wr.alloc (.cells #[.string xs[k].first, .string xs[k].second, .int .i64 xs[k].cost] 244)).drew.heap.size := by simp; omega
          replace hS : (fun w' : World => w'.cell? ⟨wr.heap.size, 0, none⟩ = some (.string xs[k].first) ∧ w'.cell? ⟨wr.heap.size, 1, none⟩ = some (.string xs[k].second) ∧ w'.cell? ⟨wr.heap.size, 2, none⟩ = some (.int .i64 xs[k].cost) ∧ w'.cell? ⟨w.heap.size, 1, none⟩ = some (.slice (some ⟨b, off, none⟩) xs.length c) ∧ w'.cell? ⟨b, off + j * 3, none⟩ = some (.string xs[j].first) ∧ w'.cell? ⟨b, off + j * 3 + 1, none⟩ = some (.string xs[j].second) ∧ w'.cell? ⟨b, off + j * 3 + 2, none⟩ = some (.int .i64 xs[j].cost)) w1 := ⟨(b1.cell (p := ⟨_, _, none⟩) nb0).trans hS.1, (b1.cell (p := ⟨_, _, none⟩) nb0).trans hS.2.1, (b1.cell (p := ⟨_, _, none⟩) nb0).trans hS.2.2.1, (b1.cell (p := ⟨_, _, none⟩) nbw).trans hS.2.2.2.1, (b1.cell (p := ⟨_, _, none⟩) nbb).trans hS.2.2.2.2.1, (b1.cell (p := ⟨_, _, none⟩) nbb).trans hS.2.2.2.2.2.1, (b1.cell (p := ⟨_, _, none⟩) nbb).trans hS.2.2.2.2.2.2⟩
          dsimp only at hS
          refine bJ hK hS ?_
          clear hK K
          simp only [Act.put, pA, pB, pC]
          refine tJ 2 hS ?_
          refine tJ 3 hS ?_
          refine tJ 4 hS ?_
          refine tJ 5 hS ?_
          refine tJ 6 hS ?_
          refine tJ 7 hS ?_
          refine tJ 8 hS ?_
          refine tJ 9 hS ?_
          refine tJ 10 hS ?_
          refine tJ 11 hS ?_
          refine tJ 12 hS ?_
          refine tJ 13 hS ?_
          refine rJ 14 fun K hK => ?_
          refine step_call 148 #[.tmp 25, .tmp 26] _ rfl rfl #[.agg #[.string xs[j].first, .string xs[j].second, .int .i64 xs[j].cost], .agg #[.string xs[k].first, .string xs[k].second, .int .i64 xs[k].cost]] Tryz.call148 (by go_simp) (HC.out _) ?_
          rintro e w2 ⟨rfl, gw⟩
          have b2 := gw.below
          refine ⟨_, rfl, ?_⟩
          replace hS : (fun w' : World => w'.cell? ⟨wr.heap.size, 0, none⟩ = some (.string xs[k].first) ∧ w'.cell? ⟨wr.heap.size, 1, none⟩ = some (.string xs[k].second) ∧ w'.cell? ⟨wr.heap.size, 2, none⟩ = some (.int .i64 xs[k].cost) ∧ w'.cell? ⟨w.heap.size, 1, none⟩ = some (.slice (some ⟨b, off, none⟩) xs.length c) ∧ w'.cell? ⟨b, off + j * 3, none⟩ = some (.string xs[j].first) ∧ w'.cell? ⟨b, off + j * 3 + 1, none⟩ = some (.string xs[j].second) ∧ w'.cell? ⟨b, off + j * 3 + 2, none⟩ = some (.int .i64 xs[j].cost)) w2 := ⟨(b2.cell (p := ⟨_, _, none⟩) (Nat.lt_of_lt_of_le nb0 b1.size)).trans hS.1, (b2.cell (p := ⟨_, _, none⟩) (Nat.lt_of_lt_of_le nb0 b1.size)).trans hS.2.1, (b2.cell (p := ⟨_, _, none⟩) (Nat.lt_of_lt_of_le nb0 b1.size)).trans hS.2.2.1, (b2.cell (p := ⟨_, _, none⟩) (Nat.lt_of_lt_of_le nbw b1.size)).trans hS.2.2.2.1, (b2.cell (p := ⟨_, _, none⟩) (Nat.lt_of_lt_of_le nbb b1.size)).trans hS.2.2.2.2.1, (b2.cell (p := ⟨_, _, none⟩) (Nat.lt_of_lt_of_le nbb b1.size)).trans hS.2.2.2.2.2.1, (b2.cell (p := ⟨_, _, none⟩) (Nat.lt_of_lt_of_le nbb b1.size)).trans hS.2.2.2.2.2.2⟩
          dsimp only at hS
          refine bJ hK hS ?_
          clear hK K
          simp only [Act.put, pA, pB, pC]
          refine tJ 15 hS ?_
          refine tJ 16 hS ?_
          refine tJ 17 hS ?_
          refine wpAnyH_done (by kernel_rfl) ?_ _
          go_wp2_with fail
          go_ret
          exact ⟨ret_boolI HF.out.symm, (al.trans (b1.mono (by simp; omega))).trans (b2.mono (Nat.le_trans (by simp; omega) b1.size))⟩
        · have HK : Hid (bigsOk xs (k + 1) = true) := by show _ = _; rw [hs1, hok.out, he, hlw]; rfl
          have gz : ((0 : Int) ≤ z) = False := eq_false (by rw [hlw] at hneg; have := of_decide_eq_true hneg; omega)
          have HJ := Lib.hid hj
          clear hj hz hw he hs1 hen dk hlw hneg
          go_wp2_with fail
          have hS : (fun w' : World => w'.cell? ⟨wr.heap.size, 0, none⟩ = some (.string xs[k].first) ∧ w'.cell? ⟨wr.heap.size, 1, none⟩ = some (.string xs[k].second) ∧ w'.cell? ⟨wr.heap.size, 2, none⟩ = some (.int .i64 xs[k].cost) ∧ w'.cell? ⟨w.heap.size, 1, none⟩ = some (.slice (some ⟨b, off, none⟩) xs.length c) ∧ w'.cell? ⟨b, off + j * 3, none⟩ = some (.string xs[j].first) ∧ w'.cell? ⟨b, off + j * 3 + 1, none⟩ = some (.string xs[j].second) ∧ w'.cell? ⟨b, off + j * 3 + 2, none⟩ = some (.int .i64 xs[j].cost)) (wr.alloc (.cells #[.string xs[k].first, .string xs[k].second, .int .i64 xs[k].cost] 244)).drew := ⟨RN.c0, RN.c1, RN.c2, kp _ _ _ hsl hself, kp _ _ _ (by omega) h3, kp _ _ _ (by omega) h4, kp _ _ _ (by omega) h5⟩
          dsimp only at hS
          refine wp_region_held_drew (S := (fun w' : World => w'.cell? ⟨wr.heap.size, 0, none⟩ = some (.string xs[k].first) ∧ w'.cell? ⟨wr.heap.size, 1, none⟩ = some (.string xs[k].second) ∧ w'.cell? ⟨wr.heap.size, 2, none⟩ = some (.int .i64 xs[k].cost) ∧ w'.cell? ⟨w.heap.size, 1, none⟩ = some (.slice (some ⟨b, off, none⟩) xs.length c) ∧ w'.cell? ⟨b, off + j * 3, none⟩ = some (.string xs[j].first) ∧ w'.cell? ⟨b, off + j * 3 + 1, none⟩ = some (.string xs[j].second) ∧ w'.cell? ⟨b, off + j * 3 + 2, none⟩ = some (.int .i64 xs[j].cost))) (by kernel_rfl) hS (fun _ => ?_)
          refine tJ 0 hS ?_
          refine rJ 1 fun K hK => ?_
          refine step_call 147 #[.tmp 13] _ rfl rfl #[.agg #[.string xs[k].first, .string xs[k].second, .int .i64 xs[k].cost]] Tryz.call147 (by go_simp) (HW.out _) ?_
          rintro e w1 ⟨rfl, b1⟩
          refine ⟨_, rfl, ?_⟩
          have nb0 : wr.heap.size < (wr.alloc (.cells #[.string xs[k].first, .string xs[k].second, .int .i64 xs[k].cost] 244)).drew.heap.size := by simp
          have nbw : w.heap.size < (wr.alloc (.cells #[.string xs[k].first, .string xs[k].second, .int .i64 xs[k].cost] 244)).drew.heap.size := by simp; omega
          have nbb : b < (wr.alloc (.cells #[.string xs[k].first, .string xs[k].second, .int .i64 xs[k].cost] 244)).drew.heap.size := by simp; omega
          replace hS : (fun w' : World => w'.cell? ⟨wr.heap.size, 0, none⟩ = some (.string xs[k].first) ∧ w'.cell? ⟨wr.heap.size, 1, none⟩ = some (.string xs[k].second) ∧ w'.cell? ⟨wr.heap.size, 2, none⟩ = some (.int .i64 xs[k].cost) ∧ w'.cell? ⟨w.heap.size, 1, none⟩ = some (.slice (some ⟨b, off, none⟩) xs.length c) ∧ w'.cell? ⟨b, off + j * 3, none⟩ = some (.string xs[j].first) ∧ w'.cell? ⟨b, off + j * 3 + 1, none⟩ = some (.string xs[j].second) ∧ w'.cell? ⟨b, off + j * 3 + 2, none⟩ = some (.int .i64 xs[j].cost)) w1 := ⟨(b1.cell (p := ⟨_, _, none⟩) nb0).trans hS.1, (b1.cell (p := ⟨_, _, none⟩) nb0).trans hS.2.1, (b1.cell (p := ⟨_, _, none⟩) nb0).trans hS.2.2.1, (b1.cell (p := ⟨_, _, none⟩) nbw).trans hS.2.2.2.1, (b1.cell (p := ⟨_, _, none⟩) nbb).trans hS.2.2.2.2.1, (b1.cell (p := ⟨_, _, none⟩) nbb).trans hS.2.2.2.2.2.1, (b1.cell (p := ⟨_, _, none⟩) nbb).trans hS.2.2.2.2.2.2⟩
          dsimp only at hS
          refine bJ hK hS ?_
          clear hK K
          simp only [Act.put, pA, pB, pC]
          refine tJ 2 hS ?_
          refine tJ 3 hS ?_
          refine tJ 4 hS ?_
          refine tJ 5 hS ?_
          refine tJ 6 hS ?_
          refine tJ 7 hS ?_
          refine tJ 8 hS ?_
          refine tJ 9 hS ?_
          refine tJ 10 hS ?_
          refine tJ 11 hS ?_
          refine tJ 12 hS ?_
          refine tJ 13 hS ?_
          refine rJ 14 fun K hK => ?_
          refine step_call 148 #[.tmp 25, .tmp 26] _ rfl rfl #[.agg #[.string xs[j].first, .string xs[j].second, .int .i64 xs[j].cost], .agg #[.string xs[k].first, .string xs[k].second, .int .i64 xs[k].cost]] Tryz.call148 (by go_simp) (HC.out _) ?_
          rintro e w2 ⟨rfl, gw⟩
          have b2 := gw.below
          refine ⟨_, rfl, ?_⟩
          replace hS : (fun w' : World => w'.cell? ⟨wr.heap.size, 0, none⟩ = some (.string xs[k].first) ∧ w'.cell? ⟨wr.heap.size, 1, none⟩ = some (.string xs[k].second) ∧ w'.cell? ⟨wr.heap.size, 2, none⟩ = some (.int .i64 xs[k].cost) ∧ w'.cell? ⟨w.heap.size, 1, none⟩ = some (.slice (some ⟨b, off, none⟩) xs.length c) ∧ w'.cell? ⟨b, off + j * 3, none⟩ = some (.string xs[j].first) ∧ w'.cell? ⟨b, off + j * 3 + 1, none⟩ = some (.string xs[j].second) ∧ w'.cell? ⟨b, off + j * 3 + 2, none⟩ = some (.int .i64 xs[j].cost)) w2 := ⟨(b2.cell (p := ⟨_, _, none⟩) (Nat.lt_of_lt_of_le nb0 b1.size)).trans hS.1, (b2.cell (p := ⟨_, _, none⟩) (Nat.lt_of_lt_of_le nb0 b1.size)).trans hS.2.1, (b2.cell (p := ⟨_, _, none⟩) (Nat.lt_of_lt_of_le nb0 b1.size)).trans hS.2.2.1, (b2.cell (p := ⟨_, _, none⟩) (Nat.lt_of_lt_of_le nbw b1.size)).trans hS.2.2.2.1, (b2.cell (p := ⟨_, _, none⟩) (Nat.lt_of_lt_of_le nbb b1.size)).trans hS.2.2.2.2.1, (b2.cell (p := ⟨_, _, none⟩) (Nat.lt_of_lt_of_le nbb b1.size)).trans hS.2.2.2.2.2.1, (b2.cell (p := ⟨_, _, none⟩) (Nat.lt_of_lt_of_le nbb b1.size)).trans hS.2.2.2.2.2.2⟩
          dsimp only at hS
          refine bJ hK hS ?_
          clear hK K
          simp only [Act.put, pA, pB, pC]
          refine tJ 15 hS ?_
          refine tJ 16 hS ?_
          refine tJ 17 hS ?_
          refine wpAnyH_done (by kernel_rfl) ?_ _
          go_wp2_with fail
          have n1 : w.heap.size < w1.heap.size := Nat.lt_of_lt_of_le nbw b1.size
          have c1 : w1.cell? ⟨w.heap.size, 0, none⟩ = some (.int .i64 n) := (b1.cell (p := ⟨_, _, none⟩) nbw).trans (kp _ _ _ hsl hself0)
          go_roundw
          case rel => exact ⟨k + 1, by omega, by go_num, HK, hS.2.2.2.1, (b2.cell (p := ⟨_, _, none⟩) n1).trans c1, Nat.lt_of_lt_of_le n1 b2.size, (al.trans (b1.mono (by simp; omega))).trans (b2.mono (by omega))⟩
          case measure => simp [intOf]; omega
  · obtain rfl : k = xs.length := by omega
    have HQ := Lib.hid (impl_isCost_c n)
    cases hq : costB n
    · have HF : Hid (modelB n xs = false) := by show _ = _; simp [modelB, hq]
      simp only [hq] at HQ
      clear hr hq
      go_wp2_with fail
      refine (HQ.out _).mono ?_
      rintro e w1 ⟨rfl, rfl⟩
      go_wp2_with fail
      go_ret
      exact ⟨ret_boolI HF.out.symm, hb⟩
    · simp only [hq] at HQ
      by_cases h60 : xs.length ≤ 60
      · have g6 : ((xs.length : Int) ≤ 60) = True := eq_true (by omega)
        have HF : Hid (modelB n xs = true) := by show _ = _; simp [modelB, hok.out, h60, hq]
        clear h60 hr hq
        go_wp2_with fail
        refine (HQ.out _).mono ?_
        rintro e w1 ⟨rfl, rfl⟩
        go_wp2_with fail
        go_ret
        exact ⟨ret_boolI HF.out.symm, hb⟩
      · have g6 : ((xs.length : Int) ≤ 60) = False := eq_false (by omega)
        have HF : Hid (modelB n xs = false) := by show _ = _; simp [modelB, h60]
        clear h60 hr hq
        go_wp2_with fail
        refine (HQ.out _).mono ?_
        rintro e w1 ⟨rfl, rfl⟩
        go_wp2_with fail
        go_ret
        exact ⟨ret_boolI HF.out.symm, hb⟩
end Go.Proofs.YtboijogahclekaaGreatDoor
