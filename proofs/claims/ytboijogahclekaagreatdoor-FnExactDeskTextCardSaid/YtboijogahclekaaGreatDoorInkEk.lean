/- Ink: the reference's test of a stroke, and the time of its last point. Conditions: none. -/
import Derived.Test.YtboijogahclekaaGreatDoorTkk
import Derived.Test.YtboijogahclekaaGreatDoorInkCk
namespace Go.Proofs.YtboijogahclekaaGreatDoor
open Go Go.RowKit
set_option maxRecDepth 100000 in
set_option maxHeartbeats 1000000 in
theorem spec_l02Stroke_c {o : Bool} {e : TypeId} {xs : PStroke} {v : Value} {F : List Nat} {g f : Nat} (w : World) (hg : w.cell? ⟨g, f, none⟩ = some v) (hgl : g < w.heap.size) (h : (pPoints e).rep o w xs [v] F) (hx : xs.length ≤ 1048576) :
 Calls Tryz.prog 57 #[.pointer (some ⟨g, f, none⟩)] w fun e w' => e = .returned (.bool (strokeB xs)) ∧ Below w.heap.size w w' := by
 obtain ⟨A, c, rfl, hc1, hc2, hr⟩ := pPoints_open h
 clear h
 go_enter Tryz.func57, Tryz.ntmps57
 go_wp2_with fail
 go_loopw [3] (fun i wr => ∃ k : Nat, k ≤ xs.length ∧ i = .int .i64 k ∧ Hid (ptsOk xs k = true) ∧ Below w.heap.size w wr) (fun i _ => xs.length - (intOf i).toNat)
 case atStart => exact ⟨0, Nat.zero_le _, rfl, rfl, Below.refl _ _⟩
 case round =>
  obtain ⟨k, hk, rfl, hok, hb⟩ := hrel
  have hbs := hb.size
  rw [← hb.cell (p := ⟨g, _, none⟩) hgl] at hg
  replace hgl : g < wr.heap.size := by omega
  by_cases hlt : k < xs.length
  · obtain ⟨b, off, rfl, hbb, _, h0, h1, h2, _⟩ := hr k hlt
    rw [← hb.cell (p := ⟨b, _, none⟩) hbb] at h0 h1 h2
    have hbb' : b < wr.heap.size := by omega
    have HC := Lib.hid (spec_l02Point_c xs[k])
    have kp : ∀ (g i : Nat) (u : Value), g < wr.heap.size → wr.cell? ⟨g, i, none⟩ = some u → (wr.drew.alloc (.cells #[.int .i64 xs[k].x, .int .i64 xs[k].y, .int .i64 xs[k].t] 147)).cell? ⟨g, i, none⟩ = some u := fun g i u hg hc => (World.cell?_alloc_past (w := wr.drew) _ _ _ hg).trans hc
    have al : Below w.heap.size w (wr.drew.alloc (.cells #[.int .i64 xs[k].x, .int .i64 xs[k].y, .int .i64 xs[k].t] 147)) := (hb.drew).alloc hbs _
    have k0 : (0 : Int) ≤ (k : Int) := by omega
    have kl' : (k : Int) < (xs.length : Int) := by omega
    cases hp : pointB xs[k]
    · have HF := Lib.hid (strokeB_false hlt (ptOk_bad hlt hp))
      simp only [hp] at HC
      clear hr hp
      go_wp2_with fail
      have hS : (fun w' => w'.cell? ⟨g, f, none⟩ = some (.slice (some ⟨b, off, none⟩) xs.length c) ∧ w'.cell? ⟨b, off + k * 3, none⟩ = some (.int .i64 xs[k].x) ∧ w'.cell? ⟨b, off + k * 3 + 1, none⟩ = some (.int .i64 xs[k].y) ∧ w'.cell? ⟨b, off + k * 3 + 2, none⟩ = some (.int .i64 xs[k].t)) wr.drew := ⟨hg, h0, h1, h2⟩
      dsimp only at hS
      refine wp_region_held_drew (S := (fun w' => w'.cell? ⟨g, f, none⟩ = some (.slice (some ⟨b, off, none⟩) xs.length c) ∧ w'.cell? ⟨b, off + k * 3, none⟩ = some (.int .i64 xs[k].x) ∧ w'.cell? ⟨b, off + k * 3 + 1, none⟩ = some (.int .i64 xs[k].y) ∧ w'.cell? ⟨b, off + k * 3 + 2, none⟩ = some (.int .i64 xs[k].t))) (by kernel_rfl) hS (fun _ => ?_)
      refine tJ 0 hS ?_
      refine tJ 1 hS ?_
      refine tJ 2 hS ?_
      refine tJ 3 hS ?_
      refine tJ 4 hS ?_
      refine tJ 5 hS ?_
      refine tJ 6 hS ?_
      refine rJ 7 fun K hK => ?_
      refine step_call 103 #[.tmp 19] _ rfl rfl #[.agg #[.int .i64 xs[k].x, .int .i64 xs[k].y, .int .i64 xs[k].t]] Tryz.call103 (by go_simp) (HC.out _) ?_
      rintro e w1 ⟨rfl, rfl⟩
      refine ⟨_, rfl, ?_⟩
      replace hS : (fun w' => w'.cell? ⟨g, f, none⟩ = some (.slice (some ⟨b, off, none⟩) xs.length c) ∧ w'.cell? ⟨b, off + k * 3, none⟩ = some (.int .i64 xs[k].x) ∧ w'.cell? ⟨b, off + k * 3 + 1, none⟩ = some (.int .i64 xs[k].y) ∧ w'.cell? ⟨b, off + k * 3 + 2, none⟩ = some (.int .i64 xs[k].t)) (wr.drew.alloc (.cells #[.int .i64 xs[k].x, .int .i64 xs[k].y, .int .i64 xs[k].t] 147)) := ⟨kp _ _ _ hgl hg, kp _ _ _ hbb' h0, kp _ _ _ hbb' h1, kp _ _ _ hbb' h2⟩
      dsimp only at hS
      refine bJ hK hS ?_
      clear hK K
      simp only [Act.put, pA, pB, pC]
      refine tJ 8 hS ?_
      refine tJ 9 hS ?_
      refine tJ0 10 hS ?_
      refine tJ0 11 hS ?_
      refine tJ0 12 hS ?_
      refine tJ0 13 hS ?_
      refine tJ0 14 hS ?_
      refine tJ0 15 hS ?_
      refine tJ0 16 hS ?_
      refine tJ0 17 hS ?_
      refine tJ0 18 hS ?_
      refine tJ0 19 hS ?_
      refine tJ0 20 hS ?_
      refine tJ0 21 hS ?_
      refine tJ0 22 hS ?_
      refine tJ0 23 hS ?_
      refine tJ0 24 hS ?_
      refine tJ0 25 hS ?_
      refine tJ0 26 hS ?_
      refine tJ0 27 hS ?_
      refine tJ0 28 hS ?_
      refine tJ0 29 hS ?_
      refine tJ0 30 hS ?_
      refine tJ0 31 hS ?_
      refine tJ 32 hS ?_
      refine wpAnyH_done (by kernel_rfl) ?_ _
      go_wp2_with fail
      go_ret
      exact ⟨ret_boolI HF.out.symm, al⟩
    · have HP := Lib.hid hp
      simp only [hp] at HC
      clear hp
      by_cases hz : k = 0
      · have HK : Hid (ptsOk xs (k + 1) = true) := by show _ = _; rw [ptsOk, hok.out, ptOk_step hlt HP.out (.inl hz)]; rfl
        have g0 : (0 < k) = False := eq_false (by omega)
        clear hr hz
        go_wp2_with fail
        have hS : (fun w' => w'.cell? ⟨g, f, none⟩ = some (.slice (some ⟨b, off, none⟩) xs.length c) ∧ w'.cell? ⟨b, off + k * 3, none⟩ = some (.int .i64 xs[k].x) ∧ w'.cell? ⟨b, off + k * 3 + 1, none⟩ = some (.int .i64 xs[k].y) ∧ w'.cell? ⟨b, off + k * 3 + 2, none⟩ = some (.int .i64 xs[k].t)) wr.drew := ⟨hg, h0, h1, h2⟩
        dsimp only at hS
        refine wp_region_held_drew (S := (fun w' => w'.cell? ⟨g, f, none⟩ = some (.slice (some ⟨b, off, none⟩) xs.length c) ∧ w'.cell? ⟨b, off + k * 3, none⟩ = some (.int .i64 xs[k].x) ∧ w'.cell? ⟨b, off + k * 3 + 1, none⟩ = some (.int .i64 xs[k].y) ∧ w'.cell? ⟨b, off + k * 3 + 2, none⟩ = some (.int .i64 xs[k].t))) (by kernel_rfl) hS (fun _ => ?_)
        refine tJ 0 hS ?_
        refine tJ 1 hS ?_
        refine tJ 2 hS ?_
        refine tJ 3 hS ?_
        refine tJ 4 hS ?_
        refine tJ 5 hS ?_
        refine tJ 6 hS ?_
        refine rJ 7 fun K hK => ?_
        refine step_call 103 #[.tmp 19] _ rfl rfl #[.agg #[.int .i64 xs[k].x, .int .i64 xs[k].y, .int .i64 xs[k].t]] Tryz.call103 (by go_simp) (HC.out _) ?_
        rintro e w1 ⟨rfl, rfl⟩
        refine ⟨_, rfl, ?_⟩
        replace hS : (fun w' => w'.cell? ⟨g, f, none⟩ = some (.slice (some ⟨b, off, none⟩) xs.length c) ∧ w'.cell? ⟨b, off + k * 3, none⟩ = some (.int .i64 xs[k].x) ∧ w'.cell? ⟨b, off + k * 3 + 1, none⟩ = some (.int .i64 xs[k].y) ∧ w'.cell? ⟨b, off + k * 3 + 2, none⟩ = some (.int .i64 xs[k].t)) (wr.drew.alloc (.cells #[.int .i64 xs[k].x, .int .i64 xs[k].y, .int .i64 xs[k].t] 147)) := ⟨kp _ _ _ hgl hg, kp _ _ _ hbb' h0, kp _ _ _ hbb' h1, kp _ _ _ hbb' h2⟩
        dsimp only at hS
        refine bJ hK hS ?_
        clear hK K
        simp only [Act.put, pA, pB, pC]
        refine tJ 8 hS ?_
        refine tJ 9 hS ?_
        refine tJ 10 hS ?_
        refine tJ 11 hS ?_
        refine tJ 12 hS ?_
        refine tJ0 13 hS ?_
        refine tJ0 14 hS ?_
        refine tJ0 15 hS ?_
        refine tJ0 16 hS ?_
        refine tJ0 17 hS ?_
        refine tJ0 18 hS ?_
        refine tJ0 19 hS ?_
        refine tJ0 20 hS ?_
        refine tJ0 21 hS ?_
        refine tJ0 22 hS ?_
        refine tJ0 23 hS ?_
        refine tJ0 24 hS ?_
        refine tJ0 25 hS ?_
        refine tJ0 26 hS ?_
        refine tJ0 27 hS ?_
        refine tJ0 28 hS ?_
        refine tJ0 29 hS ?_
        refine tJ0 30 hS ?_
        refine tJ 31 hS ?_
        refine tJ 32 hS ?_
        refine wpAnyH_done (by kernel_rfl) ?_ _
        go_wp2_with fail
        go_roundw
        case rel => exact ⟨k + 1, by omega, by go_num, HK, al⟩
        case measure => simp [intOf]; omega
      · obtain ⟨j, hj⟩ : ∃ j, k = j + 1 := ⟨k - 1, by omega⟩
        have jl : j < xs.length := by omega
        obtain ⟨b', off', e', hb3, _, _, _, h3, _⟩ := hr j jl
        injection e' with e'
        injection e' with e1 e2 _
        subst e1; subst e2
        rw [← hb.cell (p := ⟨b, _, none⟩) hb3] at h3
        have g0 : (0 < k) = True := eq_true (by omega)
        have gj : IntKind.i64.wrap ((k : Int) - 1) = (j : Int) := (IntWalk.i64_in _ (by omega)).trans (by omega)
        have jl' : (j : Int) < (xs.length : Int) := by omega
        have j0 : (0 : Int) ≤ (j : Int) := by omega
        clear hr
        by_cases ht : xs[k].t ≤ xs[j].t
        · have HF : Hid (strokeB xs = false) := strokeB_false hlt (by subst hj; exact ptOk_late hlt ht)
          have gt : (xs[k].t ≤ xs[j].t) = True := eq_true ht
          have HJ := Lib.hid hj
          clear hj ht hz
          go_wp2_with fail
          have hS : (fun w' => w'.cell? ⟨g, f, none⟩ = some (.slice (some ⟨b, off, none⟩) xs.length c) ∧ w'.cell? ⟨b, off + k * 3, none⟩ = some (.int .i64 xs[k].x) ∧ w'.cell? ⟨b, off + k * 3 + 1, none⟩ = some (.int .i64 xs[k].y) ∧ w'.cell? ⟨b, off + k * 3 + 2, none⟩ = some (.int .i64 xs[k].t) ∧ w'.cell? ⟨b, off + j * 3 + 2, none⟩ = some (.int .i64 xs[j].t)) wr.drew := ⟨hg, h0, h1, h2, h3⟩
          dsimp only at hS
          refine wp_region_held_drew (S := (fun w' => w'.cell? ⟨g, f, none⟩ = some (.slice (some ⟨b, off, none⟩) xs.length c) ∧ w'.cell? ⟨b, off + k * 3, none⟩ = some (.int .i64 xs[k].x) ∧ w'.cell? ⟨b, off + k * 3 + 1, none⟩ = some (.int .i64 xs[k].y) ∧ w'.cell? ⟨b, off + k * 3 + 2, none⟩ = some (.int .i64 xs[k].t) ∧ w'.cell? ⟨b, off + j * 3 + 2, none⟩ = some (.int .i64 xs[j].t))) (by kernel_rfl) hS (fun _ => ?_)
          refine tJ 0 hS ?_
          refine tJ 1 hS ?_
          refine tJ 2 hS ?_
          refine tJ 3 hS ?_
          refine tJ 4 hS ?_
          refine tJ 5 hS ?_
          refine tJ 6 hS ?_
          refine rJ 7 fun K hK => ?_
          refine step_call 103 #[.tmp 19] _ rfl rfl #[.agg #[.int .i64 xs[k].x, .int .i64 xs[k].y, .int .i64 xs[k].t]] Tryz.call103 (by go_simp) (HC.out _) ?_
          rintro e w1 ⟨rfl, rfl⟩
          refine ⟨_, rfl, ?_⟩
          replace hS : (fun w' => w'.cell? ⟨g, f, none⟩ = some (.slice (some ⟨b, off, none⟩) xs.length c) ∧ w'.cell? ⟨b, off + k * 3, none⟩ = some (.int .i64 xs[k].x) ∧ w'.cell? ⟨b, off + k * 3 + 1, none⟩ = some (.int .i64 xs[k].y) ∧ w'.cell? ⟨b, off + k * 3 + 2, none⟩ = some (.int .i64 xs[k].t) ∧ w'.cell? ⟨b, off + j * 3 + 2, none⟩ = some (.int .i64 xs[j].t)) (wr.drew.alloc (.cells #[.int .i64 xs[k].x, .int .i64 xs[k].y, .int .i64 xs[k].t] 147)) := ⟨kp _ _ _ hgl hg, kp _ _ _ hbb' h0, kp _ _ _ hbb' h1, kp _ _ _ hbb' h2, kp _ _ _ hbb' h3⟩
          dsimp only at hS
          refine bJ hK hS ?_
          clear hK K
          simp only [Act.put, pA, pB, pC]
          refine tJ 8 hS ?_
          refine tJ 9 hS ?_
          refine tJ 10 hS ?_
          refine tJ 11 hS ?_
          refine tJ 12 hS ?_
          refine tJ 13 hS ?_
          refine tJ 14 hS ?_
          refine tJ 15 hS ?_
          refine tJ 16 hS ?_
          refine tJ 17 hS ?_
          refine tJ 18 hS ?_
          refine tJ 19 hS ?_
          refine tJ 20 hS ?_
          refine tJ 21 hS ?_
          refine tJ 22 hS ?_
          refine tJ 23 hS ?_
          refine tJ 24 hS ?_
          refine tJ 25 hS ?_
          refine tJ 26 hS ?_
          refine tJ 27 hS ?_
          refine tJ 28 hS ?_
          refine tJ 29 hS ?_
          refine tJ 30 hS ?_
          refine tJ 31 hS ?_
          refine tJ 32 hS ?_
          refine wpAnyH_done (by kernel_rfl) ?_ _
          go_wp2_with fail
          go_ret
          exact ⟨ret_boolI HF.out.symm, al⟩
        · have HK : Hid (ptsOk xs (k + 1) = true) := by
           show _ = _
           rw [ptsOk, hok.out, ptOk_step hlt HP.out (.inr ⟨j, hj, fun _ => by omega⟩)]; rfl
          have gt : (xs[k].t ≤ xs[j].t) = False := eq_false ht
          have HJ := Lib.hid hj
          clear hj ht hz
          go_wp2_with fail
          have hS : (fun w' => w'.cell? ⟨g, f, none⟩ = some (.slice (some ⟨b, off, none⟩) xs.length c) ∧ w'.cell? ⟨b, off + k * 3, none⟩ = some (.int .i64 xs[k].x) ∧ w'.cell? ⟨b, off + k * 3 + 1, none⟩ = some (.int .i64 xs[k].y) ∧ w'.cell? ⟨b, off + k * 3 + 2, none⟩ = some (.int .i64 xs[k].t) ∧ w'.cell? ⟨b, off + j * 3 + 2, none⟩ = some (.int .i64 xs[j].t)) wr.drew := ⟨hg, h0, h1, h2, h3⟩
          dsimp only at hS
          refine wp_region_held_drew (S := (fun w' => w'.cell? ⟨g, f, none⟩ = some (.slice (some ⟨b, off, none⟩) xs.length c) ∧ w'.cell? ⟨b, off + k * 3, none⟩ = some (.int .i64 xs[k].x) ∧ w'.cell? ⟨b, off + k * 3 + 1, none⟩ = some (.int .i64 xs[k].y) ∧ w'.cell? ⟨b, off + k * 3 + 2, none⟩ = some (.int .i64 xs[k].t) ∧ w'.cell? ⟨b, off + j * 3 + 2, none⟩ = some (.int .i64 xs[j].t))) (by kernel_rfl) hS (fun _ => ?_)
          refine tJ 0 hS ?_
          refine tJ 1 hS ?_
          refine tJ 2 hS ?_
          refine tJ 3 hS ?_
          refine tJ 4 hS ?_
          refine tJ 5 hS ?_
          refine tJ 6 hS ?_
          refine rJ 7 fun K hK => ?_
          refine step_call 103 #[.tmp 19] _ rfl rfl #[.agg #[.int .i64 xs[k].x, .int .i64 xs[k].y, .int .i64 xs[k].t]] Tryz.call103 (by go_simp) (HC.out _) ?_
          rintro e w1 ⟨rfl, rfl⟩
          refine ⟨_, rfl, ?_⟩
          replace hS : (fun w' => w'.cell? ⟨g, f, none⟩ = some (.slice (some ⟨b, off, none⟩) xs.length c) ∧ w'.cell? ⟨b, off + k * 3, none⟩ = some (.int .i64 xs[k].x) ∧ w'.cell? ⟨b, off + k * 3 + 1, none⟩ = some (.int .i64 xs[k].y) ∧ w'.cell? ⟨b, off + k * 3 + 2, none⟩ = some (.int .i64 xs[k].t) ∧ w'.cell? ⟨b, off + j * 3 + 2, none⟩ = some (.int .i64 xs[j].t)) (wr.drew.alloc (.cells #[.int .i64 xs[k].x, .int .i64 xs[k].y, .int .i64 xs[k].t] 147)) := ⟨kp _ _ _ hgl hg, kp _ _ _ hbb' h0, kp _ _ _ hbb' h1, kp _ _ _ hbb' h2, kp _ _ _ hbb' h3⟩
          dsimp only at hS
          refine bJ hK hS ?_
          clear hK K
          simp only [Act.put, pA, pB, pC]
          refine tJ 8 hS ?_
          refine tJ 9 hS ?_
          refine tJ 10 hS ?_
          refine tJ 11 hS ?_
          refine tJ 12 hS ?_
          refine tJ 13 hS ?_
          refine tJ 14 hS ?_
          refine tJ 15 hS ?_
          refine tJ 16 hS ?_
          refine tJ 17 hS ?_
          refine tJ 18 hS ?_
          refine tJ 19 hS ?_
          refine tJ 20 hS ?_
          refine tJ 21 hS ?_
          refine tJ 22 hS ?_
          refine tJ 23 hS ?_
          refine tJ 24 hS ?_
          refine tJ 25 hS ?_
          refine tJ 26 hS ?_
          refine tJ 27 hS ?_
          refine tJ 28 hS ?_
          refine tJ 29 hS ?_
          refine tJ 30 hS ?_
          refine tJ 31 hS ?_
          refine tJ 32 hS ?_
          refine wpAnyH_done (by kernel_rfl) ?_ _
          go_wp2_with fail
          go_roundw
          case rel => exact ⟨k + 1, by omega, by go_num, HK, al⟩
          case measure => simp [intOf]; omega
  · obtain rfl : k = xs.length := by omega
    clear hr
    have HV : Hid (inR (xs.length : Int) 1 60 = strokeB xs) := by
     show _ = _
     rw [strokeB, hok.out, inR, Bool.true_and]
     congr 1 <;> rw [decide_eq_decide] <;> omega
    have C := spec_inR_c (xs.length : Int) 1 60
    generalize inR (xs.length : Int) 1 60 = bb at C HV
    have HC := Lib.hid C
    clear C
    go_wp2_with fail
    refine (HC.out _).mono ?_
    rintro e w1 ⟨rfl, rfl⟩
    go_wp2_with fail
    go_ret
    exact ⟨ret_boolI HV.out, hb⟩
set_option maxRecDepth 100000 in
set_option maxHeartbeats 1000000 in
theorem spec_l02Last_c {o : Bool} {e : TypeId} {xs : PStroke} {v : Value} {F : List Nat} {g f : Nat} (w : World) (hg : w.cell? ⟨g, f, none⟩ = some v) (h : (pPoints e).rep o w xs [v] F) (h0 : 0 < xs.length) (hx : xs.length ≤ 1048576) :
 Calls Tryz.prog 58 #[.pointer (some ⟨g, f, none⟩)] w fun e w' => e = .returned (.int .i64 (lastT xs)) ∧ ∃ n, w' = w.drewN n := by
 obtain ⟨A, c, rfl, hc1, hc2, hr⟩ := pPoints_open h
 clear h
 obtain ⟨j, hj⟩ : ∃ j, xs.length = j + 1 := ⟨xs.length - 1, by omega⟩
 have jl : j < xs.length := by omega
 obtain ⟨b, off, rfl, hbb, _, c0, c1, c2, _⟩ := hr j jl
 have hl : lastT xs = xs[j].t := by
  unfold lastT
  rw [show xs.length - 1 = j by omega, pt_get jl]
 rw [hl]
 clear hr hl
 have gj : IntKind.i64.wrap ((xs.length : Int) - 1) = (j : Int) := (IntWalk.i64_in _ (by omega)).trans (by omega)
 have j0 : (0 : Int) ≤ (j : Int) := by omega
 have jl' : (j : Int) < (xs.length : Int) := by omega
 have HJ := Lib.hid hj
 clear hj
 go_enter Tryz.func58, Tryz.ntmps58
 go_wp2_with fail
 go_quiet (fail)
 go_wp2_with fail
 go_ret
 exact ⟨rfl, _, rfl⟩
end Go.Proofs.YtboijogahclekaaGreatDoor
