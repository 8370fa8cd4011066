/- Ink: the reference's test of ink. Conditions: none. -/
import Derived.Test.YtboijogahclekaaGreatDoorTkk
import Derived.Test.YtboijogahclekaaGreatDoorInkEk
namespace Go.Proofs.YtboijogahclekaaGreatDoor
open Go Go.RowKit
set_option maxRecDepth 100000 in
set_option maxHeartbeats 1000000 in
theorem spec_l02Ok_c {o : Bool} {pe e : TypeId} {xs : List PStroke} {v : Value} {F : List Nat} {g f : Nat} (w : World) (hg : w.cell? ⟨g, f, none⟩ = some v) (hgl : g < w.heap.size) (h : (pStrokes pe e).rep o w xs [v] F) (hx : xs.length ≤ 1048576) (hxe : ∀ l ∈ xs, l.length ≤ 1048576) :
 Calls Tryz.prog 54 #[.pointer (some ⟨g, f, none⟩)] w fun e w' => e = .returned (.bool (inkB xs)) ∧ Below w.heap.size w w' := by
 obtain ⟨A, c, rfl, hc1, hc2, hr⟩ := pStrokes_open h
 clear h
 go_enter Tryz.func54, Tryz.ntmps54
 go_wp2_with fail
 go_loopw [3] (fun i wr => ∃ k : Nat, k ≤ xs.length ∧ i = .int .i64 k ∧ Hid (stsOk xs k = true) ∧ Below w.heap.size w wr) (fun i _ => xs.length - (intOf i).toNat)
 case atStart => exact ⟨0, Nat.zero_le _, rfl, rfl, Below.refl _ _⟩
 case round =>
  obtain ⟨k, hk, rfl, hok, hb⟩ := hrel
  have hbs := hb.size
  rw [← hb.cell (p := ⟨g, _, none⟩) hgl] at hg
  replace hgl : g < wr.heap.size := by omega
  by_cases hlt : k < xs.length
  · obtain ⟨b, off, u, Fk, rfl, hbb, _, hrk, _, h0⟩ := hr k hlt
    rw [← hb.cell (p := ⟨b, _, none⟩) hbb] at h0
    have hbb' : b < wr.heap.size := by omega
    have hle := hxe _ (List.getElem_mem hlt)
    have QK := (hrk.below hb).drew
    have HC := Lib.hid (spec_l02Stroke_c wr.drew h0 hbb' QK hle)
    have k0 : (0 : Int) ≤ (k : Int) := by omega
    have kl' : (k : Int) < (xs.length : Int) := by omega
    cases hp : strokeB xs[k]
    · have HF := Lib.hid (inkB_false hlt (stOk_bad hlt hp))
      simp only [hp] at HC
      obtain ⟨AK, ck, rfl⟩ := slice_len hrk
      clear hr hp hrk QK
      go_wp2_with fail
      have hS : (fun w' => w'.cell? ⟨g, f, none⟩ = some (.slice (some ⟨b, off, none⟩) xs.length c) ∧ w'.cell? ⟨b, off + k, none⟩ = some (.slice AK xs[k].length ck)) wr.drew := ⟨hg, h0⟩
      dsimp only at hS
      refine wp_region_held_drew (S := (fun w' => w'.cell? ⟨g, f, none⟩ = some (.slice (some ⟨b, off, none⟩) xs.length c) ∧ w'.cell? ⟨b, off + k, none⟩ = some (.slice AK xs[k].length ck))) (by kernel_rfl) hS (fun _ => ?_)
      refine tJ 0 hS ?_
      refine tJ 1 hS ?_
      refine tJ 2 hS ?_
      refine tJ 3 hS ?_
      refine tJ 4 hS ?_
      refine tJ 5 hS ?_
      refine rJ 6 fun K hK => ?_
      refine step_call 57 #[.tmp 18] _ rfl rfl #[.pointer (some ⟨b, off + k, none⟩)] Tryz.call57 (by go_simp) HC.out ?_
      rintro e w1 ⟨rfl, bb1⟩
      refine ⟨_, rfl, ?_⟩
      replace hS : (fun w' => w'.cell? ⟨g, f, none⟩ = some (.slice (some ⟨b, off, none⟩) xs.length c) ∧ w'.cell? ⟨b, off + k, none⟩ = some (.slice AK xs[k].length ck)) w1 := ⟨keep_b (w2 := wr.drew) bb1 hgl hg, keep_b (w2 := wr.drew) bb1 hbb' h0⟩
      dsimp only at hS
      refine bJ hK hS ?_
      clear hK K
      simp only [Act.put, pA, pB, pC]
      refine tJ 7 hS ?_
      refine tJ 8 hS ?_
      refine tJ0 9 hS ?_
      refine tJ0 10 hS ?_
      refine tJ0 11 hS ?_
      refine tJ0 12 hS ?_
      refine tJ0 13 hS ?_
      refine tJ0 14 hS ?_
      refine tJ0 15 hS ?_
      refine tJ0 16 hS ?_
      refine tJ0 17 hS ?_
      refine tJ0 18 hS ?_
      refine tJ0 19 hS ?_
      refine tJ0 20 hS ?_
      refine tJ0 21 hS ?_
      refine tJ0 22 hS ?_
      refine tJ0 23 hS ?_
      refine tJ0 24 hS ?_
      refine tJ0 25 hS ?_
      refine tJ0 26 hS ?_
      refine tJ0 27 hS ?_
      refine tJ0 28 hS ?_
      refine tJ0 29 hS ?_
      refine tJ0 30 hS ?_
      refine tJ0 31 hS ?_
      refine tJ0 32 hS ?_
      refine tJ 33 hS ?_
      refine wpAnyH_done (by kernel_rfl) ?_ _
      go_wp2_with fail
      go_ret
      exact ⟨ret_boolI HF.out.symm, hb.drew.trans (bb1.mono hbs)⟩
    · have HP := Lib.hid hp
      simp only [hp] at HC
      by_cases hz : k = 0
      · have HK : Hid (stsOk xs (k + 1) = true) := by show _ = _; rw [stsOk, hok.out, stOk_step hlt HP.out (.inl hz)]; rfl
        have g0 : (0 < k) = False := eq_false (by omega)
        obtain ⟨AK, ck, rfl⟩ := slice_len hrk
        clear hr hz hp hrk QK
        go_wp2_with fail
        have hS : (fun w' => w'.cell? ⟨g, f, none⟩ = some (.slice (some ⟨b, off, none⟩) xs.length c) ∧ w'.cell? ⟨b, off + k, none⟩ = some (.slice AK xs[k].length ck)) wr.drew := ⟨hg, h0⟩
        dsimp only at hS
        refine wp_region_held_drew (S := (fun w' => w'.cell? ⟨g, f, none⟩ = some (.slice (some ⟨b, off, none⟩) xs.length c) ∧ w'.cell? ⟨b, off + k, none⟩ = some (.slice AK xs[k].length ck))) (by kernel_rfl) hS (fun _ => ?_)
        refine tJ 0 hS ?_
        refine tJ 1 hS ?_
        refine tJ 2 hS ?_
        refine tJ 3 hS ?_
        refine tJ 4 hS ?_
        refine tJ 5 hS ?_
        refine rJ 6 fun K hK => ?_
        refine step_call 57 #[.tmp 18] _ rfl rfl #[.pointer (some ⟨b, off + k, none⟩)] Tryz.call57 (by go_simp) HC.out ?_
        rintro e w1 ⟨rfl, bb1⟩
        refine ⟨_, rfl, ?_⟩
        replace hS : (fun w' => w'.cell? ⟨g, f, none⟩ = some (.slice (some ⟨b, off, none⟩) xs.length c) ∧ w'.cell? ⟨b, off + k, none⟩ = some (.slice AK xs[k].length ck)) w1 := ⟨keep_b (w2 := wr.drew) bb1 hgl hg, keep_b (w2 := wr.drew) bb1 hbb' h0⟩
        dsimp only at hS
        refine bJ hK hS ?_
        clear hK K
        simp only [Act.put, pA, pB, pC]
        refine tJ 7 hS ?_
        refine tJ 8 hS ?_
        refine tJ 9 hS ?_
        refine tJ 10 hS ?_
        refine tJ 11 hS ?_
        refine tJ0 12 hS ?_
        refine tJ0 13 hS ?_
        refine tJ0 14 hS ?_
        refine tJ0 15 hS ?_
        refine tJ0 16 hS ?_
        refine tJ0 17 hS ?_
        refine tJ0 18 hS ?_
        refine tJ0 19 hS ?_
        refine tJ0 20 hS ?_
        refine tJ0 21 hS ?_
        refine tJ0 22 hS ?_
        refine tJ0 23 hS ?_
        refine tJ0 24 hS ?_
        refine tJ0 25 hS ?_
        refine tJ0 26 hS ?_
        refine tJ0 27 hS ?_
        refine tJ0 28 hS ?_
        refine tJ0 29 hS ?_
        refine tJ0 30 hS ?_
        refine tJ0 31 hS ?_
        refine tJ 32 hS ?_
        refine tJ 33 hS ?_
        refine wpAnyH_done (by kernel_rfl) ?_ _
        go_wp2_with fail
        go_roundw
        case rel => exact ⟨k + 1, by omega, by go_num, HK, hb.drew.trans (bb1.mono hbs)⟩
        case measure => simp [intOf]; omega
      · obtain ⟨j, hj⟩ : ∃ j, k = j + 1 := ⟨k - 1, by omega⟩
        have jl : j < xs.length := by omega
        obtain ⟨b', off', u', Fj, e', hb3, _, hrj, _, h3⟩ := hr j jl
        injection e' with e'
        injection e' with e1 e2 _
        subst e1; subst e2
        rw [← hb.cell (p := ⟨b, _, none⟩) hb3] at h3
        obtain ⟨Aj, cj, rfl⟩ := slice_len hrj
        have p1 := strokeB_pos hp
        have p2 := Lib.hid (strokeB_pos (stOk_stroke jl (stsOk_get hok.out (show j < k by omega))))
        have hlej := hxe _ (List.getElem_mem jl)
        have QJ := Lib.hid (hrj.below hb).drew
        have CL := Lib.hid (fun w2 (bb : Below wr.drew.heap.size wr.drew w2) (hc : w2.cell? ⟨b, off + j, none⟩ = some (.slice Aj xs[j].length cj)) => spec_l02Last_c w2 hc (QJ.out.below bb) p2.out hlej)
        obtain ⟨AK, ck, rfl, _, _, hr1⟩ := pPoints_open hrk
        obtain ⟨b1, o1, rfl, hb1, _, _, _, h4, _⟩ := hr1 0 p1
        rw [← hb.cell (p := ⟨b1, _, none⟩) hb1] at h4
        simp only [Nat.zero_mul, Nat.add_zero] at h4
        replace hb1 : b1 < wr.heap.size := by omega
        have eft : xs[k][0].t = firstT xs[k] := by unfold firstT; rw [pt_get p1]
        rw [eft] at h4
        have p1' : (0 : Int) < (xs[k].length : Int) := by omega
        have g0 : (0 < k) = True := eq_true (by omega)
        have gj : IntKind.i64.wrap ((k : Int) - 1) = (j : Int) := (IntWalk.i64_in _ (by omega)).trans (by omega)
        have jl' : (j : Int) < (xs.length : Int) := by omega
        have j0 : (0 : Int) ≤ (j : Int) := by omega
        have HT : firstT xs[k] ≤ lastT xs[j] → Hid (inkB xs = false) := fun ht => inkB_false hlt (by subst hj; exact stOk_late hlt ht)
        have HN : ¬ firstT xs[k] ≤ lastT xs[j] → Hid (stsOk xs (k + 1) = true) := fun ht => by
         show _ = _
         rw [stsOk, hok.out, stOk_step hlt HP.out (.inr ⟨j, hj, fun _ => by omega⟩)]; rfl
        clear eft
        generalize hft : firstT xs[k] = ft at h4 HT HN
        generalize hlt' : lastT xs[j] = ltt at CL HT HN
        have HT' := Lib.hid HT
        have HN' := Lib.hid HN
        have HJ := Lib.hid hj
        clear hr hj hz hp hrj hrk HT HN hft hlt' hr1 QK
        by_cases ht : ft ≤ ltt
        · have HF := HT'.out ht
          have gt : (ft ≤ ltt) = True := eq_true ht
          clear ht
          go_wp2_with fail
          have hS : (fun w' => w'.cell? ⟨g, f, none⟩ = some (.slice (some ⟨b, off, none⟩) xs.length c) ∧ w'.cell? ⟨b, off + k, none⟩ = some (.slice (some ⟨b1, o1, none⟩) xs[k].length ck) ∧ w'.cell? ⟨b, off + j, none⟩ = some (.slice Aj xs[j].length cj) ∧ w'.cell? ⟨b1, o1 + 2, none⟩ = some (.int .i64 ft)) wr.drew := ⟨hg, h0, h3, h4⟩
          dsimp only at hS
          refine wp_region_held_drew (S := (fun w' => w'.cell? ⟨g, f, none⟩ = some (.slice (some ⟨b, off, none⟩) xs.length c) ∧ w'.cell? ⟨b, off + k, none⟩ = some (.slice (some ⟨b1, o1, none⟩) xs[k].length ck) ∧ w'.cell? ⟨b, off + j, none⟩ = some (.slice Aj xs[j].length cj) ∧ w'.cell? ⟨b1, o1 + 2, none⟩ = some (.int .i64 ft))) (by kernel_rfl) hS (fun _ => ?_)
          refine tJ 0 hS ?_
          refine tJ 1 hS ?_
          refine tJ 2 hS ?_
          refine tJ 3 hS ?_
          refine tJ 4 hS ?_
          refine tJ 5 hS ?_
          refine rJ 6 fun K hK => ?_
          refine step_call 57 #[.tmp 18] _ rfl rfl #[.pointer (some ⟨b, off + k, none⟩)] Tryz.call57 (by go_simp) HC.out ?_
          rintro e w1 ⟨rfl, bb1⟩
          refine ⟨_, rfl, ?_⟩
          replace hS : (fun w' => w'.cell? ⟨g, f, none⟩ = some (.slice (some ⟨b, off, none⟩) xs.length c) ∧ w'.cell? ⟨b, off + k, none⟩ = some (.slice (some ⟨b1, o1, none⟩) xs[k].length ck) ∧ w'.cell? ⟨b, off + j, none⟩ = some (.slice Aj xs[j].length cj) ∧ w'.cell? ⟨b1, o1 + 2, none⟩ = some (.int .i64 ft)) w1 := ⟨keep_b (w2 := wr.drew) bb1 hgl hg, keep_b (w2 := wr.drew) bb1 hbb' h0, keep_b (w2 := wr.drew) bb1 hbb' h3, keep_b (w2 := wr.drew) bb1 hb1 h4⟩
          dsimp only at hS
          refine bJ hK hS ?_
          clear hK K
          simp only [Act.put, pA, pB, pC]
          refine tJ 7 hS ?_
          refine tJ 8 hS ?_
          refine tJ 9 hS ?_
          refine tJ 10 hS ?_
          refine tJ 11 hS ?_
          refine tJ 12 hS ?_
          refine tJ 13 hS ?_
          refine tJ 14 hS ?_
          refine tJ 15 hS ?_
          refine tJ 16 hS ?_
          refine tJ 17 hS ?_
          refine tJ 18 hS ?_
          refine tJ 19 hS ?_
          refine tJ 20 hS ?_
          refine tJ 21 hS ?_
          refine tJ 22 hS ?_
          refine tJ 23 hS ?_
          refine tJ 24 hS ?_
          refine tJ 25 hS ?_
          refine tJ 26 hS ?_
          refine tJ 27 hS ?_
          refine tJ 28 hS ?_
          refine tJ 29 hS ?_
          refine rJ 30 fun K hK => ?_
          refine step_call 58 #[.tmp 42] _ rfl rfl #[.pointer (some ⟨b, off + j, none⟩)] Tryz.call58 (by go_simp) (CL.out _ bb1 hS.2.2.1) ?_
          rintro e w2 ⟨rfl, n2, rfl⟩
          refine ⟨_, rfl, ?_⟩
          refine bJ hK hS ?_
          clear hK K
          simp only [Act.put, pA, pB, pC]
          refine tJ 31 hS ?_
          refine tJ 32 hS ?_
          refine tJ 33 hS ?_
          refine wpAnyH_done (by kernel_rfl) ?_ _
          go_wp2_with fail
          go_ret
          exact ⟨ret_boolI HF.out.symm, below_drewN (hb.drew.trans (bb1.mono hbs)) _⟩
        · have HK := HN'.out ht
          have gt : (ft ≤ ltt) = False := eq_false ht
          clear ht
          go_wp2_with fail
          have hS : (fun w' => w'.cell? ⟨g, f, none⟩ = some (.slice (some ⟨b, off, none⟩) xs.length c) ∧ w'.cell? ⟨b, off + k, none⟩ = some (.slice (some ⟨b1, o1, none⟩) xs[k].length ck) ∧ w'.cell? ⟨b, off + j, none⟩ = some (.slice Aj xs[j].length cj) ∧ w'.cell? ⟨b1, o1 + 2, none⟩ = some (.int .i64 ft)) wr.drew := ⟨hg, h0, h3, h4⟩
          dsimp only at hS
          refine wp_region_held_drew (S := (fun w' => w'.cell? ⟨g, f, none⟩ = some (.slice (some ⟨b, off, none⟩) xs.length c) ∧ w'.cell? ⟨b, off + k, none⟩ = some (.slice (some ⟨b1, o1, none⟩) xs[k].length ck) ∧ w'.cell? ⟨b, off + j, none⟩ = some (.slice Aj xs[j].length cj) ∧ w'.cell? ⟨b1, o1 + 2, none⟩ = some (.int .i64 ft))) (by kernel_rfl) hS (fun _ => ?_)
          refine tJ 0 hS ?_
          refine tJ 1 hS ?_
          refine tJ 2 hS ?_
          refine tJ 3 hS ?_
          refine tJ 4 hS ?_
          refine tJ 5 hS ?_
          refine rJ 6 fun K hK => ?_
          refine step_call 57 #[.tmp 18] _ rfl rfl #[.pointer (some ⟨b, off + k, none⟩)] Tryz.call57 (by go_simp) HC.out ?_
          rintro e w1 ⟨rfl, bb1⟩
          refine ⟨_, rfl, ?_⟩
          replace hS : (fun w' => w'.cell? ⟨g, f, none⟩ = some (.slice (some ⟨b, off, none⟩) xs.length c) ∧ w'.cell? ⟨b, off + k, none⟩ = some (.slice (some ⟨b1, o1, none⟩) xs[k].length ck) ∧ w'.cell? ⟨b, off + j, none⟩ = some (.slice Aj xs[j].length cj) ∧ w'.cell? ⟨b1, o1 + 2, none⟩ = some (.int .i64 ft)) w1 := ⟨keep_b (w2 := wr.drew) bb1 hgl hg, keep_b (w2 := wr.drew) bb1 hbb' h0, keep_b (w2 := wr.drew) bb1 hbb' h3, keep_b (w2 := wr.drew) bb1 hb1 h4⟩
          dsimp only at hS
          refine bJ hK hS ?_
          clear hK K
          simp only [Act.put, pA, pB, pC]
          refine tJ 7 hS ?_
          refine tJ 8 hS ?_
          refine tJ 9 hS ?_
          refine tJ 10 hS ?_
          refine tJ 11 hS ?_
          refine tJ 12 hS ?_
          refine tJ 13 hS ?_
          refine tJ 14 hS ?_
          refine tJ 15 hS ?_
          refine tJ 16 hS ?_
          refine tJ 17 hS ?_
          refine tJ 18 hS ?_
          refine tJ 19 hS ?_
          refine tJ 20 hS ?_
          refine tJ 21 hS ?_
          refine tJ 22 hS ?_
          refine tJ 23 hS ?_
          refine tJ 24 hS ?_
          refine tJ 25 hS ?_
          refine tJ 26 hS ?_
          refine tJ 27 hS ?_
          refine tJ 28 hS ?_
          refine tJ 29 hS ?_
          refine rJ 30 fun K hK => ?_
          refine step_call 58 #[.tmp 42] _ rfl rfl #[.pointer (some ⟨b, off + j, none⟩)] Tryz.call58 (by go_simp) (CL.out _ bb1 hS.2.2.1) ?_
          rintro e w2 ⟨rfl, n2, rfl⟩
          refine ⟨_, rfl, ?_⟩
          refine bJ hK hS ?_
          clear hK K
          simp only [Act.put, pA, pB, pC]
          refine tJ 31 hS ?_
          refine tJ 32 hS ?_
          refine tJ 33 hS ?_
          refine wpAnyH_done (by kernel_rfl) ?_ _
          go_wp2_with fail
          go_roundw
          case rel => exact ⟨k + 1, by omega, by go_num, HK, below_drewN (hb.drew.trans (bb1.mono hbs)) _⟩
          case measure => simp [intOf]; omega
  · obtain rfl : k = xs.length := by omega
    clear hr
    have HV : Hid (inkB xs = decide (xs.length ≤ 16)) := by show _ = _; rw [inkB, hok.out]; rfl
    go_wp2_with fail
    go_ret
    exact ⟨ret_boolI (by rw [HV.out, decide_eq_decide]; omega), hb⟩
end Go.Proofs.YtboijogahclekaaGreatDoor
