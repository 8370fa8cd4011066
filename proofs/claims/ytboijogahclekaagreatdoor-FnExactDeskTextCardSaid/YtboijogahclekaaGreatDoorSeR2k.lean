/- The reference's own setups: models. Conditions: none. -/
import Derived.Test.YtboijogahclekaaGreatDoorTkk
import Derived.Test.YtboijogahclekaaGreatDoorSeRk
namespace Go.Proofs.YtboijogahclekaaGreatDoor
open Go Go.RowKit
theorem empty_is_nil (f : ByteArray) : f.toList.isEmpty = decide (f = .empty) := by
 have := str_eq f .empty
 rw [show ByteArray.empty.toList = [] from by simp, List.beq_nil_eq] at this
 exact this
set_option maxHeartbeats 400000 in
theorem spec_l18First_c (f : ByteArray) (hs : f.size ≤ 1048576) (w : World) :
 Calls Tryz.prog 167 #[.string f] w fun e w' => e = .returned (.bool (decide (f = .empty) || isWordB f)) ∧ w' = w := by
 have C := Lib.hid (spec_word_c f hs)
 have he := empty_is_nil f
 generalize decide (f = .empty) = d0 at he ⊢
 generalize isWordB f = d1 at C ⊢
 cases d0
 · go_enter Tryz.func167, Tryz.ntmps167
   go_wp2_with fail
   refine (C.out _).mono ?_
   rintro e w1 ⟨rfl, rfl⟩
   go_wp2_with fail
   go_ret
   exact ⟨rfl, rfl⟩
 · go_enter Tryz.func167, Tryz.ntmps167
   go_wp2_with fail
   go_ret
   exact ⟨rfl, rfl⟩
set_option maxHeartbeats 400000 in
theorem spec_l18Bigram_c (s : PBigram) (h1 : s.first.size ≤ 1048576) (h2 : s.second.size ≤ 1048576) {g f : Nat} (w : World) (c0 : w.cell? ⟨g, f, none⟩ = some (.string s.first)) (c1 : w.cell? ⟨g, f + 1, none⟩ = some (.string s.second)) (c2 : w.cell? ⟨g, f + 2, none⟩ = some (.int .i64 s.cost)) :
 Calls Tryz.prog 136 #[.pointer (some ⟨g, f, none⟩)] w fun e w' => e = .returned (.bool (bigB s)) ∧ w' = w := by
 have C1 := Lib.hid (spec_l18First_c s.first h1)
 have C2 := Lib.hid (spec_word_c s.second h2)
 have C3 := Lib.hid (spec_cost_c s.cost)
 have hb : bigB s = ((decide (s.first = .empty) || isWordB s.first) && (isWordB s.second && costB s.cost)) := by
  unfold bigB; cases isWordB s.second <;> cases (decide (s.first = .empty) || isWordB s.first) <;> rfl
 rw [hb]
 clear hb
 generalize (decide (s.first = .empty) || isWordB s.first) = d1 at C1 ⊢
 generalize isWordB s.second = d2 at C2 ⊢
 generalize costB s.cost = d3 at C3 ⊢
 cases d1
 · go_enter Tryz.func136, Tryz.ntmps136
   go_wp2_with fail
   refine (C1.out _).mono ?_
   rintro e w1 ⟨rfl, rfl⟩
   go_wp2_with fail
   go_ret
   exact ⟨rfl, rfl⟩
 · cases d2
   · go_enter Tryz.func136, Tryz.ntmps136
     go_wp2_with fail
     refine (C1.out _).mono ?_
     rintro e w1 ⟨rfl, rfl⟩
     go_wp2_with fail
     refine (C2.out _).mono ?_
     rintro e w1 ⟨rfl, rfl⟩
     go_wp2_with fail
     go_ret
     exact ⟨rfl, rfl⟩
   · go_enter Tryz.func136, Tryz.ntmps136
     go_wp2_with fail
     refine (C1.out _).mono ?_
     rintro e w1 ⟨rfl, rfl⟩
     go_wp2_with fail
     refine (C2.out _).mono ?_
     rintro e w1 ⟨rfl, rfl⟩
     go_wp2_with fail
     refine (C3.out _).mono ?_
     rintro e w1 ⟨rfl, rfl⟩
     go_wp2_with fail
     go_ret
     exact ⟨rfl, rfl⟩
set_option maxRecDepth 100000 in
set_option maxHeartbeats 1000000 in
theorem spec_l18Before_c (x y : PBigram) {g f g' f' : Nat} (w : World) (a0 : w.cell? ⟨g, f, none⟩ = some (.string x.first)) (a1 : w.cell? ⟨g, f + 1, none⟩ = some (.string x.second)) (b0 : w.cell? ⟨g', f', none⟩ = some (.string y.first)) (b1 : w.cell? ⟨g', f' + 1, none⟩ = some (.string y.second)) :
 Calls Tryz.prog 137 #[.pointer (some ⟨g, f, none⟩), .pointer (some ⟨g', f', none⟩)] w (GivesB (cLess (bigKey x) (bigKey y)) w) := by
 have hc : cLess (bigKey x) (bigKey y) = (bLess x.first y.first || (decide (x.first = y.first) && bLess x.second y.second)) := rfl
 have he := str_eq x.first y.first
 cases h1 : bLess x.first y.first
 · by_cases h2 : x.first = y.first
   · rw [decide_eq_true h2] at he
     cases h3 : bLess x.second y.second
     · have HF : Hid (cLess (bigKey x) (bigKey y) = false) := by show _ = _; rw [hc, h1, h3]; simp
       unfold bLess at h1 h3
       clear hc h2
       go_enter Tryz.func137, Tryz.ntmps137
       go_wp2_with fail
       have hS : (fun w' : World => w'.cell? ⟨g, f, none⟩ = some (.string x.first) ∧ w'.cell? ⟨g, f + 1, none⟩ = some (.string x.second) ∧ w'.cell? ⟨g', f', none⟩ = some (.string y.first) ∧ w'.cell? ⟨g', f' + 1, none⟩ = some (.string y.second)) w.drew := ⟨a0, a1, b0, b1⟩
       dsimp only at hS
       refine wp_region_held_drew (S := (fun w' : World => w'.cell? ⟨g, f, none⟩ = some (.string x.first) ∧ w'.cell? ⟨g, f + 1, none⟩ = some (.string x.second) ∧ w'.cell? ⟨g', f', none⟩ = some (.string y.first) ∧ w'.cell? ⟨g', f' + 1, none⟩ = some (.string y.second))) (by kernel_rfl) hS (fun _ => ?_)
       refine tJ 0 hS ?_
       refine tJ 1 hS ?_
       refine tJ 2 hS ?_
       refine tJ 3 hS ?_
       refine tJ 4 hS ?_
       refine tJ 5 hS ?_
       refine tJ 6 hS ?_
       refine tJ 7 hS ?_
       refine tJ 8 hS ?_
       refine tJ 9 hS ?_
       refine tJ 10 hS ?_
       refine tJ 11 hS ?_
       refine tJ 12 hS ?_
       refine tJ 13 hS ?_
       refine tJ 14 hS ?_
       refine tJ 15 hS ?_
       refine tJ 16 hS ?_
       refine tJ 17 hS ?_
       refine tJ 18 hS ?_
       refine tJ 19 hS ?_
       refine tJ 20 hS ?_
       refine tJ 21 hS ?_
       refine tJ 22 hS ?_
       refine tJ 23 hS ?_
       refine tJ 24 hS ?_
       refine tJ 25 hS ?_
       refine tJ 26 hS ?_
       refine tJ 27 hS ?_
       refine tJ 28 hS ?_
       refine tJ 29 hS ?_
       refine tJ 30 hS ?_
       refine tJ 31 hS ?_
       refine wpAnyH_done (by kernel_rfl) ?_ _
       go_wp2_with fail
       go_ret
       exact ⟨ret_boolI HF.out.symm, 1, rfl⟩
     · have HF : Hid (cLess (bigKey x) (bigKey y) = true) := by show _ = _; rw [hc, h1, h3, decide_eq_true h2]; rfl
       unfold bLess at h1 h3
       clear hc h2
       go_enter Tryz.func137, Tryz.ntmps137
       go_wp2_with fail
       have hS : (fun w' : World => w'.cell? ⟨g, f, none⟩ = some (.string x.first) ∧ w'.cell? ⟨g, f + 1, none⟩ = some (.string x.second) ∧ w'.cell? ⟨g', f', none⟩ = some (.string y.first) ∧ w'.cell? ⟨g', f' + 1, none⟩ = some (.string y.second)) w.drew := ⟨a0, a1, b0, b1⟩
       dsimp only at hS
       refine wp_region_held_drew (S := (fun w' : World => w'.cell? ⟨g, f, none⟩ = some (.string x.first) ∧ w'.cell? ⟨g, f + 1, none⟩ = some (.string x.second) ∧ w'.cell? ⟨g', f', none⟩ = some (.string y.first) ∧ w'.cell? ⟨g', f' + 1, none⟩ = some (.string y.second))) (by kernel_rfl) hS (fun _ => ?_)
       refine tJ 0 hS ?_
       refine tJ 1 hS ?_
       refine tJ 2 hS ?_
       refine tJ 3 hS ?_
       refine tJ 4 hS ?_
       refine tJ 5 hS ?_
       refine tJ 6 hS ?_
       refine tJ 7 hS ?_
       refine tJ 8 hS ?_
       refine tJ 9 hS ?_
       refine tJ 10 hS ?_
       refine tJ 11 hS ?_
       refine tJ 12 hS ?_
       refine tJ 13 hS ?_
       refine tJ 14 hS ?_
       refine tJ 15 hS ?_
       refine tJ 16 hS ?_
       refine tJ 17 hS ?_
       refine tJ 18 hS ?_
       refine tJ 19 hS ?_
       refine tJ 20 hS ?_
       refine tJ 21 hS ?_
       refine tJ 22 hS ?_
       refine tJ 23 hS ?_
       refine tJ 24 hS ?_
       refine tJ 25 hS ?_
       refine tJ 26 hS ?_
       refine tJ 27 hS ?_
       refine tJ 28 hS ?_
       refine tJ 29 hS ?_
       refine tJ 30 hS ?_
       refine tJ 31 hS ?_
       refine wpAnyH_done (by kernel_rfl) ?_ _
       go_wp2_with fail
       go_ret
       exact ⟨ret_boolI HF.out.symm, 1, rfl⟩
   · rw [decide_eq_false h2] at he
     have HF : Hid (cLess (bigKey x) (bigKey y) = false) := by show _ = _; rw [hc, h1, decide_eq_false h2]; rfl
     unfold bLess at h1
     clear hc h2
     go_enter Tryz.func137, Tryz.ntmps137
     go_wp2_with fail
     have hS : (fun w' : World => w'.cell? ⟨g, f, none⟩ = some (.string x.first) ∧ w'.cell? ⟨g, f + 1, none⟩ = some (.string x.second) ∧ w'.cell? ⟨g', f', none⟩ = some (.string y.first) ∧ w'.cell? ⟨g', f' + 1, none⟩ = some (.string y.second)) w.drew := ⟨a0, a1, b0, b1⟩
     dsimp only at hS
     refine wp_region_held_drew (S := (fun w' : World => w'.cell? ⟨g, f, none⟩ = some (.string x.first) ∧ w'.cell? ⟨g, f + 1, none⟩ = some (.string x.second) ∧ w'.cell? ⟨g', f', none⟩ = some (.string y.first) ∧ w'.cell? ⟨g', f' + 1, none⟩ = some (.string y.second))) (by kernel_rfl) hS (fun _ => ?_)
     refine tJ 0 hS ?_
     refine tJ 1 hS ?_
     refine tJ 2 hS ?_
     refine tJ 3 hS ?_
     refine tJ 4 hS ?_
     refine tJ 5 hS ?_
     refine tJ 6 hS ?_
     refine tJ 7 hS ?_
     refine tJ 8 hS ?_
     refine tJ 9 hS ?_
     refine tJ 10 hS ?_
     refine tJ 11 hS ?_
     refine tJ 12 hS ?_
     refine tJ 13 hS ?_
     refine tJ 14 hS ?_
     refine tJ 15 hS ?_
     refine tJ 16 hS ?_
     refine tJ 17 hS ?_
     refine tJ 18 hS ?_
     refine tJ 19 hS ?_
     refine tJ0 20 hS ?_
     refine tJ0 21 hS ?_
     refine tJ0 22 hS ?_
     refine tJ0 23 hS ?_
     refine tJ0 24 hS ?_
     refine tJ0 25 hS ?_
     refine tJ0 26 hS ?_
     refine tJ0 27 hS ?_
     refine tJ0 28 hS ?_
     refine tJ 29 hS ?_
     refine tJ 30 hS ?_
     refine tJ 31 hS ?_
     refine wpAnyH_done (by kernel_rfl) ?_ _
     go_wp2_with fail
     go_ret
     exact ⟨ret_boolI HF.out.symm, 1, rfl⟩
 · have HF : Hid (cLess (bigKey x) (bigKey y) = true) := by show _ = _; rw [hc, h1]; rfl
   unfold bLess at h1
   clear hc he
   go_enter Tryz.func137, Tryz.ntmps137
   go_wp2_with fail
   have hS : (fun w' : World => w'.cell? ⟨g, f, none⟩ = some (.string x.first) ∧ w'.cell? ⟨g, f + 1, none⟩ = some (.string x.second) ∧ w'.cell? ⟨g', f', none⟩ = some (.string y.first) ∧ w'.cell? ⟨g', f' + 1, none⟩ = some (.string y.second)) w.drew := ⟨a0, a1, b0, b1⟩
   dsimp only at hS
   refine wp_region_held_drew (S := (fun w' : World => w'.cell? ⟨g, f, none⟩ = some (.string x.first) ∧ w'.cell? ⟨g, f + 1, none⟩ = some (.string x.second) ∧ w'.cell? ⟨g', f', none⟩ = some (.string y.first) ∧ w'.cell? ⟨g', f' + 1, none⟩ = some (.string y.second))) (by kernel_rfl) hS (fun _ => ?_)
   refine tJ 0 hS ?_
   refine tJ 1 hS ?_
   refine tJ 2 hS ?_
   refine tJ 3 hS ?_
   refine tJ 4 hS ?_
   refine tJ 5 hS ?_
   refine tJ 6 hS ?_
   refine tJ 7 hS ?_
   refine tJ 8 hS ?_
   refine tJ 9 hS ?_
   refine tJ0 10 hS ?_
   refine tJ0 11 hS ?_
   refine tJ0 12 hS ?_
   refine tJ0 13 hS ?_
   refine tJ0 14 hS ?_
   refine tJ0 15 hS ?_
   refine tJ0 16 hS ?_
   refine tJ0 17 hS ?_
   refine tJ0 18 hS ?_
   refine tJ0 19 hS ?_
   refine tJ0 20 hS ?_
   refine tJ0 21 hS ?_
   refine tJ0 22 hS ?_
   refine tJ0 23 hS ?_
   refine tJ0 24 hS ?_
   refine tJ0 25 hS ?_
   refine tJ0 26 hS ?_
   refine tJ0 27 hS ?_
   refine tJ0 28 hS ?_
   refine tJ0 29 hS ?_
   refine tJ 30 hS ?_
   refine tJ 31 hS ?_
   refine wpAnyH_done (by kernel_rfl) ?_ _
   go_wp2_with fail
   go_ret
   exact ⟨ret_boolI HF.out.symm, 1, rfl⟩
set_option maxRecDepth 100000 in
set_option maxHeartbeats 4000000 in
theorem spec_l18Ok_c {o : Bool} {e : TypeId} {n : Int} {xs : List PBigram} {v : Value} {F : List Nat} {g f : Nat} (w : World) (c0 : w.cell? ⟨g, f, none⟩ = some (.int .i64 n)) (c1 : w.cell? ⟨g, f + 1, none⟩ = some v) (h : (pBigrams e).rep o w xs [v] F) (hx : xs.length ≤ 1048576) (hs : ∀ l ∈ xs, l.first.size ≤ 1048576 ∧ l.second.size ≤ 1048576) :
 Calls Tryz.prog 102 #[.pointer (some ⟨g, f, none⟩)] w (GivesB (modelB n xs) w) := by
 obtain ⟨A, c, rfl, hc1, hc2, hr⟩ := pBigrams_open h
 clear h
 go_enter Tryz.func102, Tryz.ntmps102
 go_wp2_with fail
 go_loopw [3] (fun i wr => ∃ k : Nat, k ≤ xs.length ∧ i = .int .i64 k ∧ Hid (bigsOk xs k = true) ∧ ∃ m, wr = w.drewN m) (fun i _ => xs.length - (intOf i).toNat)
 case atStart => exact ⟨0, Nat.zero_le _, rfl, rfl, 0, rfl⟩
 case round =>
  obtain ⟨k, hk, rfl, hok, m, rfl⟩ := hrel
  by_cases hlt : k < xs.length
  · obtain ⟨b, off, rfl, hbb, _, h0, h1, h2, _⟩ := hr k hlt
    have hsk := hs _ (List.getElem_mem hlt)
    have HW := Lib.hid (fun w' => spec_l18Bigram_c xs[k] hsk.1 hsk.2 (g := b) (f := off + k * 3) w')
    have he : bigOk xs k = (bigB xs[k] && (decide (k = 0) || cLess (bigKey (bigAt xs (k - 1))) (bigKey xs[k]))) := by rw [bigOk, bigAt_get hlt]
    have hs1 : bigsOk xs (k + 1) = (bigsOk xs k && bigOk xs k) := rfl
    clear hsk
    cases hw : bigB xs[k]
    · have HF := Lib.hid (modelB_false (n := n) hlt (by rw [he, hw]; rfl))
      simp only [hw] at HW
      clear hr hw he hs1
      go_wp2_with fail
      have hS : (fun w' : World => w'.cell? ⟨b, off + k * 3, none⟩ = some (.string xs[k].first) ∧ w'.cell? ⟨b, off + k * 3 + 1, none⟩ = some (.string xs[k].second) ∧ w'.cell? ⟨b, off + k * 3 + 2, none⟩ = some (.int .i64 xs[k].cost) ∧ w'.cell? ⟨g, f + 1, none⟩ = some (.slice (some ⟨b, off, none⟩) xs.length c)) (w.drewN m).drew := ⟨h0, h1, h2, c1⟩
      dsimp only at hS
      refine wp_region_held_drew (S := (fun w' : World => w'.cell? ⟨b, off + k * 3, none⟩ = some (.string xs[k].first) ∧ w'.cell? ⟨b, off + k * 3 + 1, none⟩ = some (.string xs[k].second) ∧ w'.cell? ⟨b, off + k * 3 + 2, none⟩ = some (.int .i64 xs[k].cost) ∧ w'.cell? ⟨g, f + 1, none⟩ = some (.slice (some ⟨b, off, none⟩) xs.length c))) (by kernel_rfl) hS (fun _ => ?_)
      refine tJ 0 hS ?_
      refine tJ 1 hS ?_
      refine tJ 2 hS ?_
      refine tJ 3 hS ?_
      refine tJ 4 hS ?_
      refine tJ 5 hS ?_
      refine rJ 6 fun K hK => ?_
      refine step_call 136 #[.tmp 18] _ rfl rfl #[.pointer (some ⟨b, off + k * 3, none⟩)] Tryz.call136 (by go_simp) (HW.out _ hS.1 hS.2.1 hS.2.2.1) ?_
      rintro e w1 ⟨rfl, rfl⟩
      refine ⟨_, rfl, ?_⟩
      refine bJ hK hS ?_
      clear hK K
      simp only [Act.put, pA, pB, pC]
      refine tJ 7 hS ?_
      refine tJ 8 hS ?_
      refine tJ0 9 hS ?_
      refine tJ0 10 hS ?_
      refine tJ0 11 hS ?_
      refine tJ0 12 hS ?_
      refine tJ0 13 hS ?_
      refine tJ0 14 hS ?_
      refine tJ0 15 hS ?_
      refine tJ0 16 hS ?_
      refine tJ0 17 hS ?_
      refine tJ0 18 hS ?_
      refine tJ0 19 hS ?_
      refine tJ0 20 hS ?_
      refine tJ0 21 hS ?_
      refine tJ0 22 hS ?_
      refine tJ0 23 hS ?_
      refine tJ0 24 hS ?_
      refine tJ0 25 hS ?_
      refine tJ0 26 hS ?_
      refine tJ0 27 hS ?_
      refine tJ 28 hS ?_
      refine wpAnyH_done (by kernel_rfl) ?_ _
      go_wp2_with fail
      go_ret
      exact ⟨ret_boolI HF.out.symm, _, by first | rfl | exact World.drewN_drewN _ _ _ | exact (show ((w.drewN m).drewN 1).drewN m2 = _ from (World.drewN_drewN _ _ _).trans (World.drewN_drewN _ _ _))⟩
    · simp only [hw] at HW
      by_cases hz : k = 0
      · have HK : Hid (bigsOk xs (k + 1) = true) := by show _ = _; rw [hs1, hok.out, he, hw]; simp [hz]
        have g0 : (0 < k) = False := eq_false (by omega)
        clear hr hz hw he hs1
        go_wp2_with fail
        have hS : (fun w' : World => w'.cell? ⟨b, off + k * 3, none⟩ = some (.string xs[k].first) ∧ w'.cell? ⟨b, off + k * 3 + 1, none⟩ = some (.string xs[k].second) ∧ w'.cell? ⟨b, off + k * 3 + 2, none⟩ = some (.int .i64 xs[k].cost) ∧ w'.cell? ⟨g, f + 1, none⟩ = some (.slice (some ⟨b, off, none⟩) xs.length c)) (w.drewN m).drew := ⟨h0, h1, h2, c1⟩
        dsimp only at hS
        refine wp_region_held_drew (S := (fun w' : World => w'.cell? ⟨b, off + k * 3, none⟩ = some (.string xs[k].first) ∧ w'.cell? ⟨b, off + k * 3 + 1, none⟩ = some (.string xs[k].second) ∧ w'.cell? ⟨b, off + k * 3 + 2, none⟩ = some (.int .i64 xs[k].cost) ∧ w'.cell? ⟨g, f + 1, none⟩ = some (.slice (some ⟨b, off, none⟩) xs.length c))) (by kernel_rfl) hS (fun _ => ?_)
        refine tJ 0 hS ?_
        refine tJ 1 hS ?_
        refine tJ 2 hS ?_
        refine tJ 3 hS ?_
        refine tJ 4 hS ?_
        refine tJ 5 hS ?_
        refine rJ 6 fun K hK => ?_
        refine step_call 136 #[.tmp 18] _ rfl rfl #[.pointer (some ⟨b, off + k * 3, none⟩)] Tryz.call136 (by go_simp) (HW.out _ hS.1 hS.2.1 hS.2.2.1) ?_
        rintro e w1 ⟨rfl, rfl⟩
        refine ⟨_, rfl, ?_⟩
        refine bJ hK hS ?_
        clear hK K
        simp only [Act.put, pA, pB, pC]
        refine tJ 7 hS ?_
        refine tJ 8 hS ?_
        refine tJ 9 hS ?_
        refine tJ 10 hS ?_
        refine tJ 11 hS ?_
        refine tJ0 12 hS ?_
        refine tJ0 13 hS ?_
        refine tJ0 14 hS ?_
        refine tJ0 15 hS ?_
        refine tJ0 16 hS ?_
        refine tJ0 17 hS ?_
        refine tJ0 18 hS ?_
        refine tJ0 19 hS ?_
        refine tJ0 20 hS ?_
        refine tJ0 21 hS ?_
        refine tJ0 22 hS ?_
        refine tJ0 23 hS ?_
        refine tJ0 24 hS ?_
        refine tJ0 25 hS ?_
        refine tJ0 26 hS ?_
        refine tJ 27 hS ?_
        refine tJ 28 hS ?_
        refine wpAnyH_done (by kernel_rfl) ?_ _
        go_wp2_with fail
        go_roundw
        case rel => exact ⟨k + 1, by omega, by go_num, HK, _, by first | rfl | exact World.drewN_drewN _ _ _ | exact (show ((w.drewN m).drewN 1).drewN m2 = _ from (World.drewN_drewN _ _ _).trans (World.drewN_drewN _ _ _))⟩
        case measure => simp [intOf]; omega
      · obtain ⟨j, hj⟩ : ∃ j, k = j + 1 := ⟨k - 1, by omega⟩
        have jl : j < xs.length := by omega
        obtain ⟨b', off', e', hbb', _, h3, h4, _⟩ := hr j jl
        injection e' with e'
        injection e' with e1 e2 _
        subst e1; subst e2
        have g0 : (0 < k) = True := eq_true (by omega)
        have gj : IntKind.i64.wrap ((k : Int) - 1) = (j : Int) := (IntWalk.i64_in _ (by omega)).trans (by omega)
        have jl' : (j : Int) < (xs.length : Int) := by omega
        have j0 : (0 : Int) ≤ (j : Int) := by omega
        have hen : bigAt xs (k - 1) = xs[j] := by subst hj; exact bigAt_get jl
        have dk : decide (k = 0) = false := decide_eq_false hz
        rw [hen, hw, dk] at he
        have HC := Lib.hid (fun w' => spec_l18Before_c xs[j] xs[k] (g := b) (f := off + j * 3) (g' := b) (f' := off + k * 3) w')
        clear hr
        cases hlw : cLess (bigKey xs[j]) (bigKey xs[k])
        · have HF := Lib.hid (modelB_false (n := n) hlt (by rw [he, hlw]; rfl))
          simp only [hlw] at HC
          have HJ := Lib.hid hj
          clear hj hz hw he hs1 hen dk hlw
          go_wp2_with fail
          have hS : (fun w' : World => w'.cell? ⟨b, off + k * 3, none⟩ = some (.string xs[k].first) ∧ w'.cell? ⟨b, off + k * 3 + 1, none⟩ = some (.string xs[k].second) ∧ w'.cell? ⟨b, off + k * 3 + 2, none⟩ = some (.int .i64 xs[k].cost) ∧ w'.cell? ⟨g, f + 1, none⟩ = some (.slice (some ⟨b, off, none⟩) xs.length c) ∧ w'.cell? ⟨b, off + j * 3, none⟩ = some (.string xs[j].first) ∧ w'.cell? ⟨b, off + j * 3 + 1, none⟩ = some (.string xs[j].second)) (w.drewN m).drew := ⟨h0, h1, h2, c1, h3, h4⟩
          dsimp only at hS
          refine wp_region_held_drew (S := (fun w' : World => w'.cell? ⟨b, off + k * 3, none⟩ = some (.string xs[k].first) ∧ w'.cell? ⟨b, off + k * 3 + 1, none⟩ = some (.string xs[k].second) ∧ w'.cell? ⟨b, off + k * 3 + 2, none⟩ = some (.int .i64 xs[k].cost) ∧ w'.cell? ⟨g, f + 1, none⟩ = some (.slice (some ⟨b, off, none⟩) xs.length c) ∧ w'.cell? ⟨b, off + j * 3, none⟩ = some (.string xs[j].first) ∧ w'.cell? ⟨b, off + j * 3 + 1, none⟩ = some (.string xs[j].second))) (by kernel_rfl) hS (fun _ => ?_)
          refine tJ 0 hS ?_
          refine tJ 1 hS ?_
          refine tJ 2 hS ?_
          refine tJ 3 hS ?_
          refine tJ 4 hS ?_
          refine tJ 5 hS ?_
          refine rJ 6 fun K hK => ?_
          refine step_call 136 #[.tmp 18] _ rfl rfl #[.pointer (some ⟨b, off + k * 3, none⟩)] Tryz.call136 (by go_simp) (HW.out _ hS.1 hS.2.1 hS.2.2.1) ?_
          rintro e w1 ⟨rfl, rfl⟩
          refine ⟨_, rfl, ?_⟩
          refine bJ hK hS ?_
          clear hK K
          simp only [Act.put, pA, pB, pC]
          refine tJ 7 hS ?_
          refine tJ 8 hS ?_
          refine tJ 9 hS ?_
          refine tJ 10 hS ?_
          refine tJ 11 hS ?_
          refine tJ 12 hS ?_
          refine tJ 13 hS ?_
          refine tJ 14 hS ?_
          refine tJ 15 hS ?_
          refine tJ 16 hS ?_
          refine tJ 17 hS ?_
          refine tJ 18 hS ?_
          refine tJ 19 hS ?_
          refine tJ 20 hS ?_
          refine tJ 21 hS ?_
          refine tJ 22 hS ?_
          refine tJ 23 hS ?_
          refine tJ 24 hS ?_
          refine rJ 25 fun K hK => ?_
          refine step_call 137 #[.tmp 31, .tmp 37] _ rfl rfl #[.pointer (some ⟨b, off + j * 3, none⟩), .pointer (some ⟨b, off + k * 3, none⟩)] Tryz.call137 (by go_simp) (HC.out _ hS.2.2.2.2.1 hS.2.2.2.2.2 hS.1 hS.2.1) ?_
          rintro e w1 ⟨rfl, m2, rfl⟩
          refine ⟨_, rfl, ?_⟩
          replace hS : (fun w' : World => w'.cell? ⟨b, off + k * 3, none⟩ = some (.string xs[k].first) ∧ w'.cell? ⟨b, off + k * 3 + 1, none⟩ = some (.string xs[k].second) ∧ w'.cell? ⟨b, off + k * 3 + 2, none⟩ = some (.int .i64 xs[k].cost) ∧ w'.cell? ⟨g, f + 1, none⟩ = some (.slice (some ⟨b, off, none⟩) xs.length c) ∧ w'.cell? ⟨b, off + j * 3, none⟩ = some (.string xs[j].first) ∧ w'.cell? ⟨b, off + j * 3 + 1, none⟩ = some (.string xs[j].second)) (((w.drewN m).drew).drewN m2) := hS
          dsimp only at hS
          refine bJ hK hS ?_
          clear hK K
          simp only [Act.put, pA, pB, pC]
          refine tJ 26 hS ?_
          refine tJ 27 hS ?_
          refine tJ 28 hS ?_
          refine wpAnyH_done (by kernel_rfl) ?_ _
          go_wp2_with fail
          go_ret
          exact ⟨ret_boolI HF.out.symm, _, by first | rfl | exact World.drewN_drewN _ _ _ | exact (show ((w.drewN m).drewN 1).drewN m2 = _ from (World.drewN_drewN _ _ _).trans (World.drewN_drewN _ _ _))⟩
        · have HK : Hid (bigsOk xs (k + 1) = true) := by show _ = _; rw [hs1, hok.out, he, hlw]; rfl
          simp only [hlw] at HC
          have HJ := Lib.hid hj
          clear hj hz hw he hs1 hen dk hlw
          go_wp2_with fail
          have hS : (fun w' : World => w'.cell? ⟨b, off + k * 3, none⟩ = some (.string xs[k].first) ∧ w'.cell? ⟨b, off + k * 3 + 1, none⟩ = some (.string xs[k].second) ∧ w'.cell? ⟨b, off + k * 3 + 2, none⟩ = some (.int .i64 xs[k].cost) ∧ w'.cell? ⟨g, f + 1, none⟩ = some (.slice (some ⟨b, off, none⟩) xs.length c) ∧ w'.cell? ⟨b, off + j * 3, none⟩ = some (.string xs[j].first) ∧ w'.cell? ⟨b, off + j * 3 + 1, none⟩ = some (.string xs[j].second)) (w.drewN m).drew := ⟨h0, h1, h2, c1, h3, h4⟩
          dsimp only at hS
          refine wp_region_held_drew (S := (fun w' : World => w'.cell? ⟨b, off + k * 3, none⟩ = some (.string xs[k].first) ∧ w'.cell? ⟨b, off + k * 3 + 1, none⟩ = some (.string xs[k].second) ∧ w'.cell? ⟨b, off + k * 3 + 2, none⟩ = some (.int .i64 xs[k].cost) ∧ w'.cell? ⟨g, f + 1, none⟩ = some (.slice (some ⟨b, off, none⟩) xs.length c) ∧ w'.cell? ⟨b, off + j * 3, none⟩ = some (.string xs[j].first) ∧ w'.cell? ⟨b, off + j * 3 + 1, none⟩ = some (.string xs[j].second))) (by kernel_rfl) hS (fun _ => ?_)
          refine tJ 0 hS ?_
          refine tJ 1 hS ?_
          refine tJ 2 hS ?_
          refine tJ 3 hS ?_
          refine tJ 4 hS ?_
          refine tJ 5 hS ?_
          refine rJ 6 fun K hK => ?_
          refine step_call 136 #[.tmp 18] _ rfl rfl #[.pointer (some ⟨b, off + k * 3, none⟩)] Tryz.call136 (by go_simp) (HW.out _ hS.1 hS.2.1 hS.2.2.1) ?_
          rintro e w1 ⟨rfl, rfl⟩
          refine ⟨_, rfl, ?_⟩
          refine bJ hK hS ?_
          clear hK K
          simp only [Act.put, pA, pB, pC]
          refine tJ 7 hS ?_
          refine tJ 8 hS ?_
          refine tJ 9 hS ?_
          refine tJ 10 hS ?_
          refine tJ 11 hS ?_
          refine tJ 12 hS ?_
          refine tJ 13 hS ?_
          refine tJ 14 hS ?_
          refine tJ 15 hS ?_
          refine tJ 16 hS ?_
          refine tJ 17 hS ?_
          refine tJ 18 hS ?_
          refine tJ 19 hS ?_
          refine tJ 20 hS ?_
          refine tJ 21 hS ?_
          refine tJ 22 hS ?_
          refine tJ 23 hS ?_
          refine tJ 24 hS ?_
          refine rJ 25 fun K hK => ?_
          refine step_call 137 #[.tmp 31, .tmp 37] _ rfl rfl #[.pointer (some ⟨b, off + j * 3, none⟩), .pointer (some ⟨b, off + k * 3, none⟩)] Tryz.call137 (by go_simp) (HC.out _ hS.2.2.2.2.1 hS.2.2.2.2.2 hS.1 hS.2.1) ?_
          rintro e w1 ⟨rfl, m2, rfl⟩
          refine ⟨_, rfl, ?_⟩
          replace hS : (fun w' : World => w'.cell? ⟨b, off + k * 3, none⟩ = some (.string xs[k].first) ∧ w'.cell? ⟨b, off + k * 3 + 1, none⟩ = some (.string xs[k].second) ∧ w'.cell? ⟨b, off + k * 3 + 2, none⟩ = some (.int .i64 xs[k].cost) ∧ w'.cell? ⟨g, f + 1, none⟩ = some (.slice (some ⟨b, off, none⟩) xs.length c) ∧ w'.cell? ⟨b, off + j * 3, none⟩ = some (.string xs[j].first) ∧ w'.cell? ⟨b, off + j * 3 + 1, none⟩ = some (.string xs[j].second)) (((w.drewN m).drew).drewN m2) := hS
          dsimp only at hS
          refine bJ hK hS ?_
          clear hK K
          simp only [Act.put, pA, pB, pC]
          refine tJ 26 hS ?_
          refine tJ 27 hS ?_
          refine tJ 28 hS ?_
          refine wpAnyH_done (by kernel_rfl) ?_ _
          go_wp2_with fail
          go_roundw
          case rel => exact ⟨k + 1, by omega, by go_num, HK, _, by first | rfl | exact World.drewN_drewN _ _ _ | exact (show ((w.drewN m).drewN 1).drewN m2 = _ from (World.drewN_drewN _ _ _).trans (World.drewN_drewN _ _ _))⟩
          case measure => simp [intOf]; omega
  · obtain rfl : k = xs.length := by omega
    have HQ := Lib.hid (spec_cost_c n)
    cases hq : costB n
    · have HF : Hid (modelB n xs = false) := by show _ = _; simp [modelB, hq]
      simp only [hq] at HQ
      clear hr hq
      go_wp2_with fail
      refine (HQ.out _).mono ?_
      rintro e w1 ⟨rfl, rfl⟩
      go_wp2_with fail
      go_ret
      exact ⟨ret_boolI HF.out.symm, _, rfl⟩
    · simp only [hq] at HQ
      by_cases h60 : xs.length ≤ 60
      · have g6 : ((xs.length : Int) ≤ 60) = True := eq_true (by omega)
        have HF : Hid (modelB n xs = true) := by show _ = _; simp [modelB, hok.out, h60, hq]
        clear h60 hr hq
        go_wp2_with fail
        refine (HQ.out _).mono ?_
        rintro e w1 ⟨rfl, rfl⟩
        go_wp2_with fail
        go_ret
        exact ⟨ret_boolI HF.out.symm, _, rfl⟩
      · have g6 : ((xs.length : Int) ≤ 60) = False := eq_false (by omega)
        have HF : Hid (modelB n xs = false) := by show _ = _; simp [modelB, h60]
        clear h60 hr hq
        go_wp2_with fail
        refine (HQ.out _).mono ?_
        rintro e w1 ⟨rfl, rfl⟩
        go_wp2_with fail
        go_ret
        exact ⟨ret_boolI HF.out.symm, _, rfl⟩
end Go.Proofs.YtboijogahclekaaGreatDoor
