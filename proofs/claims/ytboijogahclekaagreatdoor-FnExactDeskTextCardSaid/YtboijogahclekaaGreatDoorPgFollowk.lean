/- Pages: are steps possible one after the other? Conditions: none. -/
import Derived.Test.YtboijogahclekaaGreatDoorPgApply2k
import Derived.Test.YtboijogahclekaaGreatDoorPgPossk
namespace Go.Proofs.YtboijogahclekaaGreatDoor
open Go Go.RowKit
theorem flipS_word (b : Bool) (s : PStep) : ((flipS b s).word = s.word ∧ (flipS b s).old = s.old) ∨ ((flipS b s).word = s.old ∧ (flipS b s).old = s.word) := by
 cases b
 · simp [flipS]
 · simp only [flipS, if_true, oppS]
   repeat' split
   all_goals simp
theorem flipS_ok (b : Bool) {s : PStep} (h : pStepOk s) : pStepOk (flipS b s) := by
 obtain ⟨h1, h2, h3, h4, h5⟩ := h
 cases b
 · exact ⟨h1, h2, h3, h4, h5⟩
 · simp only [flipS, if_true, oppS]
   repeat' split
   all_goals first | exact ⟨h1, h2, h3, h4, h5⟩ | exact ⟨h1, h2, h3, h5, h4⟩ | exact ⟨⟨by dsimp only; omega, by dsimp only; omega⟩, h2, h3, h4, h5⟩
def StepSmall (s : PStep) : Prop := s.word.size ≤ 1048576 ∧ s.old.size ≤ 1048576
theorem flipS_small (b : Bool) {s : PStep} (h : StepSmall s) : StepSmall (flipS b s) := by
 rcases flipS_word b s with ⟨h1, h2⟩ | ⟨h1, h2⟩
 · exact ⟨by rw [h1]; exact h.1, by rw [h2]; exact h.2⟩
 · exact ⟨by rw [h1]; exact h.2, by rw [h2]; exact h.1⟩
theorem follow_take {b : Bool} {cur : List PLine} {steps : List PStep} {j : Nat} (hj : j < steps.length) : followB b cur (steps.take (j + 1)).reverse = (canB cur (flipS b steps[j]) && followB b (stepL cur (flipS b steps[j])) (steps.take j).reverse) := by
 rw [List.take_succ_eq_append_getElem hj, List.reverse_append]; rfl
theorem word_max {s : PStep} (h : StepSmall s) : s.word.size ≤ maxLen := by have := h.1; unfold maxLen; omega
set_option maxRecDepth 100000 in
set_option maxHeartbeats 2000000 in
theorem impl_follow_c {o os : Bool} {e es : TypeId} {ls : List PLine} {steps : List PStep} {v vs : Value} {F G : List Nat} (K : FuncId) (b : Bool) (w : World) (hK : ∀ args w, (callFunc K args).run Tryz.prog w = .ok (.enter K args) w)
 (hf : ∀ (s : PStep) (w : World), Calls Tryz.prog K #[.agg #[.int .i64 s.kind, .int .i64 s.line, .int .i64 s.pos, .string s.word, .string s.old]] w fun e w' => e = .returned (.agg #[.int .i64 (flipS b s).kind, .int .i64 (flipS b s).line, .int .i64 (flipS b s).pos, .string (flipS b s).word, .string (flipS b s).old]) ∧ Below w.heap.size w w')
 (h : (pLines e).rep o w ls [v] F) (h' : (pSteps es).rep os w steps [vs] G) (hok : LinesOk ls) (hx : steps.length ≤ 30) (hsm : ∀ s ∈ steps, StepSmall s) :
 Calls Tryz.prog 81 #[v, vs, .func (.func K) #[] #[]] w fun e w' => e = .returned (.bool (followB b ls steps.reverse)) ∧ Below w.heap.size w w' := by
 have hokS := pSteps_ok h'
 obtain ⟨A, c, rfl, hc1, hc2, hr⟩ := pSteps_open h'
 have HF := Lib.hid hf
 clear hf h'
 go_enter Tryz.func81, Tryz.ntmps81
 go_wp2_with fail
 go_loopw [0, 7] (fun lv i wr => ∃ (z : Int) (m : Nat) (cur : List PLine) (u : Value) (H : List Nat) (e' : TypeId) (o' : Bool), Hid (z + 1 = (m : Int)) ∧ -1 ≤ z ∧ z < steps.length ∧ i = .int .i64 z ∧ u = lv ∧ (pLines e').rep o' wr cur [u] H ∧ LinesOk cur ∧ Hid (followB b ls steps.reverse = followB b cur (steps.take m).reverse) ∧ Below w.heap.size w wr) (fun _ i _ => (intOf i + 1).toNat)
 case atStart => exact ⟨(steps.length : Int) - 1, steps.length, ls, v, F, e, o, (by show _ = _; omega), by omega, by omega, rfl, rfl, h, hok, (by show _ = _; rw [List.take_length]), Below.refl _ _⟩
 case round =>
  obtain ⟨z, m, cur, u, H, e', o', hzm, hz0, hz1, rfl, rfl, hrep, hokc, hfl, hb⟩ := hrel
  have hbs := hb.size
  by_cases hneg : z < 0
  · have hm0 : m = 0 := by have := hzm.out; omega
    have hfin : followB b ls steps.reverse = true := by rw [hfl.out, hm0]; rfl
    have HFN := Lib.hid hfin
    have g1 : ¬ (0 ≤ z) := by omega
    clear hfin hr hm0
    go_wp2_with fail
    go_ret
    exact ⟨ret_boolF HFN.out.symm, hb⟩
  · obtain ⟨j, rfl⟩ := Int.eq_ofNat_of_zero_le (by omega : 0 ≤ z)
    have hj : j < steps.length := by omega
    have hmj : m = j + 1 := by have := hzm.out; omega
    obtain ⟨b', off', rfl, hbb, _, h0, h1, h2, h3, h4, _⟩ := hr j hj
    rw [← hb.cell (p := ⟨b', _, none⟩) hbb] at h0 h1 h2 h3 h4
    have hfl' := hfl.out
    rw [hmj, follow_take hj] at hfl'
    have hcok := flipS_ok b (hokS _ (List.getElem_mem hj))
    have hcsm := flipS_small b (hsm _ (List.getElem_mem hj))
    have HC := HF.out steps[j]
    generalize hss : flipS b steps[j] = ss at *
    have HREP := Lib.hid hrep
    have HCC := Lib.hid HC
    have hl20 := hokc.few
    have gz : (0 : Int) ≤ (j : Int) := by omega
    have gz1 : (j : Int) < (steps.length : Int) := by omega
    obtain ⟨AL, kL, rfl⟩ := slice_len hrep
    have CS := fun w' (q : (pLines e').rep o' w' cur [.slice AL cur.length kL] H) => impl_canStep_c ss w' q (by omega) hokc.words hcok hcsm.1
    cases hcan : canB cur ss
    · rw [hcan, Bool.false_and] at hfl'
      simp only [hcan] at CS
      have HCS := Lib.hid CS
      have HFN := Lib.hid hfl'
      clear CS hcan hfl' HC hrep hr hss hmj
      go_wp2_with fail
      refine (HCC.out _).mono ?_
      rintro e1 w1 ⟨rfl, b1⟩
      have b1s := b1.size
      go_wp2_with fail
      refine (HCS.out _ ((HREP.out.below b1).alloc _)).mono ?_
      rintro e2 w2 ⟨rfl, b2⟩
      go_wp2_with fail
      go_ret
      have x1 := hb.trans (b1.mono hbs)
      exact ⟨ret_boolF HFN.out.symm, (x1.alloc x1.size _).trans (b2.mono (by have := x1.size; simp; omega))⟩
    · rw [hcan, Bool.true_and] at hfl'
      simp only [hcan] at CS
      have hcan' := (can_iff _ _).1 hcan
      have SS := fun w' (q : (pLines e').rep o' w' cur [.slice AL cur.length kL] H) => impl_stepped_c ss w' q hokc hcan' (word_max hcsm)
      have hok2 := stepL_ok hokc hcan'
      have HCS := Lib.hid CS
      have HSS := Lib.hid SS
      have HFN := Lib.hid hfl'
      clear CS SS hcan hfl' HC hrep hr hss hmj
      go_wp2_with fail
      refine (HCC.out _).mono ?_
      rintro e1 w1 ⟨rfl, b1⟩
      have b1s := b1.size
      go_wp2_with fail
      refine (HCS.out _ ((HREP.out.below b1).alloc _)).mono ?_
      rintro e2 w2 ⟨rfl, b2⟩
      obtain ⟨hcc, hff⟩ := bcell b2
      have b2s := b2.size
      simp only [World.size_alloc] at b2s
      go_wp2_with fail
      refine (HSS.out _ (((HREP.out.below b1).alloc _).below b2)).mono ?_
      rintro e3 w3 ⟨u3, H3, rfl, r3, f3, b3⟩
      go_wp2_with fail
      go_roundw
      case rel =>
       have x1 := hb.trans (b1.mono hbs)
       have x2 := (x1.alloc x1.size _).trans (b2.mono (by have := x1.size; simp; omega))
       exact ⟨(j : Int) - 1, j, stepL cur ss, u3, H3, _, _, (by show _ = _; omega), by omega, by omega, by go_num, rfl, r3, hok2, HFN.out, bt x2 b3⟩
      case measure => simp [intOf]
theorem step_row {w : World} {g : Nat} {s t : PStep} (R : Row w g 161 (pStepCells s)) : Row (((((w.setCell ⟨g, 0, none⟩ (.int .i64 t.kind)).setCell ⟨g, 1, none⟩ (.int .i64 t.line)).setCell ⟨g, 2, none⟩ (.int .i64 t.pos)).setCell ⟨g, 3, none⟩ (.string t.word)).setCell ⟨g, 4, none⟩ (.string t.old)) g 161 (pStepCells t) :=
 ((((R.set 0 _).set 1 _).set 2 _).set 3 _).set 4 _
set_option maxRecDepth 100000 in
set_option maxHeartbeats 4000000 in
theorem spec_l27All_c {o os : Bool} {e es : TypeId} {ls : List PLine} {steps : List PStep} {v vs : Value} {F G : List Nat} (b : Bool) (w : World)
 (h : (pLines e).rep o w ls [v] F) (h' : (pSteps es).rep os w steps [vs] G) (hok : LinesOk ls) (hx : steps.length ≤ 30) (hsm : ∀ s ∈ steps, StepSmall s) :
 Calls Tryz.prog 61 #[v, vs, .bool b] w fun e w' => e = .returned (.bool (followB b ls steps.reverse)) ∧ Below w.heap.size w w' := by
 have hokS := pSteps_ok h'
 obtain ⟨A, c, rfl, hc1, hc2, hr⟩ := pSteps_open h'
 clear h'
 go_enter Tryz.func61, Tryz.ntmps61
 go_wp2_with fail
 go_loopw [0, 7] (fun lv i wr => ∃ (z : Int) (m : Nat) (cur : List PLine) (u : Value) (H : List Nat) (e' : TypeId) (o' : Bool), Hid (z + 1 = (m : Int)) ∧ -1 ≤ z ∧ z < steps.length ∧ i = .int .i64 z ∧ u = lv ∧ (pLines e').rep o' wr cur [u] H ∧ LinesOk cur ∧ Hid (followB b ls steps.reverse = followB b cur (steps.take m).reverse) ∧ Below w.heap.size w wr) (fun _ i _ => (intOf i + 1).toNat)
 case atStart => exact ⟨(steps.length : Int) - 1, steps.length, ls, v, F, e, o, (by show _ = _; omega), by omega, by omega, rfl, rfl, h, hok, (by show _ = _; rw [List.take_length]), Below.refl _ _⟩
 case round =>
  obtain ⟨z, m, cur, u, H, e', o', hzm, hz0, hz1, rfl, rfl, hrep, hokc, hfl, hb⟩ := hrel
  have hbs := hb.size
  by_cases hneg : z < 0
  · have hm0 : m = 0 := by have := hzm.out; omega
    have hfin : followB b ls steps.reverse = true := by rw [hfl.out, hm0]; rfl
    have HFN := Lib.hid hfin
    have g1 : ¬ (0 ≤ z) := by omega
    clear hfin hr hm0
    go_wp2_with fail
    go_ret
    exact ⟨ret_boolF HFN.out.symm, hb⟩
  · obtain ⟨j, rfl⟩ := Int.eq_ofNat_of_zero_le (by omega : 0 ≤ z)
    have hj : j < steps.length := by omega
    have hmj : m = j + 1 := by have := hzm.out; omega
    obtain ⟨b', off', rfl, hbb, _, h0, h1, h2, h3, h4, _⟩ := hr j hj
    rw [← hb.cell (p := ⟨b', _, none⟩) hbb] at h0 h1 h2 h3 h4
    have hfl' := hfl.out
    rw [hmj, follow_take hj] at hfl'
    have hcok := flipS_ok b (hokS _ (List.getElem_mem hj))
    have hcsm := flipS_small b (hsm _ (List.getElem_mem hj))
    have HREP := Lib.hid hrep
    have hl20 := hokc.few
    have gz : (0 : Int) ≤ (j : Int) := by omega
    have gz1 : (j : Int) < (steps.length : Int) := by omega
    obtain ⟨AL, kL, rfl⟩ := slice_len hrep
    have PP := fun w' g (q : (pLines e').rep o' w' cur [.slice AL cur.length kL] H) (R : Row w' g 161 (pStepCells (flipS b steps[j]))) => spec_l27Possible_c (flipS b steps[j]) w' q (by omega) hokc.words hcok hcsm.1 R
    cases b with
    | false =>
      rw [show flipS false steps[j] = steps[j] from rfl] at PP hfl' hcsm
      cases hcan : canB cur steps[j]
      · rw [hcan, Bool.false_and] at hfl'
        simp only [hcan] at PP
        have HPP := Lib.hid PP
        have HFN := Lib.hid hfl'
        clear PP hcan hfl' hrep hr hmj
        go_wp2_with fail
        refine (HPP.out _ _ (HREP.out.alloc _) (Row.new _ _ _)).mono ?_
        rintro e2 w2 ⟨rfl, b2⟩
        go_wp2_with fail
        go_ret
        exact ⟨ret_boolF HFN.out.symm, (hb.alloc hbs _).trans (b2.mono (by simp; omega))⟩
      · rw [hcan, Bool.true_and] at hfl'
        simp only [hcan] at PP
        have hcan' := (can_iff _ _).1 hcan
        have SS := fun w' g (q : (pLines e').rep o' w' cur [.slice AL cur.length kL] H) (R : Row w' g 161 (pStepCells steps[j])) => spec_l27Apply_c steps[j] w' q R hokc hcan' (word_max hcsm)
        have hok2 := stepL_ok hokc hcan'
        have HPP := Lib.hid PP
        have HSS := Lib.hid SS
        have HFN := Lib.hid hfl'
        clear PP SS hcan hfl' hrep hr hmj
        go_wp2_with fail
        refine (HPP.out _ _ (HREP.out.alloc _) (Row.new _ _ _)).mono ?_
        rintro e2 w2 ⟨rfl, b2⟩
        go_wp2_with fail
        refine (HSS.out _ _ ((HREP.out.alloc _).below b2) ((Row.new _ _ _).later b2)).mono ?_
        rintro e3 w3 ⟨u3, H3, rfl, r3, f3, b3⟩
        go_wp2_with fail
        go_roundw
        case rel =>
         have x2 := (hb.alloc hbs _).trans (b2.mono (by simp; omega))
         exact ⟨(j : Int) - 1, j, stepL cur steps[j], u3, H3, _, _, (by show _ = _; omega), by omega, by omega, by go_num, rfl, r3, hok2, HFN.out, bt x2 b3⟩
        case measure => simp [intOf]
    | true =>
      have HO := fun w => spec_l27Opposite_c steps[j] w
      have e9 : flipS true steps[j] = oppS steps[j] := rfl
      rw [e9] at PP hfl' hcsm
      clear e9
      generalize oppS steps[j] = ss at *
      have HOO := Lib.hid HO
      cases hcan : canB cur ss
      · rw [hcan, Bool.false_and] at hfl'
        simp only [hcan] at PP
        have HPP := Lib.hid PP
        have HFN := Lib.hid hfl'
        clear PP hcan hfl' hrep hr hmj HO
        go_wp2_with fail
        refine (HOO.out _).mono ?_
        rintro e1 w1 ⟨rfl, b1⟩
        have R0 := (Row.new wr 161 #[.int .i64 steps[j].kind, .int .i64 steps[j].line, .int .i64 steps[j].pos, .string steps[j].word, .string steps[j].old]).later b1
        obtain ⟨⟨x0, y0⟩, z0⟩ := R0.can (i := 0) (by simp)
        obtain ⟨⟨x1, y1⟩, z1⟩ := R0.can (i := 1) (by simp)
        obtain ⟨⟨x2, y2⟩, z2⟩ := R0.can (i := 2) (by simp)
        obtain ⟨⟨x3, y3⟩, z3⟩ := R0.can (i := 3) (by simp)
        obtain ⟨⟨x4, y4⟩, z4⟩ := R0.can (i := 4) (by simp)
        have hnb : wr.heap.size ∉ H := fun hin => by have := HREP.out.blocks _ hin; omega
        have q1 := ((((((HREP.out.alloc (.cells #[.int .i64 steps[j].kind, .int .i64 steps[j].line, .int .i64 steps[j].pos, .string steps[j].word, .string steps[j].old] 161)).below b1).setCell (p := ⟨wr.heap.size, 0, none⟩) hnb (.int .i64 ss.kind)).setCell (p := ⟨wr.heap.size, 1, none⟩) hnb (.int .i64 ss.line)).setCell (p := ⟨wr.heap.size, 2, none⟩) hnb (.int .i64 ss.pos)).setCell (p := ⟨wr.heap.size, 3, none⟩) hnb (.string ss.word)).setCell (p := ⟨wr.heap.size, 4, none⟩) hnb (.string ss.old)
        have RS := step_row (t := ss) R0
        have xb := (((((hb.alloc hbs (.cells #[.int .i64 steps[j].kind, .int .i64 steps[j].line, .int .i64 steps[j].pos, .string steps[j].word, .string steps[j].old] 161)).trans (b1.mono (by simp; omega))).setCell (p := ⟨wr.heap.size, 0, none⟩) hbs (.int .i64 ss.kind)).setCell (p := ⟨wr.heap.size, 1, none⟩) hbs (.int .i64 ss.line)).setCell (p := ⟨wr.heap.size, 2, none⟩) hbs (.int .i64 ss.pos)).setCell (p := ⟨wr.heap.size, 3, none⟩) hbs (.string ss.word) |>.setCell (p := ⟨wr.heap.size, 4, none⟩) hbs (.string ss.old)
        have Q1 := Lib.hid q1
        have RS' := Lib.hid RS
        have XB := Lib.hid xb
        clear q1 RS xb R0 hnb
        go_wp2_with fail
        refine (HPP.out _ _ Q1.out RS'.out).mono ?_
        rintro e2 w2 ⟨rfl, b2⟩
        go_wp2_with fail
        go_ret
        exact ⟨ret_boolF HFN.out.symm, XB.out.trans (b2.mono XB.out.size)⟩
      · rw [hcan, Bool.true_and] at hfl'
        simp only [hcan] at PP
        have hcan' := (can_iff _ _).1 hcan
        have SS := fun w' g (q : (pLines e').rep o' w' cur [.slice AL cur.length kL] H) (R : Row w' g 161 (pStepCells ss)) => spec_l27Apply_c ss w' q R hokc hcan' (word_max hcsm)
        have hok2 := stepL_ok hokc hcan'
        have HPP := Lib.hid PP
        have HSS := Lib.hid SS
        have HFN := Lib.hid hfl'
        clear PP SS hcan hfl' hrep hr hmj HO
        go_wp2_with fail
        refine (HOO.out _).mono ?_
        rintro e1 w1 ⟨rfl, b1⟩
        have R0 := (Row.new wr 161 #[.int .i64 steps[j].kind, .int .i64 steps[j].line, .int .i64 steps[j].pos, .string steps[j].word, .string steps[j].old]).later b1
        obtain ⟨⟨x0, y0⟩, z0⟩ := R0.can (i := 0) (by simp)
        obtain ⟨⟨x1, y1⟩, z1⟩ := R0.can (i := 1) (by simp)
        obtain ⟨⟨x2, y2⟩, z2⟩ := R0.can (i := 2) (by simp)
        obtain ⟨⟨x3, y3⟩, z3⟩ := R0.can (i := 3) (by simp)
        obtain ⟨⟨x4, y4⟩, z4⟩ := R0.can (i := 4) (by simp)
        have hnb : wr.heap.size ∉ H := fun hin => by have := HREP.out.blocks _ hin; omega
        have q1 := ((((((HREP.out.alloc (.cells #[.int .i64 steps[j].kind, .int .i64 steps[j].line, .int .i64 steps[j].pos, .string steps[j].word, .string steps[j].old] 161)).below b1).setCell (p := ⟨wr.heap.size, 0, none⟩) hnb (.int .i64 ss.kind)).setCell (p := ⟨wr.heap.size, 1, none⟩) hnb (.int .i64 ss.line)).setCell (p := ⟨wr.heap.size, 2, none⟩) hnb (.int .i64 ss.pos)).setCell (p := ⟨wr.heap.size, 3, none⟩) hnb (.string ss.word)).setCell (p := ⟨wr.heap.size, 4, none⟩) hnb (.string ss.old)
        have RS := step_row (t := ss) R0
        have xb := (((((hb.alloc hbs (.cells #[.int .i64 steps[j].kind, .int .i64 steps[j].line, .int .i64 steps[j].pos, .string steps[j].word, .string steps[j].old] 161)).trans (b1.mono (by simp; omega))).setCell (p := ⟨wr.heap.size, 0, none⟩) hbs (.int .i64 ss.kind)).setCell (p := ⟨wr.heap.size, 1, none⟩) hbs (.int .i64 ss.line)).setCell (p := ⟨wr.heap.size, 2, none⟩) hbs (.int .i64 ss.pos)).setCell (p := ⟨wr.heap.size, 3, none⟩) hbs (.string ss.word) |>.setCell (p := ⟨wr.heap.size, 4, none⟩) hbs (.string ss.old)
        have Q1 := Lib.hid q1
        have RS' := Lib.hid RS
        have XB := Lib.hid xb
        clear q1 RS xb R0 hnb
        go_wp2_with fail
        refine (HPP.out _ _ Q1.out RS'.out).mono ?_
        rintro e2 w2 ⟨rfl, b2⟩
        go_wp2_with fail
        refine (HSS.out _ _ (Q1.out.below b2) (RS'.out.later b2)).mono ?_
        rintro e3 w3 ⟨u3, H3, rfl, r3, f3, b3⟩
        go_wp2_with fail
        go_roundw
        case rel =>
         have x2 := XB.out.trans (b2.mono XB.out.size)
         exact ⟨(j : Int) - 1, j, stepL cur ss, u3, H3, _, _, (by show _ = _; omega), by omega, by omega, by go_num, rfl, r3, hok2, HFN.out, bt x2 b3⟩
        case measure => simp [intOf]
end Go.Proofs.YtboijogahclekaaGreatDoor
