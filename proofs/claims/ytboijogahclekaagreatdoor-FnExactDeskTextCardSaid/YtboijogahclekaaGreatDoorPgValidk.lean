/- Pages: is a page valid? Conditions: none. -/
import Derived.Test.YtboijogahclekaaGreatDoorPgFollowk
import Derived.Test.YtboijogahclekaaGreatDoorMarkk
import Derived.Test.YtboijogahclekaaGreatDoorTkk
namespace Go.Proofs.YtboijogahclekaaGreatDoor
open Go Go.RowKit
structure PBytes (p : PPage) : Prop where
 l : LineBytes p.lines
 d : ∀ s ∈ p.done, StepSmall s
 u : ∀ s ∈ p.undone, StepSmall s
set_option maxRecDepth 100000 in
set_option maxHeartbeats 4000000 in
theorem impl_ValidPage_c {el es : TypeId} {o : Bool} {p : PPage} {v : Value} {F : List Nat} (w : World) (h : PageIs el es o w p v F) (hp : PSmall p) (hq : PBytes p) :
 Calls Tryz.prog 36 #[v] w fun e w' => e = .returned (.bool (validB p)) ∧ Below w.heap.size w w' := by
 obtain ⟨a, b, c, F1, F2, F3, rfl, rfl, h1, h2, h3⟩ := h
 have CV := fun w' (q : (pLines el).rep o w' p.lines [a] F1) => impl_validLines_c w' q hp.l hp.w hq.l
 obtain ⟨A1, k1, rfl⟩ := slice_len h1
 obtain ⟨A2, k2, rfl⟩ := slice_len h2
 obtain ⟨A3, k3, rfl⟩ := slice_len h3
 have hd1 := hp.d
 have hd2 := hp.u
 have H1 := Lib.hid h1
 have H2 := Lib.hid h2
 have H3 := Lib.hid h3
 clear h1 h2 h3
 cases hv : linesOkB p.lines
 · simp only [hv] at CV
   have HC := Lib.hid CV
   have HF : Hid (validB p = false) := by show _ = _; simp [validB, hv]
   clear CV hv
   go_enter Tryz.func36, Tryz.ntmps36
   go_wp2_with fail
   refine (HC.out _ (H1.out.alloc _)).mono ?_
   rintro e w1 ⟨rfl, b1⟩
   go_wp2_with fail
   go_ret
   exact ⟨ret_boolF HF.out.symm, ((Below.refl _ _).alloc (Nat.le_refl _) _).trans (b1.mono (by simp))⟩
 · have hok := (linesOk_iff _).1 hv
   have HV := Lib.hid hv
   simp only [hv] at CV
   have HC := Lib.hid CV
   clear CV hv
   by_cases hd : p.done.length ≤ 30
   · by_cases hu : p.undone.length ≤ 30
     · have g1 : ¬ ((30 : Int) < (p.done.length : Int)) := by omega
       have g2 : ¬ ((30 : Int) < (p.undone.length : Int)) := by omega
       have CT := fun w' (q : (pLines el).rep o w' p.lines [.slice A1 p.lines.length k1] F1) (q' : (pSteps es).rep o w' p.done [.slice A2 p.done.length k2] F2) => impl_follow_c 82 true w' Tryz.call82 (fun s w => impl_opposite_c s w) q q' hok hd hq.d
       have CF := fun w' (q : (pLines el).rep o w' p.lines [.slice A1 p.lines.length k1] F1) (q' : (pSteps es).rep o w' p.undone [.slice A3 p.undone.length k3] F3) => impl_follow_c 83 false w' Tryz.call83 (fun s w => impl_ValidPage1_c s w) q q' hok hu hq.u
       have hval : validB p = (followB true p.lines p.done.reverse && followB false p.lines p.undone.reverse) := by simp [validB, HV.out, hd, hu]
       have HVAL := Lib.hid hval
       have HCF := Lib.hid CF
       clear hval CF
       cases ht : followB true p.lines p.done.reverse
       · have HF : Hid (validB p = false) := by show _ = _; rw [HVAL.out, ht]; rfl
         simp only [ht] at CT
         have HCT := Lib.hid CT
         clear CT ht
         go_enter Tryz.func36, Tryz.ntmps36
         go_wp2_with fail
         refine (HC.out _ (H1.out.alloc _)).mono ?_
         rintro e w1 ⟨rfl, b1⟩
         obtain ⟨hcc, hff⟩ := bcell b1
         have b1s := b1.size
         simp only [World.size_alloc] at b1s
         go_wp2_with fail
         refine (HCT.out _ ((H1.out.alloc _).below b1) ((H2.out.alloc _).below b1)).mono ?_
         rintro e w2 ⟨rfl, b2⟩
         go_wp2_with fail
         go_ret
         exact ⟨ret_boolF HF.out.symm, bt (((Below.refl _ _).alloc (Nat.le_refl _) _).trans (b1.mono (by simp))) b2⟩
       · have HF : Hid (validB p = followB false p.lines p.undone.reverse) := by show _ = _; rw [HVAL.out, ht]; rfl
         simp only [ht] at CT
         have HCT := Lib.hid CT
         clear CT ht
         go_enter Tryz.func36, Tryz.ntmps36
         go_wp2_with fail
         refine (HC.out _ (H1.out.alloc _)).mono ?_
         rintro e w1 ⟨rfl, b1⟩
         obtain ⟨hcc, hff⟩ := bcell b1
         have b1s := b1.size
         simp only [World.size_alloc] at b1s
         go_wp2_with fail
         refine (HCT.out _ ((H1.out.alloc _).below b1) ((H2.out.alloc _).below b1)).mono ?_
         rintro e w2 ⟨rfl, b2⟩
         clear hcc hff
         have b2s := b2.size
         obtain ⟨hcc, hff⟩ := bcell (bt b1 b2)
         go_wp2_with fail
         refine (HCF.out _ (((H1.out.alloc _).below b1).below b2) (((H3.out.alloc _).below b1).below b2)).mono ?_
         rintro e w3 ⟨rfl, b3⟩
         go_wp2_with fail
         go_ret
         exact ⟨ret_boolF HF.out.symm, bt (bt (((Below.refl _ _).alloc (Nat.le_refl _) _).trans (b1.mono (by simp))) b2) b3⟩
     · have g1 : ¬ ((30 : Int) < (p.done.length : Int)) := by omega
       have g2 : (30 : Int) < (p.undone.length : Int) := by omega
       have HF : Hid (validB p = false) := by show _ = _; simp [validB, hu]
       go_enter Tryz.func36, Tryz.ntmps36
       go_wp2_with fail
       refine (HC.out _ (H1.out.alloc _)).mono ?_
       rintro e w1 ⟨rfl, b1⟩
       obtain ⟨hcc, hff⟩ := bcell b1
       go_wp2_with fail
       go_ret
       exact ⟨ret_boolF HF.out.symm, ((Below.refl _ _).alloc (Nat.le_refl _) _).trans (b1.mono (by simp))⟩
   · have g1 : (30 : Int) < (p.done.length : Int) := by omega
     have HF : Hid (validB p = false) := by show _ = _; simp [validB, hd]
     go_enter Tryz.func36, Tryz.ntmps36
     go_wp2_with fail
     refine (HC.out _ (H1.out.alloc _)).mono ?_
     rintro e w1 ⟨rfl, b1⟩
     obtain ⟨hcc, hff⟩ := bcell b1
     go_wp2_with fail
     go_ret
     exact ⟨ret_boolF HF.out.symm, ((Below.refl _ _).alloc (Nat.le_refl _) _).trans (b1.mono (by simp))⟩
theorem step_call {P : Program} {ops : Array Oper} {o : Oper} {a : Act} {w : World} {K : Act → World → Prop} {Q : Exit → Act → World → Prop} {E : Prop} {R : Ending → World → Prop}
 (f : FuncId) (xs : Array Operand) (ts : Array TypeId) (ho : o.op = .call { callee := .value (.func f), args := xs, argTypes := ts })
 (hw : Region.wanted o (yielded ops a.tmps) = true) (av : Array Value) (hcall : ∀ args w, (callFunc f args).run P w = .ok (.enter f args) w) (hx : xs.map a.eval = av)
 (hC : Calls P f av w R) (hK : ∀ e w', R e w' → ∃ v, e = .returned v ∧ K (a.put o.dst v) w') :
 if Region.wanted o (yielded ops a.tmps) = true then Oper.wp P o a w K Q else E := by
 rw [if_pos hw]
 unfold Oper.wp execOp
 simp only [ho, resolve, invoke, Sem.run_bind]
 have he : a.eval (.func f) = .func (.func f) #[] #[] := rfl
 rw [he, hx]
 simp only [Deferred.ofValue, Sem.run_pure, Result.andThen_ok, Array.append_empty, hcall]
 rw [Oper.upon_enter, Array.empty_append]
 refine hC.mono fun e w' hr => ?_
 obtain ⟨v, rfl, hk⟩ := hK e w' hr
 exact hk
set_option maxRecDepth 100000 in
set_option maxHeartbeats 1000000 in
theorem spec_l27OkF_c {el es : TypeId} {o : Bool} {p : PPage} {a b c : Value} {F1 F2 F3 : List Nat} {g f : Nat} (w : World) (gl : g < w.heap.size) (y0 : w.cell? ⟨g, f, none⟩ = some a) (y1 : w.cell? ⟨g, f + 1, none⟩ = some b) (y2 : w.cell? ⟨g, f + 2, none⟩ = some c) (h1 : (pLines el).rep o w p.lines [a] F1) (h2 : (pSteps es).rep o w p.done [b] F2) (h3 : (pSteps es).rep o w p.undone [c] F3) (hp : PSmall p) (hq : PBytes p) :
 Calls Tryz.prog 27 #[.pointer (some ⟨g, f, none⟩)] w fun e w' => e = .returned (.bool (validB p)) ∧ Below w.heap.size w w' := by
 have CV := fun w' (q : (pLines el).rep o w' p.lines [a] F1) => spec_l27Lines_c w' q hp.l hp.w hq.l
 obtain ⟨A1, k1, rfl⟩ := slice_len h1
 obtain ⟨A2, k2, rfl⟩ := slice_len h2
 obtain ⟨A3, k3, rfl⟩ := slice_len h3
 have hd1 := hp.d
 have hd2 := hp.u
 have H1 := Lib.hid h1
 have H2 := Lib.hid h2
 have H3 := Lib.hid h3
 clear h1 h2 h3
 cases hv : linesOkB p.lines
 · simp only [hv] at CV
   have HC := Lib.hid CV
   have HF : Hid (validB p = false) := by show _ = _; simp [validB, hv]
   clear CV hv
   go_enter Tryz.func27, Tryz.ntmps27
   go_wp2_with fail
   go_quiet ((go_at_call 60; exact Calls.quiet_of_same ((HC.out _ (by first | exact H1.out | exact H1.out.drew | exact H1.out.drewN _)).mono fun _ _ k => ⟨k.1, k.2.symm⟩)))
   go_wp2_with fail
   go_ret
   exact ⟨ret_boolF HF.out.symm, below_drewN (Below.refl _ _) _⟩
 · have hok := (linesOk_iff _).1 hv
   have HV := Lib.hid hv
   simp only [hv] at CV
   have HC := Lib.hid CV
   clear CV hv
   by_cases hd : p.done.length ≤ 30
   · by_cases hu : p.undone.length ≤ 30
     · have g1d : decide ((p.done.length : Int) ≤ 30) = true := decide_eq_true (by omega)
       have g2d : decide ((p.undone.length : Int) ≤ 30) = true := decide_eq_true (by omega)
       have g1 : (p.done.length : Int) ≤ 30 := by omega
       have g2 : (p.undone.length : Int) ≤ 30 := by omega
       have CT := fun w' (q : (pLines el).rep o w' p.lines [.slice A1 p.lines.length k1] F1) (q' : (pSteps es).rep o w' p.done [.slice A2 p.done.length k2] F2) => spec_l27All_c true w' q q' hok hd hq.d
       have CF := fun w' (q : (pLines el).rep o w' p.lines [.slice A1 p.lines.length k1] F1) (q' : (pSteps es).rep o w' p.undone [.slice A3 p.undone.length k3] F3) => spec_l27All_c false w' q q' hok hu hq.u
       have hval : validB p = (followB true p.lines p.done.reverse && followB false p.lines p.undone.reverse) := by simp [validB, HV.out, hd, hu]
       have HVAL := Lib.hid hval
       have HCF := Lib.hid CF
       clear hval CF
       cases ht : followB true p.lines p.done.reverse
       · have HF : Hid (validB p = false) := by show _ = _; rw [HVAL.out, ht]; rfl
         simp only [ht] at CT
         have HCT := Lib.hid CT
         clear CT ht
         go_enter Tryz.func27, Tryz.ntmps27
         go_wp2_with fail
         have hS : (fun w' => w'.cell? ⟨g, f, none⟩ = some (.slice A1 p.lines.length k1) ∧ w'.cell? ⟨g, f + 1, none⟩ = some (.slice A2 p.done.length k2) ∧ w'.cell? ⟨g, f + 2, none⟩ = some (.slice A3 p.undone.length k3)) w.drew := ⟨y0, y1, y2⟩
         dsimp only at hS
         refine wp_region_held_drew (S := (fun w' => w'.cell? ⟨g, f, none⟩ = some (.slice A1 p.lines.length k1) ∧ w'.cell? ⟨g, f + 1, none⟩ = some (.slice A2 p.done.length k2) ∧ w'.cell? ⟨g, f + 2, none⟩ = some (.slice A3 p.undone.length k3))) (by kernel_rfl) hS (fun _ => ?_)
         refine tJ 0 hS ?_
         refine tJ 1 hS ?_
         refine tJ 2 hS ?_
         refine tJ 3 hS ?_
         refine rJ 4 fun K hK => ?_
         refine step_call 60 #[.tmp 6] _ rfl rfl #[.slice A1 p.lines.length k1] Tryz.call60 (by simp [Act.eval]) (HC.out _ H1.out.drew) ?_
         rintro e w1 ⟨rfl, rfl⟩
         refine ⟨_, rfl, ?_⟩
         refine bJ hK hS ?_
         clear hK K
         simp only [Act.put, pA, pB, pC]
         refine tJ 5 hS ?_
         refine tJ 6 hS ?_
         refine tJ 7 hS ?_
         refine tJ 8 hS ?_
         refine tJ 9 hS ?_
         refine tJ 10 hS ?_
         refine tJ 11 hS ?_
         refine tJ 12 hS ?_
         refine tJ 13 hS ?_
         refine tJ 14 hS ?_
         refine tJ 15 hS ?_
         refine tJ 16 hS ?_
         refine tJ 17 hS ?_
         refine tJ 18 hS ?_
         refine tJ 19 hS ?_
         refine tJ 20 hS ?_
         refine tJ 21 hS ?_
         refine tJ 22 hS ?_
         refine tJ 23 hS ?_
         refine tJ 24 hS ?_
         refine tJ 25 hS ?_
         refine tJ 26 hS ?_
         refine tJ 27 hS ?_
         refine tJ 28 hS ?_
         refine tJ 29 hS ?_
         refine rJ 30 fun K hK => ?_
         refine step_call 61 #[.tmp 28, .tmp 32, .const (.bool true)] _ rfl rfl #[.slice A1 p.lines.length k1, .slice A2 p.done.length k2, .bool true] Tryz.call61 (by simp [Act.eval]) (HCT.out _ H1.out.drew H2.out.drew) ?_
         rintro e w1 ⟨rfl, b1⟩
         refine ⟨_, rfl, ?_⟩
         obtain ⟨hcc, hff⟩ := bcell b1
         replace hS : w1.cell? ⟨g, f, none⟩ = some (.slice A1 p.lines.length k1) ∧ w1.cell? ⟨g, f + 1, none⟩ = some (.slice A2 p.done.length k2) ∧ w1.cell? ⟨g, f + 2, none⟩ = some (.slice A3 p.undone.length k3) := ⟨(hcc _ _ gl).trans y0, (hcc _ _ gl).trans y1, (hcc _ _ gl).trans y2⟩
         refine bJ hK hS ?_
         clear hK K
         simp only [Act.put, pA, pB, pC]
         refine tJ 31 hS ?_
         refine tJ 32 hS ?_
         refine tJ0 33 hS ?_
         refine tJ0 34 hS ?_
         refine tJ0 35 hS ?_
         refine tJ0 36 hS ?_
         refine tJ0 37 hS ?_
         refine tJ0 38 hS ?_
         refine tJ0 39 hS ?_
         refine tJ0 40 hS ?_
         refine tJ0 41 hS ?_
         refine tJ 42 hS ?_
         refine tJ 43 hS ?_
         refine wpAnyH_done (by kernel_rfl) ?_ _
         go_wp2_with fail
         go_ret
         exact ⟨ret_boolF HF.out.symm, ((Below.refl _ _).drew).trans (b1.mono (by simp))⟩
       · have HF : Hid (validB p = followB false p.lines p.undone.reverse) := by show _ = _; rw [HVAL.out, ht]; rfl
         simp only [ht] at CT
         have HCT := Lib.hid CT
         clear CT ht
         go_enter Tryz.func27, Tryz.ntmps27
         go_wp2_with fail
         have hS : (fun w' => w'.cell? ⟨g, f, none⟩ = some (.slice A1 p.lines.length k1) ∧ w'.cell? ⟨g, f + 1, none⟩ = some (.slice A2 p.done.length k2) ∧ w'.cell? ⟨g, f + 2, none⟩ = some (.slice A3 p.undone.length k3)) w.drew := ⟨y0, y1, y2⟩
         dsimp only at hS
         refine wp_region_held_drew (S := (fun w' => w'.cell? ⟨g, f, none⟩ = some (.slice A1 p.lines.length k1) ∧ w'.cell? ⟨g, f + 1, none⟩ = some (.slice A2 p.done.length k2) ∧ w'.cell? ⟨g, f + 2, none⟩ = some (.slice A3 p.undone.length k3))) (by kernel_rfl) hS (fun _ => ?_)
         refine tJ 0 hS ?_
         refine tJ 1 hS ?_
         refine tJ 2 hS ?_
         refine tJ 3 hS ?_
         refine rJ 4 fun K hK => ?_
         refine step_call 60 #[.tmp 6] _ rfl rfl #[.slice A1 p.lines.length k1] Tryz.call60 (by simp [Act.eval]) (HC.out _ H1.out.drew) ?_
         rintro e w1 ⟨rfl, rfl⟩
         refine ⟨_, rfl, ?_⟩
         refine bJ hK hS ?_
         clear hK K
         simp only [Act.put, pA, pB, pC]
         refine tJ 5 hS ?_
         refine tJ 6 hS ?_
         refine tJ 7 hS ?_
         refine tJ 8 hS ?_
         refine tJ 9 hS ?_
         refine tJ 10 hS ?_
         refine tJ 11 hS ?_
         refine tJ 12 hS ?_
         refine tJ 13 hS ?_
         refine tJ 14 hS ?_
         refine tJ 15 hS ?_
         refine tJ 16 hS ?_
         refine tJ 17 hS ?_
         refine tJ 18 hS ?_
         refine tJ 19 hS ?_
         refine tJ 20 hS ?_
         refine tJ 21 hS ?_
         refine tJ 22 hS ?_
         refine tJ 23 hS ?_
         refine tJ 24 hS ?_
         refine tJ 25 hS ?_
         refine tJ 26 hS ?_
         refine tJ 27 hS ?_
         refine tJ 28 hS ?_
         refine tJ 29 hS ?_
         refine rJ 30 fun K hK => ?_
         refine step_call 61 #[.tmp 28, .tmp 32, .const (.bool true)] _ rfl rfl #[.slice A1 p.lines.length k1, .slice A2 p.done.length k2, .bool true] Tryz.call61 (by simp [Act.eval]) (HCT.out _ H1.out.drew H2.out.drew) ?_
         rintro e w1 ⟨rfl, b1⟩
         refine ⟨_, rfl, ?_⟩
         obtain ⟨hcc, hff⟩ := bcell b1
         replace hS : w1.cell? ⟨g, f, none⟩ = some (.slice A1 p.lines.length k1) ∧ w1.cell? ⟨g, f + 1, none⟩ = some (.slice A2 p.done.length k2) ∧ w1.cell? ⟨g, f + 2, none⟩ = some (.slice A3 p.undone.length k3) := ⟨(hcc _ _ gl).trans y0, (hcc _ _ gl).trans y1, (hcc _ _ gl).trans y2⟩
         refine bJ hK hS ?_
         clear hK K
         simp only [Act.put, pA, pB, pC]
         refine tJ 31 hS ?_
         refine tJ 32 hS ?_
         refine tJ 33 hS ?_
         refine tJ 34 hS ?_
         refine tJ 35 hS ?_
         refine tJ 36 hS ?_
         refine tJ 37 hS ?_
         refine tJ 38 hS ?_
         refine tJ 39 hS ?_
         refine tJ 40 hS ?_
         refine rJ 41 fun K hK => ?_
         refine step_call 61 #[.tmp 39, .tmp 43, .const (.bool false)] _ rfl rfl #[.slice A1 p.lines.length k1, .slice A3 p.undone.length k3, .bool false] Tryz.call61 (by simp [Act.eval]) (HCF.out _ (H1.out.drew.below b1) (H3.out.drew.below b1)) ?_
         rintro e w2 ⟨rfl, b2⟩
         refine ⟨_, rfl, ?_⟩
         obtain ⟨hcc2, hff2⟩ := bcell b2
         replace hS : w2.cell? ⟨g, f, none⟩ = some (.slice A1 p.lines.length k1) ∧ w2.cell? ⟨g, f + 1, none⟩ = some (.slice A2 p.done.length k2) ∧ w2.cell? ⟨g, f + 2, none⟩ = some (.slice A3 p.undone.length k3) := ⟨(hcc2 _ _ (Nat.lt_of_lt_of_le gl b1.size)).trans hS.1, (hcc2 _ _ (Nat.lt_of_lt_of_le gl b1.size)).trans hS.2.1, (hcc2 _ _ (Nat.lt_of_lt_of_le gl b1.size)).trans hS.2.2⟩
         refine bJ hK hS ?_
         clear hK K
         simp only [Act.put, pA, pB, pC]
         refine tJ 42 hS ?_
         refine tJ 43 hS ?_
         refine wpAnyH_done (by kernel_rfl) ?_ _
         go_wp2_with fail
         go_ret
         exact ⟨ret_boolF HF.out.symm, bt (((Below.refl _ _).drew).trans (b1.mono (by simp))) b2⟩
     · have g1 : (p.done.length : Int) ≤ 30 := by omega
       have g2 : ((p.undone.length : Int) ≤ 30) = False := eq_false (by omega)
       have HF : Hid (validB p = false) := by show _ = _; simp [validB, hu]
       go_enter Tryz.func27, Tryz.ntmps27
       go_wp2_with fail
       have hS : (fun w' => w'.cell? ⟨g, f, none⟩ = some (.slice A1 p.lines.length k1) ∧ w'.cell? ⟨g, f + 1, none⟩ = some (.slice A2 p.done.length k2) ∧ w'.cell? ⟨g, f + 2, none⟩ = some (.slice A3 p.undone.length k3)) w.drew := ⟨y0, y1, y2⟩
       dsimp only at hS
       refine wp_region_held_drew (S := (fun w' => w'.cell? ⟨g, f, none⟩ = some (.slice A1 p.lines.length k1) ∧ w'.cell? ⟨g, f + 1, none⟩ = some (.slice A2 p.done.length k2) ∧ w'.cell? ⟨g, f + 2, none⟩ = some (.slice A3 p.undone.length k3))) (by kernel_rfl) hS (fun _ => ?_)
       refine tJ 0 hS ?_
       refine tJ 1 hS ?_
       refine tJ 2 hS ?_
       refine tJ 3 hS ?_
       refine rJ 4 fun K hK => ?_
       refine step_call 60 #[.tmp 6] _ rfl rfl #[.slice A1 p.lines.length k1] Tryz.call60 (by simp [Act.eval]) (HC.out _ H1.out.drew) ?_
       rintro e w1 ⟨rfl, rfl⟩
       refine ⟨_, rfl, ?_⟩
       refine bJ hK hS ?_
       clear hK K
       simp only [Act.put, pA, pB, pC]
       refine tJ 5 hS ?_
       refine tJ 6 hS ?_
       refine tJ 7 hS ?_
       refine tJ 8 hS ?_
       refine tJ 9 hS ?_
       refine tJ 10 hS ?_
       refine tJ 11 hS ?_
       refine tJ 12 hS ?_
       refine tJ 13 hS ?_
       refine tJ 14 hS ?_
       refine tJ 15 hS ?_
       refine tJ 16 hS ?_
       refine tJ 17 hS ?_
       refine tJ 18 hS ?_
       refine tJ 19 hS ?_
       refine tJ 20 hS ?_
       refine tJ 21 hS ?_
       refine tJ0 22 hS ?_
       refine tJ0 23 hS ?_
       refine tJ0 24 hS ?_
       refine tJ0 25 hS ?_
       refine tJ0 26 hS ?_
       refine tJ0 27 hS ?_
       refine tJ0 28 hS ?_
       refine tJ0 29 hS ?_
       refine tJ0 30 hS ?_
       refine tJ 31 hS ?_
       refine tJ 32 hS ?_
       refine tJ0 33 hS ?_
       refine tJ0 34 hS ?_
       refine tJ0 35 hS ?_
       refine tJ0 36 hS ?_
       refine tJ0 37 hS ?_
       refine tJ0 38 hS ?_
       refine tJ0 39 hS ?_
       refine tJ0 40 hS ?_
       refine tJ0 41 hS ?_
       refine tJ 42 hS ?_
       refine tJ 43 hS ?_
       refine wpAnyH_done (by kernel_rfl) ?_ _
       go_wp2_with fail
       go_ret
       exact ⟨ret_boolF HF.out.symm, (Below.refl _ _).drew⟩
   · have g1 : ((p.done.length : Int) ≤ 30) = False := eq_false (by omega)
     have HF : Hid (validB p = false) := by show _ = _; simp [validB, hd]
     go_enter Tryz.func27, Tryz.ntmps27
     go_wp2_with fail
     have hS : (fun w' => w'.cell? ⟨g, f, none⟩ = some (.slice A1 p.lines.length k1) ∧ w'.cell? ⟨g, f + 1, none⟩ = some (.slice A2 p.done.length k2) ∧ w'.cell? ⟨g, f + 2, none⟩ = some (.slice A3 p.undone.length k3)) w.drew := ⟨y0, y1, y2⟩
     dsimp only at hS
     refine wp_region_held_drew (S := (fun w' => w'.cell? ⟨g, f, none⟩ = some (.slice A1 p.lines.length k1) ∧ w'.cell? ⟨g, f + 1, none⟩ = some (.slice A2 p.done.length k2) ∧ w'.cell? ⟨g, f + 2, none⟩ = some (.slice A3 p.undone.length k3))) (by kernel_rfl) hS (fun _ => ?_)
     refine tJ 0 hS ?_
     refine tJ 1 hS ?_
     refine tJ 2 hS ?_
     refine tJ 3 hS ?_
     refine rJ 4 fun K hK => ?_
     refine step_call 60 #[.tmp 6] _ rfl rfl #[.slice A1 p.lines.length k1] Tryz.call60 (by simp [Act.eval]) (HC.out _ H1.out.drew) ?_
     rintro e w1 ⟨rfl, rfl⟩
     refine ⟨_, rfl, ?_⟩
     refine bJ hK hS ?_
     clear hK K
     simp only [Act.put, pA, pB, pC]
     refine tJ 5 hS ?_
     refine tJ 6 hS ?_
     refine tJ 7 hS ?_
     refine tJ 8 hS ?_
     refine tJ 9 hS ?_
     refine tJ 10 hS ?_
     refine tJ 11 hS ?_
     refine tJ 12 hS ?_
     refine tJ 13 hS ?_
     refine tJ0 14 hS ?_
     refine tJ0 15 hS ?_
     refine tJ0 16 hS ?_
     refine tJ0 17 hS ?_
     refine tJ0 18 hS ?_
     refine tJ0 19 hS ?_
     refine tJ 20 hS ?_
     refine tJ 21 hS ?_
     refine tJ0 22 hS ?_
     refine tJ0 23 hS ?_
     refine tJ0 24 hS ?_
     refine tJ0 25 hS ?_
     refine tJ0 26 hS ?_
     refine tJ0 27 hS ?_
     refine tJ0 28 hS ?_
     refine tJ0 29 hS ?_
     refine tJ0 30 hS ?_
     refine tJ 31 hS ?_
     refine tJ 32 hS ?_
     refine tJ0 33 hS ?_
     refine tJ0 34 hS ?_
     refine tJ0 35 hS ?_
     refine tJ0 36 hS ?_
     refine tJ0 37 hS ?_
     refine tJ0 38 hS ?_
     refine tJ0 39 hS ?_
     refine tJ0 40 hS ?_
     refine tJ0 41 hS ?_
     refine tJ 42 hS ?_
     refine tJ 43 hS ?_
     refine wpAnyH_done (by kernel_rfl) ?_ _
     go_wp2_with fail
     go_ret
     exact ⟨ret_boolF HF.out.symm, (Below.refl _ _).drew⟩
end Go.Proofs.YtboijogahclekaaGreatDoor
