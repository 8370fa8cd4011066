/- Pages: is a page valid? Conditions: none. -/
import Derived.Test.YtmopioaojdlnkaaDoorPgFollowp
import Derived.Test.YtmopioaojdlnkaaDoorMarkp
namespace Go.Proofs.YtmopioaojdlnkaaDoor
open Go Go.RowKit
structure PBytes (p : PPage) : Prop where
 l : LineBytes p.lines
 d : ∀ s ∈ p.done, StepSmall s
 u : ∀ s ∈ p.undone, StepSmall s
set_option maxRecDepth 100000 in
set_option maxHeartbeats 4000000 in
theorem impl_ValidPage_c {el es : TypeId} {o : Bool} {p : PPage} {v : Value} {F : List Nat} (w : World) (h : PageIs el es o w p v F) (hp : PSmall p) (hq : PBytes p) :
 Calls Tryd.prog 17 #[v] w fun e w' => e = .returned (.bool (validB p)) ∧ Below w.heap.size w w' := by
 obtain ⟨a, b, c, F1, F2, F3, rfl, rfl, h1, h2, h3⟩ := h
 have CV := fun w' (q : (pLines el).rep o w' p.lines [a] F1) => impl_validLines_c w' q hp.l hp.w hq.l
 obtain ⟨A1, k1, rfl⟩ := slice_len h1
 obtain ⟨A2, k2, rfl⟩ := slice_len h2
 obtain ⟨A3, k3, rfl⟩ := slice_len h3
 have hd1 := hp.d
 have hd2 := hp.u
 have H1 := Lib.hid h1
 have H2 := Lib.hid h2
 have H3 := Lib.hid h3
 clear h1 h2 h3
 cases hv : linesOkB p.lines
 · simp only [hv] at CV
   have HC := Lib.hid CV
   have HF : Hid (validB p = false) := by show _ = _; simp [validB, hv]
   clear CV hv
   go_enter Tryd.func17, Tryd.ntmps17
   go_wp2_with fail
   refine (HC.out _ (H1.out.alloc _)).mono ?_
   rintro e w1 ⟨rfl, b1⟩
   go_wp2_with fail
   go_ret
   exact ⟨ret_boolF HF.out.symm, ((Below.refl _ _).alloc (Nat.le_refl _) _).trans (b1.mono (by simp))⟩
 · have hok := (linesOk_iff _).1 hv
   have HV := Lib.hid hv
   simp only [hv] at CV
   have HC := Lib.hid CV
   clear CV hv
   by_cases hd : p.done.length ≤ 30
   · by_cases hu : p.undone.length ≤ 30
     · have g1 : ¬ ((30 : Int) < (p.done.length : Int)) := by omega
       have g2 : ¬ ((30 : Int) < (p.undone.length : Int)) := by omega
       have CT := fun w' (q : (pLines el).rep o w' p.lines [.slice A1 p.lines.length k1] F1) (q' : (pSteps es).rep o w' p.done [.slice A2 p.done.length k2] F2) => impl_follow_c 21 true w' Tryd.call21 (fun s w => impl_opposite_c s w) q q' hok hd hq.d
       have CF := fun w' (q : (pLines el).rep o w' p.lines [.slice A1 p.lines.length k1] F1) (q' : (pSteps es).rep o w' p.undone [.slice A3 p.undone.length k3] F3) => impl_follow_c 42 false w' Tryd.call42 (fun s w => impl_ValidPage1_c s w) q q' hok hu hq.u
       have hval : validB p = (followB true p.lines p.done.reverse && followB false p.lines p.undone.reverse) := by simp [validB, HV.out, hd, hu]
       have HVAL := Lib.hid hval
       have HCF := Lib.hid CF
       clear hval CF
       cases ht : followB true p.lines p.done.reverse
       · have HF : Hid (validB p = false) := by show _ = _; rw [HVAL.out, ht]; rfl
         simp only [ht] at CT
         have HCT := Lib.hid CT
         clear CT ht
         go_enter Tryd.func17, Tryd.ntmps17
         go_wp2_with fail
         refine (HC.out _ (H1.out.alloc _)).mono ?_
         rintro e w1 ⟨rfl, b1⟩
         obtain ⟨hcc, hff⟩ := bcell b1
         have b1s := b1.size
         simp only [World.size_alloc] at b1s
         go_wp2_with fail
         refine (HCT.out _ ((H1.out.alloc _).below b1) ((H2.out.alloc _).below b1)).mono ?_
         rintro e w2 ⟨rfl, b2⟩
         go_wp2_with fail
         go_ret
         exact ⟨ret_boolF HF.out.symm, bt (((Below.refl _ _).alloc (Nat.le_refl _) _).trans (b1.mono (by simp))) b2⟩
       · have HF : Hid (validB p = followB false p.lines p.undone.reverse) := by show _ = _; rw [HVAL.out, ht]; rfl
         simp only [ht] at CT
         have HCT := Lib.hid CT
         clear CT ht
         go_enter Tryd.func17, Tryd.ntmps17
         go_wp2_with fail
         refine (HC.out _ (H1.out.alloc _)).mono ?_
         rintro e w1 ⟨rfl, b1⟩
         obtain ⟨hcc, hff⟩ := bcell b1
         have b1s := b1.size
         simp only [World.size_alloc] at b1s
         go_wp2_with fail
         refine (HCT.out _ ((H1.out.alloc _).below b1) ((H2.out.alloc _).below b1)).mono ?_
         rintro e w2 ⟨rfl, b2⟩
         clear hcc hff
         have b2s := b2.size
         obtain ⟨hcc, hff⟩ := bcell (bt b1 b2)
         go_wp2_with fail
         refine (HCF.out _ (((H1.out.alloc _).below b1).below b2) (((H3.out.alloc _).below b1).below b2)).mono ?_
         rintro e w3 ⟨rfl, b3⟩
         go_wp2_with fail
         go_ret
         exact ⟨ret_boolF HF.out.symm, bt (bt (((Below.refl _ _).alloc (Nat.le_refl _) _).trans (b1.mono (by simp))) b2) b3⟩
     · have g1 : ¬ ((30 : Int) < (p.done.length : Int)) := by omega
       have g2 : (30 : Int) < (p.undone.length : Int) := by omega
       have HF : Hid (validB p = false) := by show _ = _; simp [validB, hu]
       go_enter Tryd.func17, Tryd.ntmps17
       go_wp2_with fail
       refine (HC.out _ (H1.out.alloc _)).mono ?_
       rintro e w1 ⟨rfl, b1⟩
       obtain ⟨hcc, hff⟩ := bcell b1
       go_wp2_with fail
       go_ret
       exact ⟨ret_boolF HF.out.symm, ((Below.refl _ _).alloc (Nat.le_refl _) _).trans (b1.mono (by simp))⟩
   · have g1 : (30 : Int) < (p.done.length : Int) := by omega
     have HF : Hid (validB p = false) := by show _ = _; simp [validB, hd]
     go_enter Tryd.func17, Tryd.ntmps17
     go_wp2_with fail
     refine (HC.out _ (H1.out.alloc _)).mono ?_
     rintro e w1 ⟨rfl, b1⟩
     obtain ⟨hcc, hff⟩ := bcell b1
     go_wp2_with fail
     go_ret
     exact ⟨ret_boolF HF.out.symm, ((Below.refl _ _).alloc (Nat.le_refl _) _).trans (b1.mono (by simp))⟩
theorem step_call {P : Program} {ops : Array Oper} {o : Oper} {a : Act} {w : World} {K : Act → World → Prop} {Q : Exit → Act → World → Prop} {E : Prop} {R : Ending → World → Prop}
 (f : FuncId) (xs : Array Operand) (ts : Array TypeId) (ho : o.op = .call { callee := .value (.func f), args := xs, argTypes := ts })
 (hw : Region.wanted o (yielded ops a.tmps) = true) (av : Array Value) (hcall : ∀ args w, (callFunc f args).run P w = .ok (.enter f args) w) (hx : xs.map a.eval = av)
 (hC : Calls P f av w R) (hK : ∀ e w', R e w' → ∃ v, e = .returned v ∧ K (a.put o.dst v) w') :
 if Region.wanted o (yielded ops a.tmps) = true then Oper.wp P o a w K Q else E := by
 rw [if_pos hw]
 unfold Oper.wp execOp
 simp only [ho, resolve, invoke, Sem.run_bind]
 have he : a.eval (.func f) = .func (.func f) #[] #[] := rfl
 rw [he, hx]
 simp only [Deferred.ofValue, Sem.run_pure, Result.andThen_ok, Array.append_empty, hcall]
 rw [Oper.upon_enter, Array.empty_append]
 refine hC.mono fun e w' hr => ?_
 obtain ⟨v, rfl, hk⟩ := hK e w' hr
 exact hk
end Go.Proofs.YtmopioaojdlnkaaDoor
