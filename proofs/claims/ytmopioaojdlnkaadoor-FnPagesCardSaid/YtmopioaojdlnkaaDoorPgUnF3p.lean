/- Pages: UndoStep of the reference, in new memory. Conditions: none. -/
import Derived.Test.YtmopioaojdlnkaaDoorPgUndoAp
namespace Go.Proofs.YtmopioaojdlnkaaDoor
open Go Go.RowKit
set_option maxRecDepth 100000 in
set_option maxHeartbeats 600000 in
theorem spec_UndoStepF_c {el es : TypeId} {o : Bool} {p : PPage} {v : Value} {F : List Nat} (w : World) (h : PageIs el es o w p v F) (hp : PLaw p) :
 Calls Tryd.prog 36 #[v] w (GivesPCF (undoR p) w) := by
 obtain ⟨A1, k1, A2, k2, A3, k3, rfl⟩ := h.shape
 have E := EdIs.new h
 have hF := h.blocks
 obtain ⟨F1, F2, F3, hFF, h1, h2, h3⟩ := h.lines
 clear h h1
 generalize hR : undoR p = R
 have HV := Lib.hid (fun w' (q : EdIs el es o p (.slice A1 p.lines.length k1) (.slice A2 p.done.length k2) (.slice A3 p.undone.length k3) F w w') => ed_l27Ok q hp)
 go_enter Tryd.func36, Tryd.ntmps36
 go_wp2_with fail
 refine (HV.out _ E).mono ?_
 rintro e w1 ⟨rfl, b1⟩
 replace E := E.later b1
 obtain ⟨p0, p1, p2, o0, o1, o2, of⟩ := E.facts
 cases hv : validB p
 · have hr : R = (nilPage, 1) := by rw [← hR]; simp [undoR, hv]
   subst hr
   clear hR
   go_wp2_with fail
   (have TF := ((E.out.set 0 (.slice none 0 0)).set 1 (.slice none 0 0)).set 2 (.slice none 0 0); have e0 := TF.c0; have e1 := TF.c1; have e2 := TF.c2; exact bodyPost_ret (v := .tuple #[.agg #[.slice none 0 0, .slice none 0 0, .slice none 0 0], .int .i64 1]) (by simp only [results, Tryd.results36]; go_simp) rfl ⟨_, [], rfl, nilPage_is _ _ _ _, by simp, set3 E.low (by omega) _ _ _⟩)
 · obtain ⟨hok, hd, hu, f1, f2⟩ := validB_parts hv
   rcases Nat.eq_zero_or_pos p.done.length with h0 | h0
   · have hr : R = (nilPage, 6) := by rw [← hR]; simp [undoR, hv, List.eq_nil_of_length_eq_zero h0]
     subst hr
     clear hR
     have hi0 : ((p.done.length : Int) == 0) = true := by simp [h0]
     go_wp2_with fail
     (have TF := ((E.out.set 0 (.slice none 0 0)).set 1 (.slice none 0 0)).set 2 (.slice none 0 0); have e0 := TF.c0; have e1 := TF.c1; have e2 := TF.c2; exact bodyPost_ret (v := .tuple #[.agg #[.slice none 0 0, .slice none 0 0, .slice none 0 0], .int .i64 6]) (by simp only [results, Tryd.results36]; go_simp) rfl ⟨_, [], rfl, nilPage_is _ _ _ _, by simp, set3 E.low (by omega) _ _ _⟩)
   · obtain ⟨k, hk⟩ : ∃ k, p.done.length = k + 1 := ⟨p.done.length - 1, by omega⟩
     have hkl : k < p.done.length := by omega
     obtain ⟨hl0, hl2⟩ := last_take hk
     have hl1 : p.done.getLast? = some (p.done[k]'hkl) := hl0
     clear hl0
     have hcan := follow_last f1 hl1
     simp only [flipS, if_true] at hcan
     have hcan' := (can_iff _ _).1 hcan
     have hso : pStepOk p.done[k] := pSteps_ok h2 _ (List.getElem_mem hkl)
     have hoo : pStepOk (oppS p.done[k]) := flipS_ok true hso
     have hr : R = (⟨stepL p.lines (oppS p.done[k]), p.done.take k, pushS p.undone p.done[k]⟩, 0) := by rw [← hR]; simp only [undoR, hv, hl1, hl2]; rfl
     subst hr
     clear hR hl1 hl2 f1 f2 hcan
     obtain ⟨F1, F2', F3', -, -, hd2, hd3⟩ := E.pg.lines
     obtain ⟨A', c', he, hc1, hc2, hr⟩ := pSteps_open hd2
     simp only [Value.slice.injEq] at he
     obtain ⟨rfl, -, rfl⟩ := he
     obtain ⟨b', off, rfl, hbb, _, x0, x1, x2, x3, x4, _⟩ := hr k hkl
     clear hr
     unfold maxLen at hc2
     have kl : IntKind.i64.wrap ((p.done.length : Int) - 1) = (k : Int) := (IntWalk.i64_in _ (by omega)).trans (by omega)
     have g1 : (k : Int) < (p.done.length : Int) := by omega
     have g2 : ¬ ((k : Int) < 0) := by omega
     have g3 : (0 : Int) ≤ (k : Int) := by omega
     have g4 : (k : Int) ≤ (k2 : Int) := by omega
     have g5 : k ≤ k2 := by omega
     have g6 : ((p.done.length : Int) == 0) = false := by rw [beq_eq_false_iff_ne]; omega
     have hm : p.undone.length ≤ 1000 := by omega
     have hl : p.done.length ≤ 1000 := by omega
     have HS := Lib.hid (fun w' gs (q : PageIs el es o w' p (.agg #[.slice A1 p.lines.length k1, .slice (some ⟨b', off, none⟩) p.done.length k2, .slice A3 p.undone.length k3]) F) (g : Row w' gs 30 (pStepCells (oppS p.done[k]))) => ed_l27Apply q hok (oppS p.done[k]) hcan' hoo g)
     have HP := Lib.hid (fun w' (q : PageIs el es o w' p (.agg #[.slice A1 p.lines.length k1, .slice (some ⟨b', off, none⟩) p.done.length k2, .slice A3 p.undone.length k3]) F) => (q.lines).elim fun _ h => h.elim fun _ h => h.elim fun _ h => spec_l27Push_c p.done[k] w' h.2.2.2 hm hso)
     have HC := Lib.hid (fun w' (q : PageIs el es o w' p (.agg #[.slice A1 p.lines.length k1, .slice (some ⟨b', off, none⟩) p.done.length k2, .slice A3 p.undone.length k3]) F) => (q.lines).elim fun _ h => h.elim fun _ h => h.elim fun _ h => spec_l27Less_c w' h.2.2.1 hl k hk)
     have HK := Lib.hid hk
     clear hk
     have lo := E.out.lt
     clear hd2 hd3 h2 h3
     go_wp2_with fail
     refine (spec_l27Opposite_c _ _).mono ?_
     rintro e w2 ⟨rfl, b2⟩
     have E0 := (E.alloc _).later b2
     have R0 := (Row.at' w1 30 (pStepCells p.done[k]) rfl).later b2
     clear p0 p1 p2 o0 o1 o2 of
     obtain ⟨p0, p1, p2, o0, o1, o2, of⟩ := E0.facts
     have lo2 := b2.size
     go_wp2_with fail
     have E1 := (E0.alloc (.cells #[.int .i64 (oppS p.done[k]).kind, .int .i64 (oppS p.done[k]).line, .int .i64 (oppS p.done[k]).pos, .string (oppS p.done[k]).word, .string (oppS p.done[k]).old] 30)).drew
     have R1 := (R0.alloc (.cells #[.int .i64 (oppS p.done[k]).kind, .int .i64 (oppS p.done[k]).line, .int .i64 (oppS p.done[k]).pos, .string (oppS p.done[k]).word, .string (oppS p.done[k]).old] 30)).drew
     have B1 := (Row.at' w2 30 (pStepCells (oppS p.done[k])) rfl).drew
     have hg : w.heap.size + 1 < w1.heap.size := lo
     go_region_held3 (fun w' => w'.cell? ⟨w.heap.size, 0, none⟩ = some (.slice A1 p.lines.length k1) ∧ w'.cell? ⟨w.heap.size, 1, none⟩ = some (.slice (some ⟨b', off, none⟩) p.done.length k2) ∧ w'.cell? ⟨w.heap.size, 2, none⟩ = some (.slice A3 p.undone.length k3) ∧ w'.cell? ⟨w1.heap.size, 0, none⟩ = some (.int .i64 p.done[k].kind) ∧ w'.cell? ⟨w1.heap.size, 1, none⟩ = some (.int .i64 p.done[k].line) ∧ w'.cell? ⟨w1.heap.size, 2, none⟩ = some (.int .i64 p.done[k].pos) ∧ w'.cell? ⟨w1.heap.size, 3, none⟩ = some (.string p.done[k].word) ∧ w'.cell? ⟨w1.heap.size, 4, none⟩ = some (.string p.done[k].old)) (first | exact edS3 E4 R4 hg _ _ _ | exact edS E4 R4 | exact edS E3 R3 | exact edS E2 R2 | exact edS E1 R1) (first | (go_at_call 63; refine (HS.out _ _ E1.pg B1).mono ?_; rintro e v2 ⟨u2, G2, rfl, r2, f2, b2x⟩; have E2 := E1.later b2x; have R2 := R1.later b2x; have B2 := B1.later b2x; obtain ⟨S2, n2, c2, rfl⟩ := slice_form r2; obtain ⟨y0, y1, y2, o0, o1, o2, of⟩ := E2.facts) | (go_at_call 66; refine (HC.out _ E2.pg).mono ?_; rintro e v3 ⟨u3, G3, rfl, r3, f3, b3x⟩; have E3 := E2.later b3x; have R3 := R2.later b3x; have B3 := B2.later b3x; obtain ⟨S3, n3, c3, rfl⟩ := slice_form r3; obtain ⟨y0, y1, y2, o0, o1, o2, of⟩ := E3.facts) | (go_at_call 64; refine (HP.out _ E3.pg).mono ?_; rintro e v4 ⟨u4, G4, rfl, r4, f4, b4x⟩; have E4 := E3.later b4x; have R4 := R3.later b4x; have B4 := B3.later b4x; obtain ⟨S4, n4, c4, rfl⟩ := slice_form r4; obtain ⟨y0, y1, y2, o0, o1, o2, of⟩ := E4.facts))
     skip
     go_wp2_with fail
     have repL := ((r2.below b3x).below b4x)
     have repD := (r3.below b4x)
     have repU := r4
     have bl := r2.blocks
     have bd := r3.blocks
     have bu := r4.blocks
     have z2 := b2x.size
     have z3 := b3x.size
     have z4 := b4x.size
     have z1 := E1.out.lt
     have ng2 : w.heap.size + 1 ∉ G2 := fun hx => by have hq := f2.2 _ hx; first | omega | (simp at hq; omega)
     have ng3 : w.heap.size + 1 ∉ G3 := fun hx => by have hq := f3.2 _ hx; first | omega | (simp at hq; omega)
     have ng4 : w.heap.size + 1 ∉ G4 := fun hx => by have hq := f4 _ hx; first | omega | (simp at hq; omega)
     have TF := ((E4.out.set 0 (.slice S2 n2 c2)).set 1 (.slice S3 n3 c3)).set 2 (.slice S4 n4 c4)
     have e0 := TF.c0
     have e1 := TF.c1
     have e2 := TF.c2
     have zl := E4.low.size
     have le := E1.low.size
     refine bodyPost_ret (v := .tuple #[.agg #[.slice S2 n2 c2, .slice S3 n3 c3, .slice S4 n4 c4], .int .i64 0]) (by simp only [results, Tryd.results36]; go_simp) rfl ⟨_, G2 ++ (G3 ++ G4), rfl, PageIs.make (p := ⟨stepL p.lines (oppS p.done[k]), p.done.take k, pushS p.undone p.done[k]⟩) (ty_read (((repL.setCell ng2 _).setCell ng2 _).setCell ng2 _)) (ty_read (((repD.setCell ng3 _).setCell ng3 _).setCell ng3 _)) (ty_read (((repU.setCell ng4 _).setCell ng4 _).setCell ng4 _)), (fun x hx => by simp only [List.mem_append] at hx; rcases hx with hx | hx | hx <;> first | (have hq := f2.2 _ hx; first | omega | (simp at hq; omega)) | (have hq := f3.2 _ hx; first | omega | (simp at hq; omega)) | (have hq := f4.2 _ hx; first | omega | (simp at hq; omega)) | (have hq := f2 _ hx; first | omega | (simp at hq; omega)) | (have hq := f3 _ hx; first | omega | (simp at hq; omega)) | (have hq := f4 _ hx; first | omega | (simp at hq; omega))), set3 E4.low (by omega) _ _ _⟩
end Go.Proofs.YtmopioaojdlnkaaDoor
