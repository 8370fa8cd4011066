/- Pages as plain data: the results of edits are small, and their steps possible. No program is named here. Conditions: none. -/
import Derived.Test.YtahoopmiipmgpaaDoorPgMath2
namespace Go.Proofs.YtahoopmiipmgpaaDoor
open Go Go.RowKit

theorem wordsIn_few {ls : List PLine} (h : ∀ l ∈ ls, l.length ≤ 12) : wordsIn ls ≤ 12 * ls.length := by
  unfold wordsIn
  induction ls with
  | nil => simp
  | cons a r ih =>
    have h1 := h a (by simp)
    have h2 := ih (fun l hl => h l (by simp [hl]))
    simp only [List.map_cons, List.sum_cons, List.length_cons]
    omega
theorem res_small {q : PPage} (hl : LinesOk q.lines) (hd : q.done.length ≤ 40) (hu : q.undone.length ≤ 40) : PSmall q ∧ marksIn q ≤ 5000000 := by
  have h1 := wordsIn_few hl.each
  have h2 := hl.few
  refine ⟨⟨by omega, fun x hx => by have := hl.each x hx; omega, by omega, by omega, by omega⟩, ?_⟩
  unfold marksIn; omega
theorem nil_small : PSmall nilPage ∧ marksIn nilPage ≤ 5000000 := by
  refine ⟨⟨by simp [nilPage], by simp [nilPage], by simp [nilPage, wordsIn], by simp [nilPage], by simp [nilPage]⟩, by simp [nilPage, marksIn, wordsIn]⟩
theorem pushS_len (l : List PStep) (s : PStep) : (pushS l s).length ≤ l.length + 1 := by
  unfold pushS; split
  · simp
  · simp
theorem validB_parts {p : PPage} (h : validB p = true) : LinesOk p.lines ∧ p.done.length ≤ 30 ∧ p.undone.length ≤ 30 ∧ followB true p.lines p.done.reverse = true ∧ followB false p.lines p.undone.reverse = true := by
  simp only [validB, Bool.and_eq_true, decide_eq_true_eq] at h
  exact ⟨(linesOk_iff _).1 h.1, h.2.1, h.2.2.1, h.2.2.2.1, h.2.2.2.2⟩
theorem doP_small {p : PPage} {s : PStep} (h : validB p = true) (hc : canB p.lines s = true) : PSmall (doP p s) ∧ marksIn (doP p s) ≤ 5000000 := by
  obtain ⟨hok, hd, hu, _, _⟩ := validB_parts h
  have := pushS_len p.done s
  exact res_small (q := doP p s) (stepL_ok hok ((can_iff _ s).1 hc)) (by show (pushS p.done s).length ≤ 40; omega) (by show ([] : List PStep).length ≤ 40; simp)
theorem doStepR_small (p : PPage) (s : PStep) : PSmall (doStepR p s).1 ∧ marksIn (doStepR p s).1 ≤ 5000000 := by
  unfold doStepR
  split
  · split
    · exact doP_small (by assumption) (by assumption)
    · exact nil_small
  · exact nil_small
theorem countW_nonneg {p : PPage} {n : Int} (h : 0 ≤ countW p n) : 0 ≤ n ∧ n ≤ (p.lines.length : Int) - 1 ∧ countW p n = (lineAt p.lines n).length := by
  unfold countW at *
  split at h
  · rename_i h1; rw [if_pos h1]; exact ⟨h1.1, h1.2, rfl⟩
  · omega
theorem ins_can {p : PPage} {n a : Int} {w : ByteArray} (hw : isWordB w = true) (hr : inRP a 0 (countW p n) = true) (hc : ¬ 12 ≤ countW p n) : canB p.lines ⟨1, n, a, w, .empty⟩ = true := by
  simp only [inRP, Bool.and_eq_true, decide_eq_true_eq] at hr
  obtain ⟨h1, h2, h3⟩ := countW_nonneg (p := p) (n := n) (by omega)
  simp [canB, h1, h2, hr.1, hw]
  omega
theorem insertR_small (p : PPage) (n a : Int) (w : ByteArray) : PSmall (insertR p n a w).1 ∧ marksIn (insertR p n a w).1 ≤ 5000000 := by
  unfold insertR
  split; · exact nil_small
  split; · exact nil_small
  split; · exact nil_small
  split; · exact nil_small
  exact doP_small (by simp_all) (ins_can (by simp_all) (by simp_all) (by assumption))
theorem del_can {p : PPage} {n a : Int} (hr : inRP a 0 (countW p n - 1) = true) : canB p.lines ⟨2, n, a, (lineAt p.lines n).getD a.toNat .empty, .empty⟩ = true := by
  simp only [inRP, Bool.and_eq_true, decide_eq_true_eq] at hr
  obtain ⟨h1, h2, h3⟩ := countW_nonneg (p := p) (n := n) (by omega)
  rw [h3] at hr
  simp [canB, h1, h2, hr.1, hr.2]
theorem deleteR_small (p : PPage) (n a : Int) : PSmall (deleteR p n a).1 ∧ marksIn (deleteR p n a).1 ≤ 5000000 := by
  unfold deleteR
  split; · exact nil_small
  split; · exact nil_small
  exact doP_small (by simp_all) (del_can (by simp_all))
theorem rep_can {p : PPage} {n a : Int} {w : ByteArray} (hw : isWordB w = true) (hr : inRP a 0 (countW p n - 1) = true) : canB p.lines ⟨3, n, a, w, (lineAt p.lines n).getD a.toNat .empty⟩ = true := by
  simp only [inRP, Bool.and_eq_true, decide_eq_true_eq] at hr
  obtain ⟨h1, h2, h3⟩ := countW_nonneg (p := p) (n := n) (by omega)
  rw [h3] at hr
  simp [canB, h1, h2, hr.1, hr.2, hw]
theorem replaceR_small (p : PPage) (n a : Int) (w : ByteArray) : PSmall (replaceR p n a w).1 ∧ marksIn (replaceR p n a w).1 ≤ 5000000 := by
  unfold replaceR
  split; · exact nil_small
  split; · exact nil_small
  split; · exact nil_small
  exact doP_small (by simp_all) (rep_can (by simp_all) (by simp_all))
theorem break_can {p : PPage} {n a : Int} (hr : inRP a 0 (countW p n) = true) (hc : ¬ 20 ≤ p.lines.length) : canB p.lines ⟨4, n, a, .empty, .empty⟩ = true := by
  simp only [inRP, Bool.and_eq_true, decide_eq_true_eq] at hr
  obtain ⟨h1, h2, h3⟩ := countW_nonneg (p := p) (n := n) (by omega)
  rw [h3] at hr
  simp [canB, h1, h2, hr.1, hr.2]
  omega
theorem breakR_small (p : PPage) (n a : Int) : PSmall (breakR p n a).1 ∧ marksIn (breakR p n a).1 ≤ 5000000 := by
  unfold breakR
  split; · exact nil_small
  split; · exact nil_small
  split; · exact nil_small
  exact doP_small (by simp_all) (break_can (by simp_all) (by assumption))
theorem join_can {p : PPage} {n : Int} (hr : inRP n 0 ((p.lines.length : Int) - 2) = true) (hc : ¬ 12 < countW p n + countW p (n + 1)) : canB p.lines ⟨5, n, countW p n, .empty, .empty⟩ = true := by
  simp only [inRP, Bool.and_eq_true, decide_eq_true_eq] at hr
  have h1 : countW p n = (lineAt p.lines n).length := by unfold countW; rw [if_pos (by omega)]
  have h2 : countW p (n + 1) = (lineAt p.lines (n + 1)).length := by unfold countW; rw [if_pos (by omega)]
  rw [h1, h2] at hc
  simp [canB, h1, hr.1]
  omega
theorem joinR_small (p : PPage) (n : Int) : PSmall (joinR p n).1 ∧ marksIn (joinR p n).1 ≤ 5000000 := by
  unfold joinR
  split; · exact nil_small
  split; · exact nil_small
  split; · exact nil_small
  exact doP_small (by simp_all) (join_can (by simp_all) (by assumption))
theorem follow_last {b : Bool} {ls : List PLine} {l : List PStep} {s : PStep} (h : followB b ls l.reverse = true) (hs : l.getLast? = some s) : canB ls (flipS b s) = true := by
  have e : l.reverse.head? = some s := by rw [List.head?_reverse]; exact hs
  cases hl : l.reverse with
  | nil => rw [hl] at e; cases e
  | cons a r =>
    rw [hl] at e h
    simp only [List.head?_cons, Option.some.injEq] at e
    subst e
    simp only [followB, Bool.and_eq_true] at h
    exact h.1
theorem undoR_small (p : PPage) : PSmall (undoR p).1 ∧ marksIn (undoR p).1 ≤ 5000000 := by
  unfold undoR
  split; · exact nil_small
  rename_i hv
  obtain ⟨hok, hd, hu, f1, f2⟩ := validB_parts (p := p) (by simpa using hv)
  split
  · exact nil_small
  · rename_i s hs
    have hc := follow_last f1 hs
    have := pushS_len p.undone s
    exact res_small (q := ⟨stepL p.lines (oppS s), p.done.dropLast, pushS p.undone s⟩) (stepL_ok hok ((can_iff _ _).1 hc)) (by show p.done.dropLast.length ≤ 40; simp; omega) (by show (pushS p.undone s).length ≤ 40; omega)
theorem redoR_small (p : PPage) : PSmall (redoR p).1 ∧ marksIn (redoR p).1 ≤ 5000000 := by
  unfold redoR
  split; · exact nil_small
  rename_i hv
  obtain ⟨hok, hd, hu, f1, f2⟩ := validB_parts (p := p) (by simpa using hv)
  split
  · exact nil_small
  · rename_i s hs
    have hc := follow_last f2 hs
    have := pushS_len p.done s
    exact res_small (q := ⟨stepL p.lines s, pushS p.done s, p.undone.dropLast⟩) (stepL_ok hok ((can_iff _ _).1 hc)) (by show (pushS p.done s).length ≤ 40; omega) (by show p.undone.dropLast.length ≤ 40; simp; omega)
end Go.Proofs.YtahoopmiipmgpaaDoor
