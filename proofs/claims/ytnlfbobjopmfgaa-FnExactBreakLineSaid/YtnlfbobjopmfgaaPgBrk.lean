/- Pages: BreakLine, in the program and in the reference. Conditions: none. -/
import Derived.Test.YtnlfbobjopmfgaaPgEd
namespace Go.Proofs.Ytnlfbobjopmfgaa
open Go Go.RowKit

set_option maxRecDepth 100000 in
set_option maxHeartbeats 4000000 in
theorem impl_BreakLine_c {el es : TypeId} {o : Bool} {p : PPage} {v : Value} {F : List Nat} (n a : Int) (w : World) (h : PageIs el es o w p v F) (hp : PLaw p) (hn : I64 n) (ha : I64 a) :
    Calls Try.prog 39 #[v, .int .i64 n, .int .i64 a] w (GivesPC (breakR p n a) w) := by
  obtain ⟨A1, k1, A2, k2, A3, k3, rfl⟩ := h.shape
  have E := EdIs.new h
  have hF := h.blocks
  clear h
  generalize hR : breakR p n a = R
  have HV := Lib.hid (fun w' (q : PageIs el es o w' p (.agg #[.slice A1 p.lines.length k1, .slice A2 p.done.length k2, .slice A3 p.undone.length k3]) F) => impl_ValidPage_c w' q hp.s hp.b)
  have HN := Lib.hid (fun w' (q : PageIs el es o w' p (.agg #[.slice A1 p.lines.length k1, .slice A2 p.done.length k2, .slice A3 p.undone.length k3]) F) => impl_countWords_c n hn w' q hp.s.l)
  go_enter Try.func39, Try.ntmps39
  go_wp2_with fail
  refine (HV.out _ E.pg).mono ?_
  rintro e w1 ⟨rfl, b1⟩
  replace E := E.later b1
  obtain ⟨p0, p1, p2, o0, o1, o2, of⟩ := E.facts
  cases hv : validB p
  · have hr : R = (nilPage, 1) := by rw [← hR]; simp [breakR, hv]
    subst hr
    clear hR
    go_wp2_with fail
    (have TF := ((E.out.set 0 (.slice none 0 0)).set 1 (.slice none 0 0)).set 2 (.slice none 0 0); have e0 := TF.cell' (i := 0) rfl; have e1 := TF.cell' (i := 1) rfl; have e2 := TF.cell' (i := 2) rfl; exact bodyPost_ret (v := .tuple #[.agg #[.slice none 0 0, .slice none 0 0, .slice none 0 0], .int .i64 1]) (by simp only [results, Try.results39]; go_simp) rfl ⟨_, [], rfl, nilPage_is _ _ _ _, ⟨by simp, by simp⟩, set3 E.low (by omega) _ _ _⟩)
  · skip
    go_wp2_with fail
    refine (HN.out _ E.pg).mono ?_
    rintro e w2 ⟨rfl, b2⟩
    replace E := E.later b2
    clear p0 p1 p2 o0 o1 o2 of
    obtain ⟨p0, p1, p2, o0, o1, o2, of⟩ := E.facts
    go_wp2_with fail
    refine (impl_within_c _ _ _ _).mono ?_
    rintro e w3 ⟨rfl, rfl⟩
    cases hi : inR a 0 (countW p n)
    · have hr : R = (nilPage, 2) := by rw [← hR]; simp [breakR, hv, hi]
      subst hr
      clear hR
      go_wp2_with fail
      (have TF := ((E.out.set 0 (.slice none 0 0)).set 1 (.slice none 0 0)).set 2 (.slice none 0 0); have e0 := TF.cell' (i := 0) rfl; have e1 := TF.cell' (i := 1) rfl; have e2 := TF.cell' (i := 2) rfl; exact bodyPost_ret (v := .tuple #[.agg #[.slice none 0 0, .slice none 0 0, .slice none 0 0], .int .i64 2]) (by simp only [results, Try.results39]; go_simp) rfl ⟨_, [], rfl, nilPage_is _ _ _ _, ⟨by simp, by simp⟩, set3 E.low (by omega) _ _ _⟩)
    · skip
      have kk : ((p.lines.length : Int) < 20) ↔ ¬ (20 ≤ p.lines.length) := by omega
      have kk2 : (20 ≤ (p.lines.length : Int)) ↔ 20 ≤ p.lines.length := by omega
      rcases Classical.em (20 ≤ p.lines.length) with h20 | h20
      · have hr : R = (nilPage, 5) := by rw [← hR]; simp [breakR, hv, hi, h20]
        subst hr
        clear hR
        go_wp2_with fail
        (have TF := ((E.out.set 0 (.slice none 0 0)).set 1 (.slice none 0 0)).set 2 (.slice none 0 0); have e0 := TF.cell' (i := 0) rfl; have e1 := TF.cell' (i := 1) rfl; have e2 := TF.cell' (i := 2) rfl; exact bodyPost_ret (v := .tuple #[.agg #[.slice none 0 0, .slice none 0 0, .slice none 0 0], .int .i64 5]) (by simp only [results, Try.results39]; go_simp) rfl ⟨_, [], rfl, nilPage_is _ _ _ _, ⟨by simp, by simp⟩, set3 E.low (by omega) _ _ _⟩)
      · skip
        have hr : R = (doP p ⟨4, n, a, .empty, .empty⟩, 0) := by rw [← hR]; simp [breakR, hv, hi, h20]
        clear hR
        have hcan : canB p.lines ⟨4, n, a, .empty, .empty⟩ = true := break_can hi h20
        have hstep : pStepOk ⟨4, n, a, .empty, .empty⟩ := ⟨i64_small ⟨by simp, by simp⟩, hn, ha, empty_small, empty_small⟩
        have HD := Lib.hid (fun w' (q : PageIs el es o w' p (.agg #[.slice A1 p.lines.length k1, .slice A2 p.done.length k2, .slice A3 p.undone.length k3]) F) => ed_doStep q hv ⟨4, n, a, .empty, .empty⟩ hcan hstep)
        obtain ⟨q, hq⟩ : ∃ q, q = doP p ⟨4, n, a, .empty, .empty⟩ := ⟨_, rfl⟩
        rw [← hq] at hr HD
        subst hr
        have lo := E.out.lt
        go_wp2_with fail
        refine (HD.out _ E.pg).mono ?_
        rintro e w8 ⟨u, G, rfl, r, fr, b8⟩
        replace E := E.later b8
        clear p0 p1 p2 o0 o1 o2 of
        obtain ⟨p0, p1, p2, o0, o1, o2, of⟩ := E.facts
        obtain ⟨B1, n1, m1, B2, n2, m2, B3, n3, m3, rfl⟩ := r.form
        have ng : w.heap.size + 1 ∉ G := fun hx => by have := fr.2 _ hx; omega
        go_wp2_with fail
        have TF := ((E.out.set 0 (.slice B1 n1 m1)).set 1 (.slice B2 n2 m2)).set 2 (.slice B3 n3 m3)
        have e0 := TF.cell' (i := 0) rfl
        have e1 := TF.cell' (i := 1) rfl
        have e2 := TF.cell' (i := 2) rfl
        exact bodyPost_ret (v := .tuple #[.agg #[.slice B1 n1 m1, .slice B2 n2 m2, .slice B3 n3 m3], .int .i64 0]) (by simp only [results, Try.results39]; go_simp) rfl ⟨_, G, rfl, r.set3 ng _ _ _, fresh_mono fr (by first | omega | (simp; omega)), set3 E.low (by omega) _ _ _⟩
set_option maxRecDepth 100000 in
set_option maxHeartbeats 4000000 in
theorem spec_BreakLine_c {el es : TypeId} {o : Bool} {p : PPage} {v : Value} {F : List Nat} (n a : Int) (w : World) (h : PageIs el es o w p v F) (hp : PLaw p) (hn : I64 n) (ha : I64 a) :
    Calls Try.prog 38 #[v, .int .i64 n, .int .i64 a] w (GivesPCR (breakR p n a) w) := by
  obtain ⟨A1, k1, A2, k2, A3, k3, rfl⟩ := h.shape
  have E := EdIs.new h
  have hF := h.blocks
  clear h
  generalize hR : breakR p n a = R
  have HV := Lib.hid (fun w' (q : EdIs el es o p (.slice A1 p.lines.length k1) (.slice A2 p.done.length k2) (.slice A3 p.undone.length k3) F w w') => ed_l27Ok q hp)
  have HN := Lib.hid (fun w' (q : EdIs el es o p (.slice A1 p.lines.length k1) (.slice A2 p.done.length k2) (.slice A3 p.undone.length k3) F w w') => ed_l27Size q hp n hn)
  go_enter Try.func38, Try.ntmps38
  go_wp2_with fail
  refine (HV.out _ E).mono ?_
  rintro e w1 ⟨rfl, b1⟩
  replace E := E.later b1
  obtain ⟨p0, p1, p2, o0, o1, o2, of⟩ := E.facts
  cases hv : validB p
  · have hr : R = (nilPage, 1) := by rw [← hR]; simp [breakR, hv]
    subst hr
    clear hR
    go_wp2_with fail
    (have TF := ((E.out.set 0 (.slice none 0 0)).set 1 (.slice none 0 0)).set 2 (.slice none 0 0); have e0 := TF.cell' (i := 0) rfl; have e1 := TF.cell' (i := 1) rfl; have e2 := TF.cell' (i := 2) rfl; exact bodyPost_ret (v := .tuple #[.agg #[.slice none 0 0, .slice none 0 0, .slice none 0 0], .int .i64 1]) (by simp only [results, Try.results38]; go_simp) rfl ⟨_, [], rfl, nilPage_is _ _ _ _, set3 E.low (by omega) _ _ _⟩)
  · skip
    go_wp2_with fail
    refine (HN.out _ E).mono ?_
    rintro e w2 ⟨rfl, rfl⟩
    go_wp2_with fail
    refine (spec_l00In_c _ _ _ _).mono ?_
    rintro e w3 ⟨rfl, rfl⟩
    cases hi : inR a 0 (countW p n)
    · have hr : R = (nilPage, 2) := by rw [← hR]; simp [breakR, hv, hi]
      subst hr
      clear hR
      go_wp2_with fail
      (have TF := ((E.out.set 0 (.slice none 0 0)).set 1 (.slice none 0 0)).set 2 (.slice none 0 0); have e0 := TF.cell' (i := 0) rfl; have e1 := TF.cell' (i := 1) rfl; have e2 := TF.cell' (i := 2) rfl; exact bodyPost_ret (v := .tuple #[.agg #[.slice none 0 0, .slice none 0 0, .slice none 0 0], .int .i64 2]) (by simp only [results, Try.results38]; go_simp) rfl ⟨_, [], rfl, nilPage_is _ _ _ _, set3 E.low (by omega) _ _ _⟩)
    · skip
      have kk : ((p.lines.length : Int) < 20) ↔ ¬ (20 ≤ p.lines.length) := by omega
      have kk2 : (20 ≤ (p.lines.length : Int)) ↔ 20 ≤ p.lines.length := by omega
      rcases Classical.em (20 ≤ p.lines.length) with h20 | h20
      · have hr : R = (nilPage, 5) := by rw [← hR]; simp [breakR, hv, hi, h20]
        subst hr
        clear hR
        go_wp2_with fail
        (have TF := ((E.out.set 0 (.slice none 0 0)).set 1 (.slice none 0 0)).set 2 (.slice none 0 0); have e0 := TF.cell' (i := 0) rfl; have e1 := TF.cell' (i := 1) rfl; have e2 := TF.cell' (i := 2) rfl; exact bodyPost_ret (v := .tuple #[.agg #[.slice none 0 0, .slice none 0 0, .slice none 0 0], .int .i64 5]) (by simp only [results, Try.results38]; go_simp) rfl ⟨_, [], rfl, nilPage_is _ _ _ _, set3 E.low (by omega) _ _ _⟩)
      · skip
        have hr : R = (doP p ⟨4, n, a, .empty, .empty⟩, 0) := by rw [← hR]; simp [breakR, hv, hi, h20]
        clear hR
        have hcan : canB p.lines ⟨4, n, a, .empty, .empty⟩ = true := break_can hi h20
        have hstep : pStepOk ⟨4, n, a, .empty, .empty⟩ := ⟨i64_small ⟨by simp, by simp⟩, hn, ha, empty_small, empty_small⟩
        have HD := Lib.hid (fun w' gs (q : EdIs el es o p (.slice A1 p.lines.length k1) (.slice A2 p.done.length k2) (.slice A3 p.undone.length k3) F w w') (g : Row w' gs 46 (pStepCells ⟨4, n, a, .empty, .empty⟩)) => ed_l27Do q hv ⟨4, n, a, .empty, .empty⟩ hcan hstep g)
        obtain ⟨q, hq⟩ : ∃ q, q = doP p ⟨4, n, a, .empty, .empty⟩ := ⟨_, rfl⟩
        rw [← hq] at hr HD
        subst hr
        have lo := E.out.lt
        go_wp2_with fail
        refine (HD.out _ _ (E.alloc _) (Row.at' _ _ (pStepCells _) rfl)).mono ?_
        rintro e w8 ⟨u, G, rfl, r, fr, b8⟩
        replace E := (E.alloc _).later b8
        clear p0 p1 p2 o0 o1 o2 of
        obtain ⟨p0, p1, p2, o0, o1, o2, of⟩ := E.facts
        obtain ⟨B1, n1, m1, B2, n2, m2, B3, n3, m3, rfl⟩ := r.form
        have ng : w.heap.size + 1 ∉ G := fun hx => by have := fr _ hx; simp at this; omega
        go_wp2_with fail
        have TF := ((E.out.set 0 (.slice B1 n1 m1)).set 1 (.slice B2 n2 m2)).set 2 (.slice B3 n3 m3)
        have e0 := TF.cell' (i := 0) rfl
        have e1 := TF.cell' (i := 1) rfl
        have e2 := TF.cell' (i := 2) rfl
        exact bodyPost_ret (v := .tuple #[.agg #[.slice B1 n1 m1, .slice B2 n2 m2, .slice B3 n3 m3], .int .i64 0]) (by simp only [results, Try.results38]; go_simp) rfl ⟨_, G, rfl, r.set3 ng _ _ _, set3 E.low (by omega) _ _ _⟩
end Go.Proofs.Ytnlfbobjopmfgaa
