/- Pages: JoinLine, in the program and in the reference. Conditions: none. -/
import Derived.Test.YtnlfbobjopmfgaaPgEd
namespace Go.Proofs.Ytnlfbobjopmfgaa
open Go Go.RowKit

set_option maxRecDepth 100000 in
set_option maxHeartbeats 4000000 in
theorem impl_JoinLine_c {el es : TypeId} {o : Bool} {p : PPage} {v : Value} {F : List Nat} (n : Int) (w : World) (h : PageIs el es o w p v F) (hp : PLaw p) (hn : I64 n) :
    Calls Try.prog 43 #[v, .int .i64 n] w (GivesPC (joinR p n) w) := by
  obtain ⟨A1, k1, A2, k2, A3, k3, rfl⟩ := h.shape
  have E := EdIs.new h
  have hF := h.blocks
  clear h
  generalize hR : joinR p n = R
  have HV := Lib.hid (fun w' (q : PageIs el es o w' p (.agg #[.slice A1 p.lines.length k1, .slice A2 p.done.length k2, .slice A3 p.undone.length k3]) F) => impl_ValidPage_c w' q hp.s hp.b)
  have HN := Lib.hid (fun w' (x m : Int) (hx : x = m) (hm : I64 m) (q : PageIs el es o w' p (.agg #[.slice A1 p.lines.length k1, .slice A2 p.done.length k2, .slice A3 p.undone.length k3]) F) => countWords_at hx hm w' q hp.s.l)
  have cr := countW_range hp n
  obtain ⟨m, hm⟩ : ∃ m, n + 1 = m := ⟨_, rfl⟩
  have cr2 := countW_range hp m
  have hl := hp.s.l
  have kw : IntKind.i64.wrap ((p.lines.length : Int) - 2) = (p.lines.length : Int) - 2 := IntWalk.i64_in _ (by omega)
  have kw2 : IntKind.i64.wrap (countW p n + countW p m) = countW p n + countW p m := IntWalk.i64_in _ (by omega)
  go_enter Try.func43, Try.ntmps43
  go_wp2_with fail
  refine (HV.out _ E.pg).mono ?_
  rintro e w1 ⟨rfl, b1⟩
  replace E := E.later b1
  obtain ⟨p0, p1, p2, o0, o1, o2, of⟩ := E.facts
  cases hv : validB p
  · have hr : R = (nilPage, 1) := by rw [← hR]; simp [joinR, hv]
    subst hr
    clear hR
    go_wp2_with fail
    (have TF := ((E.out.set 0 (.slice none 0 0)).set 1 (.slice none 0 0)).set 2 (.slice none 0 0); have e0 := TF.cell' (i := 0) rfl; have e1 := TF.cell' (i := 1) rfl; have e2 := TF.cell' (i := 2) rfl; exact bodyPost_ret (v := .tuple #[.agg #[.slice none 0 0, .slice none 0 0, .slice none 0 0], .int .i64 1]) (by simp only [results, Try.results43]; go_simp) rfl ⟨_, [], rfl, nilPage_is _ _ _ _, ⟨by simp, by simp⟩, set3 E.low (by omega) _ _ _⟩)
  · skip
    go_wp2_with fail
    refine (impl_within_c _ _ _ _).mono ?_
    rintro e w2 ⟨rfl, rfl⟩
    cases hi : inR n 0 ((p.lines.length : Int) - 2)
    · have hr : R = (nilPage, 2) := by rw [← hR]; simp [joinR, hv, hi]
      subst hr
      clear hR
      go_wp2_with fail
      (have TF := ((E.out.set 0 (.slice none 0 0)).set 1 (.slice none 0 0)).set 2 (.slice none 0 0); have e0 := TF.cell' (i := 0) rfl; have e1 := TF.cell' (i := 1) rfl; have e2 := TF.cell' (i := 2) rfl; exact bodyPost_ret (v := .tuple #[.agg #[.slice none 0 0, .slice none 0 0, .slice none 0 0], .int .i64 2]) (by simp only [results, Try.results43]; go_simp) rfl ⟨_, [], rfl, nilPage_is _ _ _ _, ⟨by simp, by simp⟩, set3 E.low (by omega) _ _ _⟩)
    · skip
      obtain ⟨g1, g2⟩ := (inR_iff _ _ _).1 hi
      have kw3 : IntKind.i64.wrap (n + 1) = m := (IntWalk.i64_in _ (by omega)).trans hm
      have kw4 : IntKind.i64.wrap m = m := IntWalk.i64_in _ (by omega)
      have hn1 : I64 m := ⟨by omega, by omega⟩
      go_wp2_with fail
      go_region_held3 (fun w' => w'.cell? ⟨w.heap.size, 0, none⟩ = some (.slice A1 p.lines.length k1) ∧ w'.cell? ⟨w.heap.size, 1, none⟩ = some (.slice A2 p.done.length k2) ∧ w'.cell? ⟨w.heap.size, 2, none⟩ = some (.slice A3 p.undone.length k3)) (first | exact ⟨z0, z1, z2⟩ | exact ⟨y0, y1, y2⟩ | exact ⟨p0, p1, p2⟩) (first | (have hy := y3; clear hy; go_at_call 84; refine (HN.out _ m m rfl hn1 E5.pg).mono ?_; rintro e w6 ⟨rfl, b6⟩; have E6 := E5.later b6; obtain ⟨z0, z1, z2, z3⟩ := E6.facts) | (go_at_call 84; refine (HN.out _ _ n rfl hn E.drew.pg).mono ?_; rintro e w5 ⟨rfl, b5⟩; have E5 := E.drew.later b5; obtain ⟨y0, y1, y2, y3⟩ := E5.facts))
      replace E := E6
      clear E5 E6 y0 y1 y2 y3 z0 z1 z2 z3
      clear p0 p1 p2 o0 o1 o2 of
      obtain ⟨p0, p1, p2, o0, o1, o2, of⟩ := E.facts
      rcases Classical.em (12 < countW p n + countW p m) with h12 | h12
      · have hr : R = (nilPage, 5) := by rw [← hR]; simp [joinR, hv, hi, hm, h12]
        subst hr
        clear hR
        go_wp2_with fail
        (have TF := ((E.out.set 0 (.slice none 0 0)).set 1 (.slice none 0 0)).set 2 (.slice none 0 0); have e0 := TF.cell' (i := 0) rfl; have e1 := TF.cell' (i := 1) rfl; have e2 := TF.cell' (i := 2) rfl; exact bodyPost_ret (v := .tuple #[.agg #[.slice none 0 0, .slice none 0 0, .slice none 0 0], .int .i64 5]) (by simp only [results, Try.results43]; go_simp) rfl ⟨_, [], rfl, nilPage_is _ _ _ _, ⟨by simp, by simp⟩, set3 E.low (by omega) _ _ _⟩)
      · skip
        have hr : R = (doP p ⟨5, n, countW p n, .empty, .empty⟩, 0) := by rw [← hR]; simp [joinR, hv, hi, hm, h12]
        clear hR
        have hcan : canB p.lines ⟨5, n, countW p n, .empty, .empty⟩ = true := join_can hi (by rw [hm]; exact h12)
        have hstep : pStepOk ⟨5, n, countW p n, .empty, .empty⟩ := ⟨i64_small ⟨by simp, by simp⟩, hn, ⟨by show _ ≤ countW p n; omega, by show countW p n ≤ _; omega⟩, empty_small, empty_small⟩
        have HD := Lib.hid (fun w' (q : PageIs el es o w' p (.agg #[.slice A1 p.lines.length k1, .slice A2 p.done.length k2, .slice A3 p.undone.length k3]) F) => ed_doStep q hv ⟨5, n, countW p n, .empty, .empty⟩ hcan hstep)
        obtain ⟨q, hq⟩ : ∃ q, q = doP p ⟨5, n, countW p n, .empty, .empty⟩ := ⟨_, rfl⟩
        rw [← hq] at hr HD
        subst hr
        have lo := E.out.lt
        go_wp2_with fail
        refine (HD.out _ E.pg).mono ?_
        rintro e w8 ⟨u, G, rfl, r, fr, b8⟩
        replace E := E.later b8
        clear p0 p1 p2 o0 o1 o2 of
        obtain ⟨p0, p1, p2, o0, o1, o2, of⟩ := E.facts
        obtain ⟨B1, n1, m1, B2, n2, m2, B3, n3, m3, rfl⟩ := r.form
        have ng : w.heap.size + 1 ∉ G := fun hx => by have := fr.2 _ hx; omega
        go_wp2_with fail
        have TF := ((E.out.set 0 (.slice B1 n1 m1)).set 1 (.slice B2 n2 m2)).set 2 (.slice B3 n3 m3)
        have e0 := TF.cell' (i := 0) rfl
        have e1 := TF.cell' (i := 1) rfl
        have e2 := TF.cell' (i := 2) rfl
        exact bodyPost_ret (v := .tuple #[.agg #[.slice B1 n1 m1, .slice B2 n2 m2, .slice B3 n3 m3], .int .i64 0]) (by simp only [results, Try.results43]; go_simp) rfl ⟨_, G, rfl, r.set3 ng _ _ _, fresh_mono fr (by first | omega | (simp; omega)), set3 E.low (by omega) _ _ _⟩
set_option maxRecDepth 100000 in
set_option maxHeartbeats 4000000 in
theorem spec_JoinLine_c {el es : TypeId} {o : Bool} {p : PPage} {v : Value} {F : List Nat} (n : Int) (w : World) (h : PageIs el es o w p v F) (hp : PLaw p) (hn : I64 n) :
    Calls Try.prog 42 #[v, .int .i64 n] w (GivesPCR (joinR p n) w) := by
  obtain ⟨A1, k1, A2, k2, A3, k3, rfl⟩ := h.shape
  have E := EdIs.new h
  have hF := h.blocks
  clear h
  generalize hR : joinR p n = R
  have HV := Lib.hid (fun w' (q : EdIs el es o p (.slice A1 p.lines.length k1) (.slice A2 p.done.length k2) (.slice A3 p.undone.length k3) F w w') => ed_l27Ok q hp)
  have HN := Lib.hid (fun w' (m : Int) (hm : I64 m) (q : EdIs el es o p (.slice A1 p.lines.length k1) (.slice A2 p.done.length k2) (.slice A3 p.undone.length k3) F w w') => ed_l27Size q hp m hm)
  have cr := countW_range hp n
  obtain ⟨m, hm⟩ : ∃ m, n + 1 = m := ⟨_, rfl⟩
  have cr2 := countW_range hp m
  have hl := hp.s.l
  have kw : IntKind.i64.wrap ((p.lines.length : Int) - 2) = (p.lines.length : Int) - 2 := IntWalk.i64_in _ (by omega)
  have kw2 : IntKind.i64.wrap (countW p n + countW p m) = countW p n + countW p m := IntWalk.i64_in _ (by omega)
  go_enter Try.func42, Try.ntmps42
  go_wp2_with fail
  refine (HV.out _ E).mono ?_
  rintro e w1 ⟨rfl, b1⟩
  replace E := E.later b1
  obtain ⟨p0, p1, p2, o0, o1, o2, of⟩ := E.facts
  cases hv : validB p
  · have hr : R = (nilPage, 1) := by rw [← hR]; simp [joinR, hv]
    subst hr
    clear hR
    go_wp2_with fail
    (have TF := ((E.out.set 0 (.slice none 0 0)).set 1 (.slice none 0 0)).set 2 (.slice none 0 0); have e0 := TF.cell' (i := 0) rfl; have e1 := TF.cell' (i := 1) rfl; have e2 := TF.cell' (i := 2) rfl; exact bodyPost_ret (v := .tuple #[.agg #[.slice none 0 0, .slice none 0 0, .slice none 0 0], .int .i64 1]) (by simp only [results, Try.results42]; go_simp) rfl ⟨_, [], rfl, nilPage_is _ _ _ _, set3 E.low (by omega) _ _ _⟩)
  · skip
    go_wp2_with fail
    refine (spec_l00In_c _ _ _ _).mono ?_
    rintro e w2 ⟨rfl, rfl⟩
    cases hi : inR n 0 ((p.lines.length : Int) - 2)
    · have hr : R = (nilPage, 2) := by rw [← hR]; simp [joinR, hv, hi]
      subst hr
      clear hR
      go_wp2_with fail
      (have TF := ((E.out.set 0 (.slice none 0 0)).set 1 (.slice none 0 0)).set 2 (.slice none 0 0); have e0 := TF.cell' (i := 0) rfl; have e1 := TF.cell' (i := 1) rfl; have e2 := TF.cell' (i := 2) rfl; exact bodyPost_ret (v := .tuple #[.agg #[.slice none 0 0, .slice none 0 0, .slice none 0 0], .int .i64 2]) (by simp only [results, Try.results42]; go_simp) rfl ⟨_, [], rfl, nilPage_is _ _ _ _, set3 E.low (by omega) _ _ _⟩)
    · skip
      obtain ⟨g1, g2⟩ := (inR_iff _ _ _).1 hi
      have kw3 : IntKind.i64.wrap (n + 1) = m := (IntWalk.i64_in _ (by omega)).trans hm
      have kw4 : IntKind.i64.wrap m = m := IntWalk.i64_in _ (by omega)
      have hn1 : I64 m := ⟨by omega, by omega⟩
      go_wp2_with fail
      refine (HN.out _ n hn E).mono ?_
      rintro e w3 ⟨rfl, rfl⟩
      go_wp2_with fail
      refine (HN.out _ m hn1 E).mono ?_
      rintro e w4 ⟨rfl, rfl⟩
      rcases Classical.em (12 < countW p n + countW p m) with h12 | h12
      · have hr : R = (nilPage, 5) := by rw [← hR]; simp [joinR, hv, hi, hm, h12]
        subst hr
        clear hR
        go_wp2_with fail
        (have TF := ((E.out.set 0 (.slice none 0 0)).set 1 (.slice none 0 0)).set 2 (.slice none 0 0); have e0 := TF.cell' (i := 0) rfl; have e1 := TF.cell' (i := 1) rfl; have e2 := TF.cell' (i := 2) rfl; exact bodyPost_ret (v := .tuple #[.agg #[.slice none 0 0, .slice none 0 0, .slice none 0 0], .int .i64 5]) (by simp only [results, Try.results42]; go_simp) rfl ⟨_, [], rfl, nilPage_is _ _ _ _, set3 E.low (by omega) _ _ _⟩)
      · skip
        have hr : R = (doP p ⟨5, n, countW p n, .empty, .empty⟩, 0) := by rw [← hR]; simp [joinR, hv, hi, hm, h12]
        clear hR
        have hcan : canB p.lines ⟨5, n, countW p n, .empty, .empty⟩ = true := join_can hi (by rw [hm]; exact h12)
        have hstep : pStepOk ⟨5, n, countW p n, .empty, .empty⟩ := ⟨i64_small ⟨by simp, by simp⟩, hn, ⟨by show _ ≤ countW p n; omega, by show countW p n ≤ _; omega⟩, empty_small, empty_small⟩
        have HD := Lib.hid (fun w' gs (q : EdIs el es o p (.slice A1 p.lines.length k1) (.slice A2 p.done.length k2) (.slice A3 p.undone.length k3) F w w') (g : Row w' gs 46 (pStepCells ⟨5, n, countW p n, .empty, .empty⟩)) => ed_l27Do q hv ⟨5, n, countW p n, .empty, .empty⟩ hcan hstep g)
        obtain ⟨q, hq⟩ : ∃ q, q = doP p ⟨5, n, countW p n, .empty, .empty⟩ := ⟨_, rfl⟩
        rw [← hq] at hr HD
        subst hr
        have lo := E.out.lt
        go_wp2_with fail
        refine (HD.out _ _ (E.alloc _) (Row.at' _ _ (pStepCells _) rfl)).mono ?_
        rintro e w8 ⟨u, G, rfl, r, fr, b8⟩
        replace E := (E.alloc _).later b8
        clear p0 p1 p2 o0 o1 o2 of
        obtain ⟨p0, p1, p2, o0, o1, o2, of⟩ := E.facts
        obtain ⟨B1, n1, m1, B2, n2, m2, B3, n3, m3, rfl⟩ := r.form
        have ng : w.heap.size + 1 ∉ G := fun hx => by have := fr _ hx; simp at this; omega
        go_wp2_with fail
        have TF := ((E.out.set 0 (.slice B1 n1 m1)).set 1 (.slice B2 n2 m2)).set 2 (.slice B3 n3 m3)
        have e0 := TF.cell' (i := 0) rfl
        have e1 := TF.cell' (i := 1) rfl
        have e2 := TF.cell' (i := 2) rfl
        exact bodyPost_ret (v := .tuple #[.agg #[.slice B1 n1 m1, .slice B2 n2 m2, .slice B3 n3 m3], .int .i64 0]) (by simp only [results, Try.results42]; go_simp) rfl ⟨_, G, rfl, r.set3 ng _ _ _, set3 E.low (by omega) _ _ _⟩
end Go.Proofs.Ytnlfbobjopmfgaa
