/- Pages: ReplaceWord, in the program and in the reference. Conditions: none. -/
import Derived.Test.YtnlfbobjopmfgaaPgEd
namespace Go.Proofs.Ytnlfbobjopmfgaa
open Go Go.RowKit

set_option maxRecDepth 100000 in
set_option maxHeartbeats 4000000 in
theorem impl_ReplaceWord_c {el es : TypeId} {o : Bool} {p : PPage} {v : Value} {F : List Nat} (n a : Int) (wd : ByteArray) (w : World) (h : PageIs el es o w p v F) (hp : PLaw p) (hn : I64 n) (ha : I64 a) (hw : wd.size ≤ 1048576) :
    Calls Try.prog 41 #[v, .int .i64 n, .int .i64 a, .string wd] w (GivesPC (replaceR p n a wd) w) := by
  obtain ⟨A1, k1, A2, k2, A3, k3, rfl⟩ := h.shape
  have E := EdIs.new h
  have hF := h.blocks
  clear h
  generalize hR : replaceR p n a wd = R
  have HV := Lib.hid (fun w' (q : PageIs el es o w' p (.agg #[.slice A1 p.lines.length k1, .slice A2 p.done.length k2, .slice A3 p.undone.length k3]) F) => impl_ValidPage_c w' q hp.s hp.b)
  have HN := Lib.hid (fun w' (q : PageIs el es o w' p (.agg #[.slice A1 p.lines.length k1, .slice A2 p.done.length k2, .slice A3 p.undone.length k3]) F) => impl_countWords_c n hn w' q hp.s.l)
  have cr := countW_range hp n
  have kw : IntKind.i64.wrap (countW p n - 1) = countW p n - 1 := IntWalk.i64_in _ (by omega)
  go_enter Try.func41, Try.ntmps41
  go_wp2_with fail
  refine (HV.out _ E.pg).mono ?_
  rintro e w1 ⟨rfl, b1⟩
  replace E := E.later b1
  obtain ⟨p0, p1, p2, o0, o1, o2, of⟩ := E.facts
  cases hv : validB p
  · have hr : R = (nilPage, 1) := by rw [← hR]; simp [replaceR, hv]
    subst hr
    clear hR
    go_wp2_with fail
    (have TF := ((E.out.set 0 (.slice none 0 0)).set 1 (.slice none 0 0)).set 2 (.slice none 0 0); have e0 := TF.cell' (i := 0) rfl; have e1 := TF.cell' (i := 1) rfl; have e2 := TF.cell' (i := 2) rfl; exact bodyPost_ret (v := .tuple #[.agg #[.slice none 0 0, .slice none 0 0, .slice none 0 0], .int .i64 1]) (by simp only [results, Try.results41]; go_simp) rfl ⟨_, [], rfl, nilPage_is _ _ _ _, ⟨by simp, by simp⟩, set3 E.low (by omega) _ _ _⟩)
  · skip
    go_wp2_with fail
    refine (impl_IsWord_c wd hw _).mono ?_
    rintro e w2 ⟨rfl, b2⟩
    replace E := E.later b2
    clear p0 p1 p2 o0 o1 o2 of
    obtain ⟨p0, p1, p2, o0, o1, o2, of⟩ := E.facts
    cases hwd : isWordB wd
    · have hr : R = (nilPage, 7) := by rw [← hR]; simp [replaceR, hv, hwd]
      subst hr
      clear hR
      go_wp2_with fail
      (have TF := ((E.out.set 0 (.slice none 0 0)).set 1 (.slice none 0 0)).set 2 (.slice none 0 0); have e0 := TF.cell' (i := 0) rfl; have e1 := TF.cell' (i := 1) rfl; have e2 := TF.cell' (i := 2) rfl; exact bodyPost_ret (v := .tuple #[.agg #[.slice none 0 0, .slice none 0 0, .slice none 0 0], .int .i64 7]) (by simp only [results, Try.results41]; go_simp) rfl ⟨_, [], rfl, nilPage_is _ _ _ _, ⟨by simp, by simp⟩, set3 E.low (by omega) _ _ _⟩)
    · skip
      go_wp2_with fail
      refine (HN.out _ E.pg).mono ?_
      rintro e w3 ⟨rfl, b3⟩
      replace E := E.later b3
      clear p0 p1 p2 o0 o1 o2 of
      obtain ⟨p0, p1, p2, o0, o1, o2, of⟩ := E.facts
      go_wp2_with fail
      refine (impl_within_c _ _ _ _).mono ?_
      rintro e w4 ⟨rfl, rfl⟩
      cases hi : inR a 0 (countW p n - 1)
      · have hr : R = (nilPage, 2) := by rw [← hR]; simp [replaceR, hv, hwd, hi]
        subst hr
        clear hR
        go_wp2_with fail
        (have TF := ((E.out.set 0 (.slice none 0 0)).set 1 (.slice none 0 0)).set 2 (.slice none 0 0); have e0 := TF.cell' (i := 0) rfl; have e1 := TF.cell' (i := 1) rfl; have e2 := TF.cell' (i := 2) rfl; exact bodyPost_ret (v := .tuple #[.agg #[.slice none 0 0, .slice none 0 0, .slice none 0 0], .int .i64 2]) (by simp only [results, Try.results41]; go_simp) rfl ⟨_, [], rfl, nilPage_is _ _ _ _, ⟨by simp, by simp⟩, set3 E.low (by omega) _ _ _⟩)
      · skip
        have hcan0 := rep_can hwd hi
        obtain ⟨g1, g2⟩ := (inR_iff _ _ _).1 hi
        obtain ⟨m1, m2, m3⟩ := countW_nonneg (p := p) (n := n) (by omega)
        obtain ⟨n, rfl⟩ := Int.eq_ofNat_of_zero_le m1
        have hln : n < p.lines.length := by omega
        rw [lineAt_nat hln] at m3
        obtain ⟨a, rfl⟩ := Int.eq_ofNat_of_zero_le g1
        have hal : a < p.lines[n].length := by omega
        obtain ⟨g, off, g', off', c', rfl, x1, x2, gl1, gl2, sz, cl1, cl2, fi1, fi2⟩ := E.pg.word hln hal
        have gf1 := hF _ fi1
        have gf2 := hF _ fi2
        have gx1 : g ≠ w.heap.size + 1 := by omega
        have gx2 : g' ≠ w.heap.size + 1 := by omega
        have t1 : (n : Int) < (p.lines.length : Int) := by omega
        have t2 : (a : Int) < (p.lines[n].length : Int) := by omega
        have HL : Hid ((lineAt p.lines (n : Int)).getD (a : Int).toNat .empty = p.lines[n][a]) := by show _ = _; rw [lineAt_nat hln]; simp [hal]
        rw [HL.out] at hcan0
        have hr : R = (doP p ⟨3, (n : Int), (a : Int), wd, p.lines[n][a]⟩, 0) := by rw [← hR]; have e1 := HL.out; simp only [replaceR, hv, hwd, hi] at *; simp only [e1]; simp
        clear hR
        have hcan : canB p.lines ⟨3, (n : Int), (a : Int), wd, p.lines[n][a]⟩ = true := hcan0
        have hstep : pStepOk ⟨3, (n : Int), (a : Int), wd, p.lines[n][a]⟩ := ⟨i64_small ⟨by simp, by simp⟩, hn, ha, size_small hw, sz⟩
        have HD := Lib.hid (fun w' (q : PageIs el es o w' p (.agg #[.slice (some ⟨g, off, none⟩) p.lines.length k1, .slice A2 p.done.length k2, .slice A3 p.undone.length k3]) F) => ed_doStep q hv ⟨3, (n : Int), (a : Int), wd, p.lines[n][a]⟩ hcan hstep)
        obtain ⟨q, hq⟩ : ∃ q, q = doP p ⟨3, (n : Int), (a : Int), wd, p.lines[n][a]⟩ := ⟨_, rfl⟩
        rw [← hq] at hr HD
        subst hr
        have lo := E.out.lt
        have ng : w.heap.size ≠ w.heap.size + 1 := by omega
        go_wp2_with fail
        go_region_held3 (fun w' => w'.cell? ⟨w.heap.size, 0, none⟩ = some (.slice (some ⟨g, off, none⟩) p.lines.length k1) ∧ w'.cell? ⟨w.heap.size, 1, none⟩ = some (.slice A2 p.done.length k2) ∧ w'.cell? ⟨w.heap.size, 2, none⟩ = some (.slice A3 p.undone.length k3) ∧ w'.cell? ⟨g, off + n, none⟩ = some (.slice (some ⟨g', off', none⟩) p.lines[n].length c') ∧ w'.cell? ⟨g', off' + a, none⟩ = some (.string p.lines[n][a])) (first | exact ⟨p0, p1, p2, x1, x2⟩ | exact ⟨y0, y1, y2, z1, z2⟩ | exact ⟨keep_set3 ng y0, keep_set3 ng y1, keep_set3 ng y2, keep_set3 gx1 z1, keep_set3 gx2 z2⟩) (first | (go_at_call 80; refine (HD.out _ E.drew.pg).mono ?_; rintro e w8 ⟨u, G, rfl, r, fr, b8⟩; replace E := E.drew.later b8; clear o0 o1 o2 of; obtain ⟨y0, y1, y2, o0, o1, o2, of⟩ := E.facts; have z1 := keep_below b8 (by simpa using gl1) (by simpa using x1); have z2 := keep_below b8 (by simpa using gl2) (by simpa using x2); obtain ⟨B1, n1, m1, B2, n2, m2, B3, n3, m3, rfl⟩ := r.form))
        have ng : w.heap.size + 1 ∉ G := fun hx => by have := fr.2 _ hx; simp at this; omega
        go_wp2_with fail
        have TF := ((E.out.set 0 (.slice B1 n1 m1)).set 1 (.slice B2 n2 m2)).set 2 (.slice B3 n3 m3)
        have e0 := TF.cell' (i := 0) rfl
        have e1 := TF.cell' (i := 1) rfl
        have e2 := TF.cell' (i := 2) rfl
        exact bodyPost_ret (v := .tuple #[.agg #[.slice B1 n1 m1, .slice B2 n2 m2, .slice B3 n3 m3], .int .i64 0]) (by simp only [results, Try.results41]; go_simp) rfl ⟨_, G, rfl, r.set3 ng _ _ _, fresh_mono fr (by first | omega | (simp; omega)), set3 E.low (by omega) _ _ _⟩
set_option maxRecDepth 100000 in
set_option maxHeartbeats 4000000 in
theorem spec_ReplaceWord_c {el es : TypeId} {o : Bool} {p : PPage} {v : Value} {F : List Nat} (n a : Int) (wd : ByteArray) (w : World) (h : PageIs el es o w p v F) (hp : PLaw p) (hn : I64 n) (ha : I64 a) (hw : wd.size ≤ 1048576) :
    Calls Try.prog 40 #[v, .int .i64 n, .int .i64 a, .string wd] w (GivesPCR (replaceR p n a wd) w) := by
  obtain ⟨A1, k1, A2, k2, A3, k3, rfl⟩ := h.shape
  have E := EdIs.new h
  have hF := h.blocks
  clear h
  generalize hR : replaceR p n a wd = R
  have HV := Lib.hid (fun w' (q : EdIs el es o p (.slice A1 p.lines.length k1) (.slice A2 p.done.length k2) (.slice A3 p.undone.length k3) F w w') => ed_l27Ok q hp)
  have HN := Lib.hid (fun w' (q : EdIs el es o p (.slice A1 p.lines.length k1) (.slice A2 p.done.length k2) (.slice A3 p.undone.length k3) F w w') => ed_l27Size q hp n hn)
  have cr := countW_range hp n
  have kw : IntKind.i64.wrap (countW p n - 1) = countW p n - 1 := IntWalk.i64_in _ (by omega)
  go_enter Try.func40, Try.ntmps40
  go_wp2_with fail
  refine (HV.out _ E).mono ?_
  rintro e w1 ⟨rfl, b1⟩
  replace E := E.later b1
  obtain ⟨p0, p1, p2, o0, o1, o2, of⟩ := E.facts
  cases hv : validB p
  · have hr : R = (nilPage, 1) := by rw [← hR]; simp [replaceR, hv]
    subst hr
    clear hR
    go_wp2_with fail
    (have TF := ((E.out.set 0 (.slice none 0 0)).set 1 (.slice none 0 0)).set 2 (.slice none 0 0); have e0 := TF.cell' (i := 0) rfl; have e1 := TF.cell' (i := 1) rfl; have e2 := TF.cell' (i := 2) rfl; exact bodyPost_ret (v := .tuple #[.agg #[.slice none 0 0, .slice none 0 0, .slice none 0 0], .int .i64 1]) (by simp only [results, Try.results40]; go_simp) rfl ⟨_, [], rfl, nilPage_is _ _ _ _, set3 E.low (by omega) _ _ _⟩)
  · skip
    go_wp2_with fail
    refine (spec_IsWord_c wd hw _).mono ?_
    rintro e w2 ⟨rfl, rfl⟩
    cases hwd : isWordB wd
    · have hr : R = (nilPage, 7) := by rw [← hR]; simp [replaceR, hv, hwd]
      subst hr
      clear hR
      go_wp2_with fail
      (have TF := ((E.out.set 0 (.slice none 0 0)).set 1 (.slice none 0 0)).set 2 (.slice none 0 0); have e0 := TF.cell' (i := 0) rfl; have e1 := TF.cell' (i := 1) rfl; have e2 := TF.cell' (i := 2) rfl; exact bodyPost_ret (v := .tuple #[.agg #[.slice none 0 0, .slice none 0 0, .slice none 0 0], .int .i64 7]) (by simp only [results, Try.results40]; go_simp) rfl ⟨_, [], rfl, nilPage_is _ _ _ _, set3 E.low (by omega) _ _ _⟩)
    · skip
      go_wp2_with fail
      refine (HN.out _ E).mono ?_
      rintro e w3 ⟨rfl, rfl⟩
      go_wp2_with fail
      refine (spec_l00In_c _ _ _ _).mono ?_
      rintro e w4 ⟨rfl, rfl⟩
      cases hi : inR a 0 (countW p n - 1)
      · have hr : R = (nilPage, 2) := by rw [← hR]; simp [replaceR, hv, hwd, hi]
        subst hr
        clear hR
        go_wp2_with fail
        (have TF := ((E.out.set 0 (.slice none 0 0)).set 1 (.slice none 0 0)).set 2 (.slice none 0 0); have e0 := TF.cell' (i := 0) rfl; have e1 := TF.cell' (i := 1) rfl; have e2 := TF.cell' (i := 2) rfl; exact bodyPost_ret (v := .tuple #[.agg #[.slice none 0 0, .slice none 0 0, .slice none 0 0], .int .i64 2]) (by simp only [results, Try.results40]; go_simp) rfl ⟨_, [], rfl, nilPage_is _ _ _ _, set3 E.low (by omega) _ _ _⟩)
      · skip
        have hcan0 := rep_can hwd hi
        obtain ⟨g1, g2⟩ := (inR_iff _ _ _).1 hi
        obtain ⟨m1, m2, m3⟩ := countW_nonneg (p := p) (n := n) (by omega)
        obtain ⟨n, rfl⟩ := Int.eq_ofNat_of_zero_le m1
        have hln : n < p.lines.length := by omega
        rw [lineAt_nat hln] at m3
        obtain ⟨a, rfl⟩ := Int.eq_ofNat_of_zero_le g1
        have hal : a < p.lines[n].length := by omega
        obtain ⟨g, off, g', off', c', rfl, x1, x2, gl1, gl2, sz, cl1, cl2, fi1, fi2⟩ := E.pg.word hln hal
        have gf1 := hF _ fi1
        have gf2 := hF _ fi2
        have gx1 : g ≠ w.heap.size + 1 := by omega
        have gx2 : g' ≠ w.heap.size + 1 := by omega
        have t1 : (n : Int) < (p.lines.length : Int) := by omega
        have t2 : (a : Int) < (p.lines[n].length : Int) := by omega
        have HL : Hid ((lineAt p.lines (n : Int)).getD (a : Int).toNat .empty = p.lines[n][a]) := by show _ = _; rw [lineAt_nat hln]; simp [hal]
        rw [HL.out] at hcan0
        have hr : R = (doP p ⟨3, (n : Int), (a : Int), wd, p.lines[n][a]⟩, 0) := by rw [← hR]; have e1 := HL.out; simp only [replaceR, hv, hwd, hi] at *; simp only [e1]; simp
        clear hR
        have hcan : canB p.lines ⟨3, (n : Int), (a : Int), wd, p.lines[n][a]⟩ = true := hcan0
        have hstep : pStepOk ⟨3, (n : Int), (a : Int), wd, p.lines[n][a]⟩ := ⟨i64_small ⟨by simp, by simp⟩, hn, ha, size_small hw, sz⟩
        have HD := Lib.hid (fun w' gs (q : EdIs el es o p (.slice (some ⟨g, off, none⟩) p.lines.length k1) (.slice A2 p.done.length k2) (.slice A3 p.undone.length k3) F w w') (g : Row w' gs 46 (pStepCells ⟨3, (n : Int), (a : Int), wd, p.lines[n][a]⟩)) => ed_l27Do q hv ⟨3, (n : Int), (a : Int), wd, p.lines[n][a]⟩ hcan hstep g)
        obtain ⟨q, hq⟩ : ∃ q, q = doP p ⟨3, (n : Int), (a : Int), wd, p.lines[n][a]⟩ := ⟨_, rfl⟩
        rw [← hq] at hr HD
        subst hr
        have lo := E.out.lt
        go_wp2_with fail
        refine (HD.out _ _ (E.alloc _) (Row.at' _ _ (pStepCells _) rfl)).mono ?_
        rintro e w8 ⟨u, G, rfl, r, fr, b8⟩
        replace E := (E.alloc _).later b8
        clear p0 p1 p2 o0 o1 o2 of
        obtain ⟨p0, p1, p2, o0, o1, o2, of⟩ := E.facts
        obtain ⟨B1, n1, m1, B2, n2, m2, B3, n3, m3, rfl⟩ := r.form
        have ng : w.heap.size + 1 ∉ G := fun hx => by have := fr _ hx; simp at this; omega
        go_wp2_with fail
        have TF := ((E.out.set 0 (.slice B1 n1 m1)).set 1 (.slice B2 n2 m2)).set 2 (.slice B3 n3 m3)
        have e0 := TF.cell' (i := 0) rfl
        have e1 := TF.cell' (i := 1) rfl
        have e2 := TF.cell' (i := 2) rfl
        exact bodyPost_ret (v := .tuple #[.agg #[.slice B1 n1 m1, .slice B2 n2 m2, .slice B3 n3 m3], .int .i64 0]) (by simp only [results, Try.results40]; go_simp) rfl ⟨_, G, rfl, r.set3 ng _ _ _, set3 E.low (by omega) _ _ _⟩
end Go.Proofs.Ytnlfbobjopmfgaa
