/- Pages: DoStep of the reference, whose result lies in new memory. Conditions: none. -/
import Derived.Test.YtnlfbobjopmfgaaPgDo4
namespace Go.Proofs.Ytnlfbobjopmfgaa
open Go Go.RowKit

/-- A page to be read, in new memory, and a number. -/
def GivesPCF (r : PPage × Int) (w : World) (e : Ending) (w' : World) : Prop := ∃ v F, e = .returned (.tuple #[v, .int .i64 r.2]) ∧ PageIs 57 46 false w' r.1 v F ∧ (∀ x ∈ F, w.heap.size ≤ x) ∧ Below w.heap.size w w'
set_option maxRecDepth 100000 in
set_option maxHeartbeats 2000000 in
theorem spec_DoStepF_c {el es : TypeId} {o : Bool} {p : PPage} {v : Value} {F : List Nat} (s : PStep) (w : World) (h : PageIs el es o w p v F) (hp : PLaw p) (hs : pStepOk s) (hsw : s.word.size ≤ 1048576) :
    Calls Try.prog 33 #[v, .agg #[.int .i64 s.kind, .int .i64 s.line, .int .i64 s.pos, .string s.word, .string s.old]] w (GivesPCF (doStepR p s) w) := by
  obtain ⟨A1, k1, A2, k2, A3, k3, rfl⟩ := h.shape
  obtain ⟨F1, F2, F3, P⟩ := PParts.new h
  clear h
  have HV := Lib.hid (fun w' (q : PParts el es o p (.slice A1 p.lines.length k1) (.slice A2 p.done.length k2) (.slice A3 p.undone.length k3) F1 F2 F3 w.heap.size w') => spec_l27Ok_c w' q.row q.h1 q.h2 q.h3 hp.s hp.b)
  have HC := Lib.hid (fun w' (q : (pLines el).rep o w' p.lines [.slice A1 p.lines.length k1] F1) (g : Row w' (w.heap.size + 1) 46 (pStepCells s)) => spec_l27Possible_c s w' q hp.s.l hp.s.w hs hsw g)
  cases hv : validB p
  · have hr : doStepR p s = (nilPage, 1) := by simp [doStepR, hv]
    rw [hr]
    clear hr HC
    go_enter Try.func33, Try.ntmps33
    go_wp2_with fail
    refine (HV.out _ ((P.alloc _).alloc _)).mono ?_
    rintro e w1 ⟨rfl, b1⟩
    have c1 := al3m b1
    have RO := (Row.at' _ 25 [.slice none 0 0, .slice none 0 0, .slice none 0 0] (n := w.heap.size + 1 + 1) (by simp)).later b1
    have o0 := RO.cell' (i := 0) rfl
    have o1 := RO.cell' (i := 1) rfl
    have o2 := RO.cell' (i := 2) rfl
    have of := RO.frozen
    go_wp2_with fail
    (have TF := ((RO.set 0 (.slice none 0 0)).set 1 (.slice none 0 0)).set 2 (.slice none 0 0); have e0 := TF.cell' (i := 0) rfl; have e1 := TF.cell' (i := 1) rfl; have e2 := TF.cell' (i := 2) rfl; exact bodyPost_ret (v := .tuple #[.agg #[.slice none 0 0, .slice none 0 0, .slice none 0 0], .int .i64 1]) (by simp only [results, Try.results33]; go_simp) rfl ⟨_, [], rfl, nilPage_is _ _ _ _, by simp, set3 c1 (by omega) _ _ _⟩)
  · obtain ⟨hok, hd, -, -, -⟩ := validB_parts hv
    cases hc : canB p.lines s
    · have hr : doStepR p s = (nilPage, 6) := by simp [doStepR, hv, hc]
      rw [hr]
      clear hr
      go_enter Try.func33, Try.ntmps33
      go_wp2_with fail
      refine (HV.out _ ((P.alloc _).alloc _)).mono ?_
      rintro e w1 ⟨rfl, b1⟩
      have P1 := ((P.alloc _).alloc _).below b1
      have RS := ((Row.at' _ 46 (pStepCells s) (n := w.heap.size + 1) (by simp)).alloc _).later b1
      have RO := (Row.at' _ 25 [.slice none 0 0, .slice none 0 0, .slice none 0 0] (n := w.heap.size + 1 + 1) (by simp)).later b1
      have p0 := P1.row.cell' (i := 0) rfl
      go_wp2_with fail
      refine (HC.out _ P1.h1 RS).mono ?_
      rintro e w2 ⟨rfl, b2⟩
      have c2 := bt (al3m b1) b2
      clear p0
      have RO2 := RO.later b2
      have o0 := RO2.cell' (i := 0) rfl
      have o1 := RO2.cell' (i := 1) rfl
      have o2 := RO2.cell' (i := 2) rfl
      have of := RO2.frozen
      go_wp2_with fail
      (have TF := ((RO2.set 0 (.slice none 0 0)).set 1 (.slice none 0 0)).set 2 (.slice none 0 0); have e0 := TF.cell' (i := 0) rfl; have e1 := TF.cell' (i := 1) rfl; have e2 := TF.cell' (i := 2) rfl; exact bodyPost_ret (v := .tuple #[.agg #[.slice none 0 0, .slice none 0 0, .slice none 0 0], .int .i64 6]) (by simp only [results, Try.results33]; go_simp) rfl ⟨_, [], rfl, nilPage_is _ _ _ _, by simp, set3 c2 (by omega) _ _ _⟩)
    · have hr : doStepR p s = (doP p s, 0) := by simp [doStepR, hv, hc]
      rw [hr]
      clear hr
      have HD := Lib.hid (fun w' (q : PParts el es o p (.slice A1 p.lines.length k1) (.slice A2 p.done.length k2) (.slice A3 p.undone.length k3) F1 F2 F3 w.heap.size w') (g : Row w' (w.heap.size + 1) 46 (pStepCells s)) => spec_l27Do_c s w' q.row g q.h1 q.h2 hok ((can_iff _ s).1 hc) hs (by omega))
      generalize hq : doP p s = q at HD
      go_enter Try.func33, Try.ntmps33
      go_wp2_with fail
      refine (HV.out _ ((P.alloc _).alloc _)).mono ?_
      rintro e w1 ⟨rfl, b1⟩
      have P1 := ((P.alloc _).alloc _).below b1
      have RS := ((Row.at' _ 46 (pStepCells s) (n := w.heap.size + 1) (by simp)).alloc _).later b1
      have RO := (Row.at' _ 25 [.slice none 0 0, .slice none 0 0, .slice none 0 0] (n := w.heap.size + 1 + 1) (by simp)).later b1
      have p0 := P1.row.cell' (i := 0) rfl
      go_wp2_with fail
      refine (HC.out _ P1.h1 RS).mono ?_
      rintro e w2 ⟨rfl, b2⟩
      have c2 := bt (al3m b1) b2
      clear p0
      go_wp2_with fail
      refine (HD.out _ (P1.below b2) (RS.later b2)).mono ?_
      rintro e w3 ⟨u, G, rfl, r, fr, b3⟩
      have c3 := bt c2 b3
      have RO3 := (RO.later b2).later b3
      have o0 := RO3.cell' (i := 0) rfl
      have o1 := RO3.cell' (i := 1) rfl
      have o2 := RO3.cell' (i := 2) rfl
      have of := RO3.frozen
      obtain ⟨B1, n1, m1, B2, n2, m2, B3, n3, m3, rfl⟩ := r.form
      have l2 := RO.lt
      have z2 := b2.size
      have z := c2.size
      have ng : w.heap.size + 1 + 1 ∉ G := fun hx => by have := fr _ hx; omega
      go_wp2_with fail
      have TF := ((RO3.set 0 (.slice B1 n1 m1)).set 1 (.slice B2 n2 m2)).set 2 (.slice B3 n3 m3)
      have e0 := TF.cell' (i := 0) rfl
      have e1 := TF.cell' (i := 1) rfl
      have e2 := TF.cell' (i := 2) rfl
      exact bodyPost_ret (v := .tuple #[.agg #[.slice B1 n1 m1, .slice B2 n2 m2, .slice B3 n3 m3], .int .i64 0]) (by simp only [results, Try.results33]; go_simp) rfl ⟨_, G, rfl, r.set3 ng _ _ _, fun x hx => Nat.le_trans z (fr x hx), set3 c3 (by omega) _ _ _⟩
theorem Row.far3 {w : World} {g t : Nat} {e : TypeId} {cs : List Value} (R : Row w g e cs) (h : g ≠ t) (a b c : Value) : Row (((w.setCell ⟨t, 0, none⟩ a).setCell ⟨t, 1, none⟩ b).setCell ⟨t, 2, none⟩ c) g e cs := ((R.far (p := ⟨t, 0, none⟩) h a).far (p := ⟨t, 1, none⟩) h b).far (p := ⟨t, 2, none⟩) h c
theorem Row.put3 {w : World} {t : Nat} {e : TypeId} {x y z : Value} (R : Row w t e [x, y, z]) (a b c : Value) : Row (((w.setCell ⟨t, 0, none⟩ a).setCell ⟨t, 1, none⟩ b).setCell ⟨t, 2, none⟩ c) t e [a, b, c] := ((R.set 0 a).set 1 b).set 2 c
end Go.Proofs.Ytnlfbobjopmfgaa
