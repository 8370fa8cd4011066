/- The walk of the law FnExactDoStep. Conditions: none. -/
import Derived.Test.YtnlfbobjopmfgaaPgDo5
import Derived.Deep.Cut
import Derived.Deep.CutRange
namespace Go.Proofs.Ytnlfbobjopmfgaa
open Go Go.RowKit

theorem keepS {w : World} {g t : Nat} {a b c : Value} {e f : TypeId} {s : PStep} (R : Row w g e [a, b, c]) (T : Row w t f (pStepCells s)) : w.cell? ⟨g, 0, none⟩ = some a ∧ w.cell? ⟨g, 1, none⟩ = some b ∧ w.cell? ⟨g, 2, none⟩ = some c ∧ w.cell? ⟨t, 0, none⟩ = some (.int .i64 s.kind) ∧ w.cell? ⟨t, 1, none⟩ = some (.int .i64 s.line) ∧ w.cell? ⟨t, 2, none⟩ = some (.int .i64 s.pos) ∧ w.cell? ⟨t, 3, none⟩ = some (.string s.word) ∧ w.cell? ⟨t, 4, none⟩ = some (.string s.old) :=
  ⟨R.cell' (i := 0) rfl, R.cell' (i := 1) rfl, R.cell' (i := 2) rfl, T.cell' (i := 0) rfl, T.cell' (i := 1) rfl, T.cell' (i := 2) rfl, T.cell' (i := 3) rfl, T.cell' (i := 4) rfl⟩
theorem BoxT.of {w : World} {t : Nat} {f : TypeId} {s : PStep} (T : Row w t f (pStepCells s)) : w.cell? ⟨t, 0, none⟩ = some (.int .i64 s.kind) ∧ w.cell? ⟨t, 1, none⟩ = some (.int .i64 s.line) ∧ w.cell? ⟨t, 2, none⟩ = some (.int .i64 s.pos) ∧ w.cell? ⟨t, 3, none⟩ = some (.string s.word) ∧ w.cell? ⟨t, 4, none⟩ = some (.string s.old) :=
  ⟨T.cell' (i := 0) rfl, T.cell' (i := 1) rfl, T.cell' (i := 2) rfl, T.cell' (i := 3) rfl, T.cell' (i := 4) rfl⟩
/-- Inside the law: its two arguments, and that nothing old has changed. -/
structure LawIn (el es : TypeId) (p : PPage) (a b c : Value) (F : List Nat) (s : PStep) (w0 w : World) : Prop where
  row : Row w w0.heap.size 33 [a, b, c]
  step : Row w (w0.heap.size + 1) 43 (pStepCells s)
  pg : PageIs el es false w p (.agg #[a, b, c]) F
  old : ∀ x ∈ F, x < w0.heap.size
  low : Below w0.heap.size w0 w
section
variable {el es : TypeId} {p : PPage} {a b c : Value} {F : List Nat} {s : PStep} {w0 w w' : World}
theorem LawIn.later (h : LawIn el es p a b c F s w0 w) (hb : Below w.heap.size w w') : LawIn el es p a b c F s w0 w' := ⟨h.row.later hb, h.step.later hb, h.pg.below hb, h.old, bt h.low hb⟩
theorem LawIn.drew (h : LawIn el es p a b c F s w0 w) : LawIn el es p a b c F s w0 w.drew := ⟨h.row.drew, h.step.drew, h.pg.drew, h.old, h.low.drew⟩
theorem LawIn.alloc (h : LawIn el es p a b c F s w0 w) (x : Obj) : LawIn el es p a b c F s w0 (w.alloc x) := ⟨h.row.alloc x, h.step.alloc x, h.pg.alloc x, h.old, h.low.alloc h.low.size x⟩
theorem LawIn.far3 (h : LawIn el es p a b c F s w0 w) {t : Nat} (ht : w0.heap.size + 1 < t) (x y z : Value) : LawIn el es p a b c F s w0 (((w.setCell ⟨t, 0, none⟩ x).setCell ⟨t, 1, none⟩ y).setCell ⟨t, 2, none⟩ z) :=
  ⟨h.row.far3 (by omega) x y z, h.step.far3 (by omega) x y z, h.pg.set3 (fun hin => by have := h.old _ hin; omega) x y z, h.old, set3 h.low (by omega) x y z⟩
theorem LawIn.only {G : List Nat} (h : LawIn el es p a b c F s w0 w) (ho : Only G w w') (hG : ∀ x ∈ G, w0.heap.size + 1 < x) : LawIn el es p a b c F s w0 w' :=
  ⟨h.row.only ho (fun hin => by have := hG _ hin; omega), h.step.only ho (fun hin => by have := hG _ hin; omega), h.pg.only ho (fun x hx hin => by have := hG _ hin; have := h.old _ hx; omega), h.old, h.low.trans (ho.below h.low.size (fun x hx => by have := hG _ hx; omega))⟩
theorem LawIn.keep (h : LawIn el es p a b c F s w0 w) : w.cell? ⟨w0.heap.size, 0, none⟩ = some a ∧ w.cell? ⟨w0.heap.size, 1, none⟩ = some b ∧ w.cell? ⟨w0.heap.size, 2, none⟩ = some c ∧ w.cell? ⟨w0.heap.size + 1, 0, none⟩ = some (.int .i64 s.kind) ∧ w.cell? ⟨w0.heap.size + 1, 1, none⟩ = some (.int .i64 s.line) ∧ w.cell? ⟨w0.heap.size + 1, 2, none⟩ = some (.int .i64 s.pos) ∧ w.cell? ⟨w0.heap.size + 1, 3, none⟩ = some (.string s.word) ∧ w.cell? ⟨w0.heap.size + 1, 4, none⟩ = some (.string s.old) := keepS h.row h.step
end
/-- .. with the reference's answer and the first argument's copy. -/
structure LawIn2 (el es : TypeId) (p : PPage) (a b c : Value) (F : List Nat) (st : PStep) (gS : Nat) (S1 S2 S3 : Value) (q : PPage) (GS : List Nat) (gX : Nat) (X1 X2 X3 : Value) (p2 : PPage) (GX : List Nat) (w0 w : World) : Prop where
  L : LawIn el es p a b c F st w0 w
  RS : Row w gS 25 [S1, S2, S3]
  s : PageIs 57 46 false w q (.agg #[S1, S2, S3]) GS
  RX : Row w gX 25 [X1, X2, X3]
  x : PageIs 57 46 true w p2 (.agg #[X1, X2, X3]) GX
section
variable {el es : TypeId} {p q p2 : PPage} {a b c S1 S2 S3 X1 X2 X3 : Value} {F GS GX : List Nat} {st : PStep} {gS gX : Nat} {w0 w w' : World}
theorem LawIn2.later (h : LawIn2 el es p a b c F st gS S1 S2 S3 q GS gX X1 X2 X3 p2 GX w0 w) (hb : Below w.heap.size w w') : LawIn2 el es p a b c F st gS S1 S2 S3 q GS gX X1 X2 X3 p2 GX w0 w' := ⟨h.L.later hb, h.RS.later hb, h.s.below hb, h.RX.later hb, h.x.below hb⟩
theorem LawIn2.drew (h : LawIn2 el es p a b c F st gS S1 S2 S3 q GS gX X1 X2 X3 p2 GX w0 w) : LawIn2 el es p a b c F st gS S1 S2 S3 q GS gX X1 X2 X3 p2 GX w0 w.drew := ⟨h.L.drew, h.RS.drew, h.s.drew, h.RX.drew, h.x.drew⟩
theorem LawIn2.alloc (h : LawIn2 el es p a b c F st gS S1 S2 S3 q GS gX X1 X2 X3 p2 GX w0 w) (o : Obj) : LawIn2 el es p a b c F st gS S1 S2 S3 q GS gX X1 X2 X3 p2 GX w0 (w.alloc o) := ⟨h.L.alloc o, h.RS.alloc o, h.s.alloc o, h.RX.alloc o, h.x.alloc o⟩
theorem LawIn2.far3 (h : LawIn2 el es p a b c F st gS S1 S2 S3 q GS gX X1 X2 X3 p2 GX w0 w) {t : Nat} (ht : w0.heap.size + 1 < t) (h1 : gS < t) (h2 : gX < t) (h3 : ∀ b ∈ GS, b < t) (h4 : ∀ b ∈ GX, b < t) (x y z : Value) : LawIn2 el es p a b c F st gS S1 S2 S3 q GS gX X1 X2 X3 p2 GX w0 (((w.setCell ⟨t, 0, none⟩ x).setCell ⟨t, 1, none⟩ y).setCell ⟨t, 2, none⟩ z) :=
  ⟨h.L.far3 ht x y z, h.RS.far3 (by omega) x y z, h.s.set3 (fun hin => by have := h3 _ hin; omega) x y z, h.RX.far3 (by omega) x y z, h.x.set3 (fun hin => by have := h4 _ hin; omega) x y z⟩
theorem LawIn2.keep (h : LawIn2 el es p a b c F st gS S1 S2 S3 q GS gX X1 X2 X3 p2 GX w0 w) : w.cell? ⟨gX, 0, none⟩ = some X1 ∧ w.cell? ⟨gX, 1, none⟩ = some X2 ∧ w.cell? ⟨gX, 2, none⟩ = some X3 ∧ w.cell? ⟨w0.heap.size + 1, 0, none⟩ = some (.int .i64 st.kind) ∧ w.cell? ⟨w0.heap.size + 1, 1, none⟩ = some (.int .i64 st.line) ∧ w.cell? ⟨w0.heap.size + 1, 2, none⟩ = some (.int .i64 st.pos) ∧ w.cell? ⟨w0.heap.size + 1, 3, none⟩ = some (.string st.word) ∧ w.cell? ⟨w0.heap.size + 1, 4, none⟩ = some (.string st.old) := keepS h.RX h.L.step
end
set_option maxRecDepth 100000 in
set_option maxHeartbeats 20000000 in
theorem law_DoStep {el es : TypeId} {p : PPage} {v : Value} {F : List Nat} {s' : PStep} {cs : List Value} {H0 : List Nat} (w : World) (h : PageIs el es false w p v F) (hS : pStep.rep false w s' cs H0) :
    Calls Try.prog 9 #[v, .agg cs.toArray] w fun e w' => e = .returned (.bool true) ∧ Below w.heap.size w w' := by
  obtain ⟨rfl, rfl, hso⟩ := pStep_rep.1 hS
  have hso : pStepOk s' := hso
  show Calls Try.prog 9 #[v, .agg #[.int .i64 s'.kind, .int .i64 s'.line, .int .i64 s'.pos, .string s'.word, .string s'.old]] w _
  obtain ⟨A1, Ak1, A2, Ak2, A3, Ak3, rfl⟩ := h.shape
  have hF := h.blocks
  go_enter Try.func9, Try.ntmps9
  go_wp2_with fail
  refine (szPage_c _ ((h.alloc _).alloc _) 1048576 (by omega)).mono ?_
  rintro e w0 ⟨⟨r, rfl, hr1, hr⟩, b0⟩
  have c : Below w.heap.size w w0 := al2m b0
  have RP := ((Row.new w 33 #[.slice A1 p.lines.length Ak1, .slice A2 p.done.length Ak2, .slice A3 p.undone.length Ak3]).alloc _).later b0
  have RT := (Row.at' _ 43 (pStepCells s') (n := w.heap.size + 1) (by simp)).later b0
  by_cases h0 : r < 0
  · go_wp2_with fail
    go_ret
    exact ⟨rfl, c⟩
  obtain ⟨qT0, qT1, qT2, qT3, qT4⟩ := BoxT.of RT
  go_wp2_with fail
  refine (szStep_c s' r _ hso (by omega)).mono ?_
  rintro e w1 ⟨⟨r2, rfl, hr2, hr3, hr4⟩, b1⟩
  clear qT0 qT1 qT2 qT3 qT4
  replace c := bt c b1
  by_cases h1 : r2 < 0
  · go_wp2_with fail
    go_ret
    exact ⟨rfl, c⟩
  · have hp := PLaw.of (p := p) (by have := hr (by omega); omega)
    have hsw : s'.word.size ≤ 1048576 := by have := hr4 (by omega); have e1 : pStepW s' = s'.word.size + s'.old.size := rfl; omega
    have HS := Lib.hid (fun (w : World) (v : Value) (F : List Nat) (h : PageIs 57 46 true w p v F) => spec_DoStepF_c s' w h hp hso hsw)
    have HI := Lib.hid (fun (w : World) (v : Value) (F : List Nat) (h : PageIs 57 46 true w p v F) => impl_DoStep_c s' w h hp hso hsw)
    have hq := doStepR_small p s'
    generalize doStepR p s' = r' at HS HI hq
    obtain ⟨q, n'⟩ := r'
    obtain ⟨hqs, hqm⟩ := hq
    dsimp only at hqs hqm
    have HQM := Lib.hid hqm
    have HPM := Lib.hid hp.m
    have HPS := Lib.hid hp.s
    have HQS := Lib.hid hqs
    have z1 : (n' != n') = false := by simp
    have z2 : (((1 + marksIn p : Nat) : Int) < 0) = False := by simp only [eq_iff_iff, iff_false]; omega
    have z3 : (((1 + marksIn q : Nat) : Int) < 0) = False := by simp only [eq_iff_iff, iff_false]; omega
    have z4 : ((((1 + marksIn q : Nat) : Int)) != ((1 + marksIn q : Nat) : Int)) = false := by simp
    clear hr hp hqs hqm hr4
    replace RP := RP.later b1
    replace RT := RT.later b1
    replace h := (((h.alloc _).alloc _).below b0).below b1
    have LA : LawIn el es p (.slice A1 p.lines.length Ak1) (.slice A2 p.done.length Ak2) (.slice A3 p.undone.length Ak3) F s' w w1 := ⟨RP, RT, h, hF, c⟩
    have lT : w.heap.size + 1 < w1.heap.size := RT.lt
    clear RP RT h c
    go_upto_region 8 with fail
    go_cut [6, 7] from 26 to 34 (fun s6 s7 wx => ∃ gS S1 Sk1 S2 Sk2 S3 Sk3 G3, s6 = .pointer (some ⟨gS, 0, none⟩) ∧ s7 = .int .i64 n' ∧ LawIn el es p (.slice A1 p.lines.length Ak1) (.slice A2 p.done.length Ak2) (.slice A3 p.undone.length Ak3) F s' w wx ∧ Row wx gS 25 [.slice S1 q.lines.length Sk1, .slice S2 q.done.length Sk2, .slice S3 q.undone.length Sk3] ∧ PageIs 57 46 false wx q (.agg #[.slice S1 q.lines.length Sk1, .slice S2 q.done.length Sk2, .slice S3 q.undone.length Sk3]) G3)
    case first =>
      go_region_held3 (fun w' => w'.cell? ⟨w.heap.size, 0, none⟩ = some (.slice A1 p.lines.length Ak1) ∧ w'.cell? ⟨w.heap.size, 1, none⟩ = some (.slice A2 p.done.length Ak2) ∧ w'.cell? ⟨w.heap.size, 2, none⟩ = some (.slice A3 p.undone.length Ak3) ∧ w'.cell? ⟨w.heap.size + 1, 0, none⟩ = some (.int .i64 s'.kind) ∧ w'.cell? ⟨w.heap.size + 1, 1, none⟩ = some (.int .i64 s'.line) ∧ w'.cell? ⟨w.heap.size + 1, 2, none⟩ = some (.int .i64 s'.pos) ∧ w'.cell? ⟨w.heap.size + 1, 3, none⟩ = some (.string s'.word) ∧ w'.cell? ⟨w.heap.size + 1, 4, none⟩ = some (.string s'.old)) (first | exact E3.keep | exact (E3.alloc _).keep | exact (E3.far3 (by omega) _ _ _).keep | exact E2b.keep | exact (E2b.alloc _).keep | exact E2.keep | exact (E2.alloc _).keep | exact LA.keep | exact (LA.drew.alloc _).keep) (first | (go_at_call 22; refine (toPage_c _ (by first | exact LA.pg.drew | exact LA.pg.drew.alloc _) HPS.out).mono ?_; rintro e w2 ⟨u2, G2, rfl, r2, f2, b2⟩; have E2 : LawIn el es p (.slice A1 p.lines.length Ak1) (.slice A2 p.done.length Ak2) (.slice A3 p.undone.length Ak3) F s' w w2 := (by first | exact LA.drew.later b2 | exact (LA.drew.alloc _).later b2); obtain ⟨B1, Bk1, B2, Bk2, B3, Bk3, rfl⟩ := r2.shape; have q2 := b2.size) | (go_at_call 34; refine (toStep_c s' _).mono ?_; rintro e w2b ⟨rfl, b2b⟩; have E2b : LawIn el es p (.slice A1 p.lines.length Ak1) (.slice A2 p.done.length Ak2) (.slice A3 p.undone.length Ak3) F s' w w2b := (by first | exact E2.later b2b | exact (E2.alloc _).later b2b); have r2b : PageIs 57 46 true w2b p (.agg #[.slice B1 p.lines.length Bk1, .slice B2 p.done.length Bk2, .slice B3 p.undone.length Bk3]) G2 := (by first | exact r2.below b2b | exact (r2.alloc _).below b2b); have q1 := b2b.size) | (go_at_call 33; refine (HS.out _ _ _ (by first | exact r2b | exact r2b.alloc _)).mono ?_; rintro e w3 ⟨u3, G3, rfl, s, f3, b3⟩; dsimp only at s; obtain ⟨S1, Sk1, S2, Sk2, S3, Sk3, rfl⟩ := s.shape; have E3 : LawIn el es p (.slice A1 p.lines.length Ak1) (.slice A2 p.done.length Ak2) (.slice A3 p.undone.length Ak3) F s' w w3 := (by first | exact E2b.later b3 | exact (E2b.alloc _).later b3); have q0 := b3.size; (try simp only [World.size_alloc, World.size_drew] at q0); (try simp only [World.size_alloc, World.size_drew] at q1); (try simp only [World.size_alloc, World.size_drew] at q2); (first | have RS3 := (Row.new w2b 25 #[.slice none 0 0, .slice none 0 0, .slice none 0 0]).later b3 | have RS3 := ((Row.new w2 25 #[.slice none 0 0, .slice none 0 0, .slice none 0 0]).later b2b).later b3 | have RS3 := (((Row.at' w1.drew 25 [.slice none 0 0, .slice none 0 0, .slice none 0 0] (n := w1.heap.size) rfl).later b2).later b2b).later b3 | skip); (try have k0 := RS3.cell' (i := 0) rfl); (try have k1 := RS3.cell' (i := 1) rfl); (try have k2 := RS3.cell' (i := 2) rfl); (try have kf := RS3.frozen)))
      all_goals
        go_wp2_with fail
        go_meet
        first | exact ⟨w3.heap.size, S1, Sk1, S2, Sk2, S3, Sk3, G3, rfl, rfl, E3.alloc _, Row.at' _ _ [_, _, _] rfl, s.alloc _⟩ | exact ⟨w2b.heap.size, S1, Sk1, S2, Sk2, S3, Sk3, G3, rfl, rfl, E3.far3 (by omega) _ _ _, RS3.put3 _ _ _, s.set3 (fun hin => by have q3 := f3 _ hin; (try simp only [World.size_alloc] at q3); omega) _ _ _⟩ | exact ⟨w2.heap.size, S1, Sk1, S2, Sk2, S3, Sk3, G3, rfl, rfl, E3.far3 (by omega) _ _ _, RS3.put3 _ _ _, s.set3 (fun hin => by have q3 := f3 _ hin; omega) _ _ _⟩ | exact ⟨w1.heap.size, S1, Sk1, S2, Sk2, S3, Sk3, G3, rfl, rfl, E3.far3 (by omega) _ _ _, RS3.put3 _ _ _, s.set3 (fun hin => by have q3 := f3 _ hin; omega) _ _ _⟩
    case rest =>
      obtain ⟨W3, hW3⟩ : ∃ W, W = wc := ⟨_, rfl⟩
      subst hW3
      obtain ⟨gS, S1, Sk1, S2, Sk2, S3, Sk3, G3, rfl, rfl, L, RS, s⟩ := hcut
      obtain ⟨p0, p1, p2, -, -, -, -, -⟩ := L.keep
      go_wp2_with fail
      refine (toPage_c _ L.pg HPS.out).mono ?_
      rintro e w4 ⟨u4, GX, rfl, x, fx, b4⟩
      clear p0 p1 p2
      have bx := s.blocks
      have lS := RS.lt
      have hs4 := b4.size
      have hL := L.step.lt
      obtain ⟨X1, Xk1, X2, Xk2, X3, Xk3, rfl⟩ := x.shape
      have hxb := x.blocks
      have hxg := fx.2
      have M : LawIn2 el es p (.slice A1 p.lines.length Ak1) (.slice A2 p.done.length Ak2) (.slice A3 p.undone.length Ak3) F s' gS (.slice S1 q.lines.length Sk1) (.slice S2 q.done.length Sk2) (.slice S3 q.undone.length Sk3) q G3 w4.heap.size (.slice X1 p.lines.length Xk1) (.slice X2 p.done.length Xk2) (.slice X3 p.undone.length Xk3) p GX w (w4.alloc (.cells #[.slice X1 p.lines.length Xk1, .slice X2 p.done.length Xk2, .slice X3 p.undone.length Xk3] 25)) := ⟨(L.later b4).alloc _, (RS.later b4).alloc _, (s.below b4).alloc _, Row.at' _ _ [_, _, _] rfl, x.alloc _⟩
      go_upto_region 10 with fail
      go_cut [9, 10] from 36 to 43 (fun s9 s10 wx => ∃ gG G1 Gk1 G2 Gk2 H3 Gk3 GG, s9 = .pointer (some ⟨gG, 0, none⟩) ∧ s10 = .int .i64 n' ∧ LawIn2 el es p (.slice A1 p.lines.length Ak1) (.slice A2 p.done.length Ak2) (.slice A3 p.undone.length Ak3) F s' gS (.slice S1 q.lines.length Sk1) (.slice S2 q.done.length Sk2) (.slice S3 q.undone.length Sk3) q G3 w4.heap.size (.slice X1 p.lines.length Xk1) (.slice X2 p.done.length Xk2) (.slice X3 p.undone.length Xk3) p GX w wx ∧ Row wx gG 25 [.slice G1 q.lines.length Gk1, .slice G2 q.done.length Gk2, .slice H3 q.undone.length Gk3] ∧ PageIs 57 46 true wx q (.agg #[.slice G1 q.lines.length Gk1, .slice G2 q.done.length Gk2, .slice H3 q.undone.length Gk3]) GG ∧ Fresh (w4.heap.size + 1) GG ∧ w4.heap.size < gG ∧ gG ∉ GG)
      case first =>
        go_region_held3 (fun w' => w'.cell? ⟨w4.heap.size, 0, none⟩ = some (.slice X1 p.lines.length Xk1) ∧ w'.cell? ⟨w4.heap.size, 1, none⟩ = some (.slice X2 p.done.length Xk2) ∧ w'.cell? ⟨w4.heap.size, 2, none⟩ = some (.slice X3 p.undone.length Xk3) ∧ w'.cell? ⟨w.heap.size + 1, 0, none⟩ = some (.int .i64 s'.kind) ∧ w'.cell? ⟨w.heap.size + 1, 1, none⟩ = some (.int .i64 s'.line) ∧ w'.cell? ⟨w.heap.size + 1, 2, none⟩ = some (.int .i64 s'.pos) ∧ w'.cell? ⟨w.heap.size + 1, 3, none⟩ = some (.string s'.word) ∧ w'.cell? ⟨w.heap.size + 1, 4, none⟩ = some (.string s'.old)) (first | exact E5.keep | exact (E5.alloc _).keep | exact (E5.far3 (by omega) (by omega) (by omega) (fun b hb => by have := bx b hb; omega) (fun b hb => by have := hxb b hb; omega) _ _ _).keep | exact E4.keep | exact (E4.alloc _).keep | exact M.keep | exact (M.drew.alloc _).keep) (first | (go_at_call 34; refine (toStep_c s' _).mono ?_; rintro e w4b ⟨rfl, b4b⟩; have E4 : LawIn2 el es p (.slice A1 p.lines.length Ak1) (.slice A2 p.done.length Ak2) (.slice A3 p.undone.length Ak3) F s' gS (.slice S1 q.lines.length Sk1) (.slice S2 q.done.length Sk2) (.slice S3 q.undone.length Sk3) q G3 w4.heap.size (.slice X1 p.lines.length Xk1) (.slice X2 p.done.length Xk2) (.slice X3 p.undone.length Xk3) p GX w w4b := (by first | exact M.drew.later b4b | exact (M.drew.alloc _).later b4b); have q1 := b4b.size) | (go_at_call 35; refine (HI.out _ _ _ (by first | exact E4.x | exact E4.x.alloc _)).mono ?_; rintro e w5 ⟨u5, GG, rfl, g, fg, b5⟩; dsimp only at g; obtain ⟨G1, Gk1, G2, Gk2, H3, Gk3, rfl⟩ := g.shape; have E5 : LawIn2 el es p (.slice A1 p.lines.length Ak1) (.slice A2 p.done.length Ak2) (.slice A3 p.undone.length Ak3) F s' gS (.slice S1 q.lines.length Sk1) (.slice S2 q.done.length Sk2) (.slice S3 q.undone.length Sk3) q G3 w4.heap.size (.slice X1 p.lines.length Xk1) (.slice X2 p.done.length Xk2) (.slice X3 p.undone.length Xk3) p GX w w5 := (by first | exact E4.later b5 | exact (E4.alloc _).later b5); have q0 := b5.size; (try simp only [World.size_alloc, World.size_drew] at q0); (try simp only [World.size_alloc, World.size_drew] at q1); (first | have RG5 := (Row.new w4b 25 #[.slice none 0 0, .slice none 0 0, .slice none 0 0]).later b5 | have RG5 := ((Row.at' (w4.alloc (.cells #[.slice X1 p.lines.length Xk1, .slice X2 p.done.length Xk2, .slice X3 p.undone.length Xk3] 25)).drew 25 [.slice none 0 0, .slice none 0 0, .slice none 0 0] (n := w4.heap.size + 1) (by simp)).later b4b).later b5 | skip); (try have k0 := RG5.cell' (i := 0) rfl); (try have k1 := RG5.cell' (i := 1) rfl); (try have k2 := RG5.cell' (i := 2) rfl); (try have kf := RG5.frozen)))
        all_goals
          go_wp2_with fail
          go_meet
          have fg2 := fg.2
          (try simp only [World.size_alloc] at fg2)
          first | exact ⟨w5.heap.size, G1, Gk1, G2, Gk2, H3, Gk3, GG, rfl, rfl, E5.alloc _, Row.at' _ _ [_, _, _] rfl, g.alloc _, ⟨fg.1, fun b hb => by have := fg2 b hb; omega⟩, by omega, fun hin => by have := g.blocks _ hin; omega⟩ | exact ⟨w4b.heap.size, G1, Gk1, G2, Gk2, H3, Gk3, GG, rfl, rfl, E5.far3 (by omega) (by omega) (by omega) (fun b hb => by have := bx b hb; omega) (fun b hb => by have := hxb b hb; omega) _ _ _, RG5.put3 _ _ _, g.set3 (fun hin => by have := fg2 _ hin; omega) _ _ _, ⟨fg.1, fun b hb => by have := fg2 b hb; omega⟩, by omega, fun hin => by have := fg2 _ hin; omega⟩ | exact ⟨w4.heap.size + 1, G1, Gk1, G2, Gk2, H3, Gk3, GG, rfl, rfl, E5.far3 (by omega) (by omega) (by omega) (fun b hb => by have := bx b hb; omega) (fun b hb => by have := hxb b hb; omega) _ _ _, RG5.put3 _ _ _, g.set3 (fun hin => by have := fg2 _ hin; omega) _ _ _, ⟨fg.1, fun b hb => by have := fg2 b hb; omega⟩, by omega, fun hin => by have := fg2 _ hin; omega⟩
      case rest =>
        obtain ⟨W5, hW5⟩ : ∃ W, W = wc := ⟨_, rfl⟩
        subst hW5
        obtain ⟨gG, G1, Gk1, G2, Gk2, H3, Gk3, GG, rfl, rfl, M5, RG, g, fg, hgG, nGG⟩ := hcut
        obtain ⟨L5, RS, s, RX, x⟩ := M5
        obtain ⟨RP, RT, h, -, c⟩ := L5
        have hgb := g.blocks
        have hsz5 : w4.heap.size + 1 ≤ W5.heap.size := by have := RX.lt; omega
        clear L M
        have qG0 := RG.cell' (i := 0) rfl
        have qG1 := RG.cell' (i := 1) rfl
        have qG2 := RG.cell' (i := 2) rfl
        have qS0 := RS.cell' (i := 0) rfl
        have qS1 := RS.cell' (i := 1) rfl
        have qS2 := RS.cell' (i := 2) rfl
        go_wp2_with fail
        refine (eqPage_c _ g s HQS.out HQS.out).mono ?_
        rintro e w6 ⟨rfl, b6⟩
        clear qG0 qG1 qG2 qS0 qS1 qS2
        replace RP := RP.later b6
        replace RT := RT.later b6
        replace RS := RS.later b6
        replace RX := RX.later b6
        replace RG := RG.later b6
        replace h := h.below b6
        replace s := s.below b6
        replace x := x.below b6
        replace g := g.below b6
        replace c := bt c b6
        have hsz6 : W5.heap.size ≤ w6.heap.size := b6.size

        have qP0 := RP.cell' (i := 0) rfl
        have qP1 := RP.cell' (i := 1) rfl
        have qP2 := RP.cell' (i := 2) rfl
        have qS0 := RS.cell' (i := 0) rfl
        have qS1 := RS.cell' (i := 1) rfl
        have qS2 := RS.cell' (i := 2) rfl
        have qX0 := RX.cell' (i := 0) rfl
        have qX1 := RX.cell' (i := 1) rfl
        have qX2 := RX.cell' (i := 2) rfl
        have qG0 := RG.cell' (i := 0) rfl
        have qG1 := RG.cell' (i := 1) rfl
        have qG2 := RG.cell' (i := 2) rfl
        have lX := RX.lt
        have lP6 := RP.lt
        go_wp2_with fail
        go_region_held3 (fun w' => w'.cell? ⟨w.heap.size, 0, none⟩ = some (.slice A1 p.lines.length Ak1) ∧ w'.cell? ⟨w.heap.size, 1, none⟩ = some (.slice A2 p.done.length Ak2) ∧ w'.cell? ⟨w.heap.size, 2, none⟩ = some (.slice A3 p.undone.length Ak3) ∧ w'.cell? ⟨w4.heap.size, 0, none⟩ = some (.slice X1 p.lines.length Xk1) ∧ w'.cell? ⟨w4.heap.size, 1, none⟩ = some (.slice X2 p.done.length Xk2) ∧ w'.cell? ⟨w4.heap.size, 2, none⟩ = some (.slice X3 p.undone.length Xk3)) (first | exact ⟨qP0, qP1, qP2, qX0, qX1, qX2⟩ | exact ⟨keep_below b7 lP6 qP0, keep_below b7 lP6 qP1, keep_below b7 lP6 qP2, keep_below b7 lX qX0, keep_below b7 lX qX1, keep_below b7 lX qX2⟩ | exact ⟨keep_below b8 (Nat.lt_of_lt_of_le lP6 b7.size) (keep_below b7 lP6 qP0), keep_below b8 (Nat.lt_of_lt_of_le lP6 b7.size) (keep_below b7 lP6 qP1), keep_below b8 (Nat.lt_of_lt_of_le lP6 b7.size) (keep_below b7 lP6 qP2), keep_below b8 (Nat.lt_of_lt_of_le lX b7.size) (keep_below b7 lX qX0), keep_below b8 (Nat.lt_of_lt_of_le lX b7.size) (keep_below b7 lX qX1), keep_below b8 (Nat.lt_of_lt_of_le lX b7.size) (keep_below b7 lX qX2)⟩) (first | (go_at_call 22; refine (toPage_c _ h.drew HPS.out).mono ?_; rintro e w7 ⟨u7, G7, rfl, r7, f7, b7⟩) | (go_at_call 17; refine (eqPage_c _ (x.drew.below b7) r7 HPS.out HPS.out).mono ?_; rintro e w8 ⟨rfl, b8⟩))
        clear qP0 qP1 qP2 qS0 qS1 qS2 qX0 qX1 qX2 qG0 qG1 qG2
        replace RP := RP.drew.later b7
        replace RT := RT.drew.later b7
        replace RS := RS.drew.later b7
        replace RX := RX.drew.later b7
        replace RG := RG.drew.later b7
        replace h := h.drew.below b7
        replace s := s.drew.below b7
        replace x := x.drew.below b7
        replace g := g.drew.below b7
        replace c := c.drew.trans (b7.mono c.size)
        replace RP := RP.later b8
        replace RT := RT.later b8
        replace RS := RS.later b8
        replace RX := RX.later b8
        replace RG := RG.later b8
        replace h := h.below b8
        replace s := s.below b8
        replace x := x.below b8
        replace g := g.below b8
        replace c := bt c b8
        clear r7
        have hsz8 : w6.heap.size ≤ w8.heap.size := Nat.le_trans b7.size b8.size
        have qX0 := RX.cell' (i := 0) rfl
        have qX1 := RX.cell' (i := 1) rfl
        have qX2 := RX.cell' (i := 2) rfl
        go_wp2_with fail
        refine (markPage_c _ x fx.1 HPS.out 1 (by omega) (by have := HPM.out; omega)).mono ?_
        rintro e w9 ⟨rfl, x9, o9⟩
        have fx2 := fx.2
        have nG : ∀ b, w.heap.size < b → b < w4.heap.size → b ∉ GG := fun b _ h2 hin => by have := fg.2 b hin; omega
        clear qX0 qX1 qX2
        have hw13 : w.heap.size + 1 < W3.heap.size := hL
        replace RP := RP.only o9 (fun hin => by have := fx2 _ hin; omega)
        replace RT := RT.only o9 (fun hin => by have := fx2 _ hin; omega)
        replace RS := RS.only o9 (fun hin => by have := fx2 _ hin; omega)
        replace RX := RX.only o9 (fun hin => by have := hxb _ hin; omega)
        replace RG := RG.only o9 (fun hin => by have := hxb _ hin; omega)
        replace h := h.only o9 (fun b hb hin => by have := hF _ hb; have := fx2 _ hin; omega)
        replace s := s.only o9 (fun b hb hin => by have := bx _ hb; have := fx2 _ hin; omega)
        replace g := g.only o9 (fun b hb hin => by have hq1 := fg.2 _ hb; have hq2 := hxb _ hin; omega)
        replace c := c.trans (o9.below c.size (fun b hin => by have := fx2 _ hin; omega))
        clear x
        have qG0 := RG.cell' (i := 0) rfl
        have qG1 := RG.cell' (i := 1) rfl
        have qG2 := RG.cell' (i := 2) rfl
        have qS0 := RS.cell' (i := 0) rfl
        have qS1 := RS.cell' (i := 1) rfl
        have qS2 := RS.cell' (i := 2) rfl
        go_wp2_with fail
        refine (eqPage_c _ g s HQS.out HQS.out).mono ?_
        rintro e w10 ⟨rfl, b10⟩
        clear qG0 qG1 qG2 qS0 qS1 qS2
        replace RP := RP.later b10
        replace RT := RT.later b10
        replace RS := RS.later b10
        replace RX := RX.later b10
        replace RG := RG.later b10
        replace h := h.below b10
        replace s := s.below b10
        replace g := g.below b10
        replace c := bt c b10
        have qG0 := RG.cell' (i := 0) rfl
        have qG1 := RG.cell' (i := 1) rfl
        have qG2 := RG.cell' (i := 2) rfl
        go_wp2_with fail
        refine (markPage_c _ g fg.1 HQS.out 1 (by omega) (by have := HQM.out; omega)).mono ?_
        rintro e w11 ⟨rfl, g11, o11⟩
        have fg2 := fg.2
        clear qG0 qG1 qG2
        replace RP := RP.only o11 (fun hin => by have := fg2 _ hin; omega)
        replace RT := RT.only o11 (fun hin => by have := fg2 _ hin; omega)
        replace RS := RS.only o11 (fun hin => by have := fg2 _ hin; omega)
        replace RX := RX.only o11 (fun hin => by have := fg2 _ hin; omega)
        replace RG := RG.only o11 (fun hin => nGG hin)
        replace h := h.only o11 (fun b hb hin => by have := hF _ hb; have := fg2 _ hin; omega)
        replace s := s.only o11 (fun b hb hin => by have := bx _ hb; have := fg2 _ hin; omega)
        replace c := c.trans (o11.below c.size (fun b hin => by have := fg2 _ hin; omega))
        clear g
        have qG0 := RG.cell' (i := 0) rfl
        have qG1 := RG.cell' (i := 1) rfl
        have qG2 := RG.cell' (i := 2) rfl
        go_wp2_with fail
        refine (heldPage_c _ 1 g11 HQS.out (by omega) (by have := HQM.out; omega)).mono ?_
        rintro e w12 ⟨rfl, b12⟩
        clear qG0 qG1 qG2
        replace RP := RP.later b12
        replace RT := RT.later b12
        replace RS := RS.later b12
        replace RX := RX.later b12
        replace RG := RG.later b12
        replace h := h.below b12
        replace s := s.below b12
        replace g11 := g11.below b12
        replace c := bt c b12
        have bs13 := s.blocks
        have bg13 := g11.blocks
        have lS13 := RS.lt
        have lG13 := RG.lt
        have lT13 := RT.lt
        have N : LawIn2 el es p (.slice A1 p.lines.length Ak1) (.slice A2 p.done.length Ak2) (.slice A3 p.undone.length Ak3) F s' gS (.slice S1 q.lines.length Sk1) (.slice S2 q.done.length Sk2) (.slice S3 q.undone.length Sk3) q G3 gG (.slice G1 q.lines.length Gk1) (.slice G2 q.done.length Gk2) (.slice H3 q.undone.length Gk3) (markP q 1) GG w w12 := ⟨⟨RP, RT, h, hF, c⟩, RS, s, RG, g11⟩
        clear RP RT h c RS s RG g11
        go_upto_region 27 with fail
        go_cut [14, 15] from 84 to 92 (fun s14 s15 wx => ∃ gT T1 Tk1 T2 Tk2 T3 Tk3 GT, s14 = .pointer (some ⟨gT, 0, none⟩) ∧ s15 = .int .i64 n' ∧ LawIn2 el es p (.slice A1 p.lines.length Ak1) (.slice A2 p.done.length Ak2) (.slice A3 p.undone.length Ak3) F s' gS (.slice S1 q.lines.length Sk1) (.slice S2 q.done.length Sk2) (.slice S3 q.undone.length Sk3) q G3 gG (.slice G1 q.lines.length Gk1) (.slice G2 q.done.length Gk2) (.slice H3 q.undone.length Gk3) (markP q 1) GG w wx ∧ Row wx gT 25 [.slice T1 q.lines.length Tk1, .slice T2 q.done.length Tk2, .slice T3 q.undone.length Tk3] ∧ PageIs 57 46 true wx q (.agg #[.slice T1 q.lines.length Tk1, .slice T2 q.done.length Tk2, .slice T3 q.undone.length Tk3]) GT)
        case first =>
          go_region_held3 (fun w' => w'.cell? ⟨w.heap.size, 0, none⟩ = some (.slice A1 p.lines.length Ak1) ∧ w'.cell? ⟨w.heap.size, 1, none⟩ = some (.slice A2 p.done.length Ak2) ∧ w'.cell? ⟨w.heap.size, 2, none⟩ = some (.slice A3 p.undone.length Ak3) ∧ w'.cell? ⟨w.heap.size + 1, 0, none⟩ = some (.int .i64 s'.kind) ∧ w'.cell? ⟨w.heap.size + 1, 1, none⟩ = some (.int .i64 s'.line) ∧ w'.cell? ⟨w.heap.size + 1, 2, none⟩ = some (.int .i64 s'.pos) ∧ w'.cell? ⟨w.heap.size + 1, 3, none⟩ = some (.string s'.word) ∧ w'.cell? ⟨w.heap.size + 1, 4, none⟩ = some (.string s'.old)) (first | exact E4.L.keep | exact (E4.alloc _).L.keep | exact (E4.far3 (by omega) (by omega) (by omega) (fun b hb => by have := bs13 b hb; omega) (fun b hb => by have := bg13 b hb; omega) _ _ _).L.keep | exact E3.L.keep | exact (E3.alloc _).L.keep | exact E2.L.keep | exact (E2.alloc _).L.keep | exact N.L.keep | exact (N.drew.alloc _).L.keep) (first | (go_at_call 22; refine (toPage_c _ (by first | exact N.L.pg.drew | exact N.L.pg.drew.alloc _) HPS.out).mono ?_; rintro e w13 ⟨u13, G13, rfl, r13, f13, b13⟩; have E2 : LawIn2 el es p (.slice A1 p.lines.length Ak1) (.slice A2 p.done.length Ak2) (.slice A3 p.undone.length Ak3) F s' gS (.slice S1 q.lines.length Sk1) (.slice S2 q.done.length Sk2) (.slice S3 q.undone.length Sk3) q G3 gG (.slice G1 q.lines.length Gk1) (.slice G2 q.done.length Gk2) (.slice H3 q.undone.length Gk3) (markP q 1) GG w w13 := (by first | exact N.drew.later b13 | exact (N.drew.alloc _).later b13); obtain ⟨D1, Dk1, D2, Dk2, D3, Dk3, rfl⟩ := r13.shape; have q2 := b13.size) | (go_at_call 34; refine (toStep_c s' _).mono ?_; rintro e w13b ⟨rfl, b13b⟩; have E3 : LawIn2 el es p (.slice A1 p.lines.length Ak1) (.slice A2 p.done.length Ak2) (.slice A3 p.undone.length Ak3) F s' gS (.slice S1 q.lines.length Sk1) (.slice S2 q.done.length Sk2) (.slice S3 q.undone.length Sk3) q G3 gG (.slice G1 q.lines.length Gk1) (.slice G2 q.done.length Gk2) (.slice H3 q.undone.length Gk3) (markP q 1) GG w w13b := (by first | exact E2.later b13b | exact (E2.alloc _).later b13b); have r13b : PageIs 57 46 true w13b p (.agg #[.slice D1 p.lines.length Dk1, .slice D2 p.done.length Dk2, .slice D3 p.undone.length Dk3]) G13 := (by first | exact r13.below b13b | exact (r13.alloc _).below b13b); have q1 := b13b.size) | (go_at_call 35; refine (HI.out _ _ _ (by first | exact r13b | exact r13b.alloc _)).mono ?_; rintro e w14 ⟨u14, GT, rfl, t, ft, b14⟩; dsimp only at t; obtain ⟨T1, Tk1, T2, Tk2, T3, Tk3, rfl⟩ := t.shape; have E4 : LawIn2 el es p (.slice A1 p.lines.length Ak1) (.slice A2 p.done.length Ak2) (.slice A3 p.undone.length Ak3) F s' gS (.slice S1 q.lines.length Sk1) (.slice S2 q.done.length Sk2) (.slice S3 q.undone.length Sk3) q G3 gG (.slice G1 q.lines.length Gk1) (.slice G2 q.done.length Gk2) (.slice H3 q.undone.length Gk3) (markP q 1) GG w w14 := (by first | exact E3.later b14 | exact (E3.alloc _).later b14); have q0 := b14.size; (try simp only [World.size_alloc, World.size_drew] at q0); (try simp only [World.size_alloc, World.size_drew] at q1); (try simp only [World.size_alloc, World.size_drew] at q2); (first | have RH := (Row.new w13b 25 #[.slice none 0 0, .slice none 0 0, .slice none 0 0]).later b14 | have RH := ((Row.new w13 25 #[.slice none 0 0, .slice none 0 0, .slice none 0 0]).later b13b).later b14 | have RH := (((Row.at' w12.drew 25 [.slice none 0 0, .slice none 0 0, .slice none 0 0] (n := w12.heap.size) rfl).later b13).later b13b).later b14 | skip); (try have k0 := RH.cell' (i := 0) rfl); (try have k1 := RH.cell' (i := 1) rfl); (try have k2 := RH.cell' (i := 2) rfl); (try have kf := RH.frozen)))
          all_goals
            go_wp2_with fail
            go_meet
            have ft2 := ft.2
            (try simp only [World.size_alloc] at ft2)
            first | exact ⟨w14.heap.size, T1, Tk1, T2, Tk2, T3, Tk3, GT, rfl, rfl, E4.alloc _, Row.at' _ _ [_, _, _] rfl, t.alloc _⟩ | exact ⟨w13b.heap.size, T1, Tk1, T2, Tk2, T3, Tk3, GT, rfl, rfl, E4.far3 (by omega) (by omega) (by omega) (fun b hb => by have := bs13 b hb; omega) (fun b hb => by have := bg13 b hb; omega) _ _ _, RH.put3 _ _ _, t.set3 (fun hin => by have := ft2 _ hin; omega) _ _ _⟩ | exact ⟨w13.heap.size, T1, Tk1, T2, Tk2, T3, Tk3, GT, rfl, rfl, E4.far3 (by omega) (by omega) (by omega) (fun b hb => by have := bs13 b hb; omega) (fun b hb => by have := bg13 b hb; omega) _ _ _, RH.put3 _ _ _, t.set3 (fun hin => by have := ft2 _ hin; omega) _ _ _⟩ | exact ⟨w12.heap.size, T1, Tk1, T2, Tk2, T3, Tk3, GT, rfl, rfl, E4.far3 (by omega) (by omega) (by omega) (fun b hb => by have := bs13 b hb; omega) (fun b hb => by have := bg13 b hb; omega) _ _ _, RH.put3 _ _ _, t.set3 (fun hin => by have := ft2 _ hin; omega) _ _ _⟩
        case rest =>
          obtain ⟨W14, hW14⟩ : ∃ W, W = wc := ⟨_, rfl⟩
          subst hW14
          obtain ⟨gT, T1, Tk1, T2, Tk2, T3, Tk3, GT, rfl, rfl, N5, RH, t⟩ := hcut
          obtain ⟨⟨-, -, -, -, c⟩, RS, s, RG, g11⟩ := N5
          clear N
          have qH0 := RH.cell' (i := 0) rfl
          have qH1 := RH.cell' (i := 1) rfl
          have qH2 := RH.cell' (i := 2) rfl
          have qS0 := RS.cell' (i := 0) rfl
          have qS1 := RS.cell' (i := 1) rfl
          have qS2 := RS.cell' (i := 2) rfl
          go_wp2_with fail
          refine (eqPage_c _ t s HQS.out HQS.out).mono ?_
          rintro e w15 ⟨rfl, b15⟩
          clear qH0 qH1 qH2 qS0 qS1 qS2
          replace RG := RG.later b15
          replace g11 := g11.below b15
          replace c := bt c b15
          have qG0 := RG.cell' (i := 0) rfl
          have qG1 := RG.cell' (i := 1) rfl
          have qG2 := RG.cell' (i := 2) rfl
          go_wp2_with fail
          refine (heldPage_c _ 1 g11 HQS.out (by omega) (by have := HQM.out; omega)).mono ?_
          rintro e w16 ⟨rfl, b16⟩
          go_wp2_with fail
          go_ret
          exact ⟨rfl, bt c b16⟩
end Go.Proofs.Ytnlfbobjopmfgaa
