/- Pages: DoStep. Conditions: none. -/
import Derived.Test.YtmopioaojdlnkaaDoorPgDo2p
import Derived.Test.YtmopioaojdlnkaaDoorPgMath3p
import Derived.Test.YtmopioaojdlnkaaDoorPgPushp
namespace Go.Proofs.YtmopioaojdlnkaaDoor
open Go Go.RowKit
def GivesPC (r : PPage × Int) (w : World) (e : Ending) (w' : World) : Prop := ∃ v F, e = .returned (.tuple #[v, .int .i64 r.2]) ∧ PageIs 56 30 true w' r.1 v F ∧ Fresh w.heap.size F ∧ Below w.heap.size w w'
theorem PageIs.form {el es : TypeId} {o : Bool} {w : World} {p : PPage} {v : Value} {F : List Nat} (h : PageIs el es o w p v F) :
 ∃ A1 n1 k1 A2 n2 k2 A3 n3 k3, v = .agg #[.slice A1 n1 k1, .slice A2 n2 k2, .slice A3 n3 k3] := by
 obtain ⟨A1, k1, A2, k2, A3, k3, rfl⟩ := h.shape
 exact ⟨_, _, _, _, _, _, _, _, _, rfl⟩
theorem nilPage_is (el es : TypeId) (o : Bool) (w : World) : PageIs el es o w nilPage (.agg #[.slice none 0 0, .slice none 0 0, .slice none 0 0]) [] :=
 ⟨_, _, _, [], [], [], rfl, rfl, slice_nil _ _ _ _, slice_nil _ _ _ _, slice_nil _ _ _ _⟩
theorem PageIs.setCell {el es : TypeId} {o : Bool} {w : World} {p : PPage} {v : Value} {F : List Nat} (h : PageIs el es o w p v F) {a : Addr} (ha : a.block ∉ F) (u : Value) : PageIs el es o (w.setCell a u) p v F := by
 obtain ⟨a', b', c', F1, F2, F3, rfl, rfl, h1, h2, h3⟩ := h
 simp only [List.mem_append, not_or] at ha
 exact ⟨_, _, _, F1, F2, F3, rfl, rfl, h1.setCell ha.1 u, h2.setCell ha.2.1 u, h3.setCell ha.2.2 u⟩
theorem al1m {w w1 : World} {x : Obj} (b : Below (w.alloc x).heap.size (w.alloc x) w1) : Below w.heap.size w w1 := ((Below.refl _ _).alloc (Nat.le_refl _) x).trans (b.mono (by simp))
theorem al2m {w w1 : World} {x y : Obj} (b : Below ((w.alloc x).alloc y).heap.size ((w.alloc x).alloc y) w1) : Below w.heap.size w w1 := al1m (al1m b)
theorem al3m {w w1 : World} {x y z : Obj} (b : Below (((w.alloc x).alloc y).alloc z).heap.size (((w.alloc x).alloc y).alloc z) w1) : Below w.heap.size w w1 := al1m (al2m b)
theorem PLaw.few {p : PPage} (h : validB p = true) : p.done.length ≤ 1000 ∧ p.undone.length ≤ 1000 := by
 obtain ⟨_, h1, h2, _, _⟩ := validB_parts h
 omega
theorem fresh_mono {B C : Nat} {F : List Nat} (h : Fresh C F) (hb : B ≤ C) : Fresh B F := ⟨h.1, fun x hx => Nat.le_trans hb (h.2 x hx)⟩
theorem PageIs.lines {el es : TypeId} {o : Bool} {w : World} {p : PPage} {a b c : Value} {F : List Nat} (h : PageIs el es o w p (.agg #[a, b, c]) F) : ∃ F1 F2 F3, F = F1 ++ (F2 ++ F3) ∧ (pLines el).rep o w p.lines [a] F1 ∧ (pSteps es).rep o w p.done [b] F2 ∧ (pSteps es).rep o w p.undone [c] F3 := by
 obtain ⟨a', b', c', F1, F2, F3, e, rfl, h1, h2, h3⟩ := h
 cases e
 exact ⟨F1, F2, F3, rfl, h1, h2, h3⟩
theorem PageIs.set3 {el es : TypeId} {o : Bool} {w : World} {p : PPage} {v : Value} {F : List Nat} {g : Nat} (h : PageIs el es o w p v F) (hg : g ∉ F) (a b c : Value) : PageIs el es o (((w.setCell ⟨g, 0, none⟩ a).setCell ⟨g, 1, none⟩ b).setCell ⟨g, 2, none⟩ c) p v F :=
 ((h.setCell hg a).setCell hg b).setCell hg c
set_option maxRecDepth 100000 in
set_option maxHeartbeats 2000000 in
theorem impl_DoStep_c {el es : TypeId} {o : Bool} {p : PPage} {v : Value} {F : List Nat} (s : PStep) (w : World) (h : PageIs el es o w p v F) (hp : PLaw p) (hs : pStepOk s) (hsw : s.word.size ≤ 1048576) :
 Calls Tryd.prog 7 #[v, .agg #[.int .i64 s.kind, .int .i64 s.line, .int .i64 s.pos, .string s.word, .string s.old]] w (GivesPC (doStepR p s) w) := by
 obtain ⟨A1, k1, A2, k2, A3, k3, rfl⟩ := h.shape
 obtain ⟨F1, F2, F3, -, h1, -, -⟩ := h.lines
 have HV := Lib.hid (fun w' (q : PageIs el es o w' p (.agg #[.slice A1 p.lines.length k1, .slice A2 p.done.length k2, .slice A3 p.undone.length k3]) F) => impl_ValidPage_c w' q hp.s hp.b)
 have HC := Lib.hid (fun w' (q : (pLines el).rep o w' p.lines [.slice A1 p.lines.length k1] F1) => impl_canStep_c s w' q hp.s.l hp.s.w hs hsw)
 cases hv : validB p
 · have hr : doStepR p s = (nilPage, 1) := by simp [doStepR, hv]
   rw [hr]
   clear hr HC h1
   go_enter Tryd.func7, Tryd.ntmps7
   go_wp2_with fail
   refine (HV.out _ (((h.alloc _).alloc _).alloc _)).mono ?_
   rintro e w1 ⟨rfl, b1⟩
   have c1 := al3m b1
   have RO := (Row.at' _ 27 [.slice none 0 0, .slice none 0 0, .slice none 0 0] (n := w.heap.size + 1 + 1) (by simp)).later b1
   have o0 := RO.c0
   have o1 := RO.c1
   have o2 := RO.c2
   have of := RO.frozen
   go_wp2_with fail
   (have TF := ((RO.set 0 (.slice none 0 0)).set 1 (.slice none 0 0)).set 2 (.slice none 0 0); have e0 := TF.c0; have e1 := TF.c1; have e2 := TF.c2; exact bodyPost_ret (v := .tuple #[.agg #[.slice none 0 0, .slice none 0 0, .slice none 0 0], .int .i64 1]) (by simp only [results, Tryd.results7]; go_simp) rfl ⟨_, [], rfl, nilPage_is _ _ _ _, ⟨by simp, by simp⟩, set3 c1 (by omega) _ _ _⟩)
 · obtain ⟨hok, hd, -, -, -⟩ := validB_parts hv
   cases hc : canB p.lines s
   · have hr : doStepR p s = (nilPage, 6) := by simp [doStepR, hv, hc]
     rw [hr]
     clear hr
     go_enter Tryd.func7, Tryd.ntmps7
     go_wp2_with fail
     refine (HV.out _ (((h.alloc _).alloc _).alloc _)).mono ?_
     rintro e w1 ⟨rfl, b1⟩
     have RP := (((Row.new w 27 #[.slice A1 p.lines.length k1, .slice A2 p.done.length k2, .slice A3 p.undone.length k3]).alloc _).alloc _).later b1
     have RS := ((Row.at' _ 30 (pStepCells s) (n := w.heap.size + 1) (by simp)).alloc _).later b1
     have RO := (Row.at' _ 27 [.slice none 0 0, .slice none 0 0, .slice none 0 0] (n := w.heap.size + 1 + 1) (by simp)).later b1
     have p0 := RP.c0
     have BS := BoxS.of RS
     unfold BoxS at BS
     obtain ⟨s0, s1, s2, s3, s4⟩ := BS
     go_wp2_with fail
     refine (HC.out _ ((((h1.alloc _).alloc _).alloc _).below b1)).mono ?_
     rintro e w2 ⟨rfl, b2⟩
     have c2 := bt (al3m b1) b2
     clear s0 s1 s2 s3 s4 p0
     have RO2 := RO.later b2
     have o0 := RO2.c0
     have o1 := RO2.c1
     have o2 := RO2.c2
     have of := RO2.frozen
     go_wp2_with fail
     (have TF := ((RO2.set 0 (.slice none 0 0)).set 1 (.slice none 0 0)).set 2 (.slice none 0 0); have e0 := TF.c0; have e1 := TF.c1; have e2 := TF.c2; exact bodyPost_ret (v := .tuple #[.agg #[.slice none 0 0, .slice none 0 0, .slice none 0 0], .int .i64 6]) (by simp only [results, Tryd.results7]; go_simp) rfl ⟨_, [], rfl, nilPage_is _ _ _ _, ⟨by simp, by simp⟩, set3 c2 (by omega) _ _ _⟩)
   · have hr : doStepR p s = (doP p s, 0) := by simp [doStepR, hv, hc]
     rw [hr]
     clear hr
     have HD := Lib.hid (fun w' (q : PageIs el es o w' p (.agg #[.slice A1 p.lines.length k1, .slice A2 p.done.length k2, .slice A3 p.undone.length k3]) F) => impl_doStep_c s w' q hok ((can_iff _ s).1 hc) hs (by omega))
     generalize hq : doP p s = q at HD
     go_enter Tryd.func7, Tryd.ntmps7
     go_wp2_with fail
     refine (HV.out _ (((h.alloc _).alloc _).alloc _)).mono ?_
     rintro e w1 ⟨rfl, b1⟩
     have RP := (((Row.new w 27 #[.slice A1 p.lines.length k1, .slice A2 p.done.length k2, .slice A3 p.undone.length k3]).alloc _).alloc _).later b1
     have RS := ((Row.at' _ 30 (pStepCells s) (n := w.heap.size + 1) (by simp)).alloc _).later b1
     have RO := (Row.at' _ 27 [.slice none 0 0, .slice none 0 0, .slice none 0 0] (n := w.heap.size + 1 + 1) (by simp)).later b1
     have h' := (((h.alloc _).alloc _).alloc _).below b1
     have p0 := RP.c0
     have BS := BoxS.of RS
     unfold BoxS at BS
     obtain ⟨s0, s1, s2, s3, s4⟩ := BS
     go_wp2_with fail
     refine (HC.out _ ((((h1.alloc _).alloc _).alloc _).below b1)).mono ?_
     rintro e w2 ⟨rfl, b2⟩
     have c2 := bt (al3m b1) b2
     clear s0 s1 s2 s3 s4 p0
     have RP2 := RP.later b2
     have BS := BoxS.of (RS.later b2)
     unfold BoxS at BS
     obtain ⟨s0, s1, s2, s3, s4⟩ := BS
     have p0 := RP2.c0
     have p1 := RP2.c1
     have p2 := RP2.c2
     go_wp2_with fail
     refine (HD.out _ (h'.below b2)).mono ?_
     rintro e w3 ⟨u, G, rfl, r, fr, b3⟩
     have c3 := bt c2 b3
     have RO3 := (RO.later b2).later b3
     have o0 := RO3.c0
     have o1 := RO3.c1
     have o2 := RO3.c2
     have of := RO3.frozen
     clear s0 s1 s2 s3 s4 p0 p1 p2
     obtain ⟨B1, n1, m1, B2, n2, m2, B3, n3, m3, rfl⟩ := r.form
     have l2 := RO.lt
     have z2 := b2.size
     have z := c2.size
     have ng : w.heap.size + 1 + 1 ∉ G := fun hx => by have := fr.2 _ hx; omega
     go_wp2_with fail
     have TF := ((RO3.set 0 (.slice B1 n1 m1)).set 1 (.slice B2 n2 m2)).set 2 (.slice B3 n3 m3)
     have e0 := TF.c0
     have e1 := TF.c1
     have e2 := TF.c2
     exact bodyPost_ret (v := .tuple #[.agg #[.slice B1 n1 m1, .slice B2 n2 m2, .slice B3 n3 m3], .int .i64 0]) (by simp only [results, Tryd.results7]; go_simp) rfl ⟨_, G, rfl, r.set3 ng _ _ _, fresh_mono fr z, set3 c3 (by omega) _ _ _⟩
structure PParts (el es : TypeId) (o : Bool) (p : PPage) (a b c : Value) (F1 F2 F3 : List Nat) (gp : Nat) (w : World) : Prop where
 row : Row w gp 27 [a, b, c]
 h1 : (pLines el).rep o w p.lines [a] F1
 h2 : (pSteps es).rep o w p.done [b] F2
 h3 : (pSteps es).rep o w p.undone [c] F3
theorem PParts.below {el es : TypeId} {o : Bool} {p : PPage} {a b c : Value} {F1 F2 F3 : List Nat} {gp : Nat} {w w' : World} (h : PParts el es o p a b c F1 F2 F3 gp w) (hb : Below w.heap.size w w') : PParts el es o p a b c F1 F2 F3 gp w' := ⟨h.row.later hb, h.h1.below hb, h.h2.below hb, h.h3.below hb⟩
theorem PParts.alloc {el es : TypeId} {o : Bool} {p : PPage} {a b c : Value} {F1 F2 F3 : List Nat} {gp : Nat} {w : World} (h : PParts el es o p a b c F1 F2 F3 gp w) (x : Obj) : PParts el es o p a b c F1 F2 F3 gp (w.alloc x) := ⟨h.row.alloc x, h.h1.alloc x, h.h2.alloc x, h.h3.alloc x⟩
theorem PParts.new {el es : TypeId} {o : Bool} {p : PPage} {a b c : Value} {F : List Nat} {w : World} (h : PageIs el es o w p (.agg #[a, b, c]) F) : ∃ F1 F2 F3, PParts el es o p a b c F1 F2 F3 w.heap.size (w.alloc (.cells #[a, b, c] 27)) := by
 obtain ⟨F1, F2, F3, -, h1, h2, h3⟩ := h.lines
 exact ⟨F1, F2, F3, Row.at' w _ [a, b, c] rfl, h1.alloc _, h2.alloc _, h3.alloc _⟩
end Go.Proofs.YtmopioaojdlnkaaDoor
