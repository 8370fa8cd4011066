/- Pages: steps that can be undone. Conditions: none. -/
import Derived.Test.YtboijogahclekaaGreatDoorPgFollowk
import Derived.Test.YtboijogahclekaaGreatDoorPgValidk
import Derived.Test.YtboijogahclekaaGreatDoorSeSzk
namespace Go.Proofs.YtboijogahclekaaGreatDoor
open Go Go.RowKit
def BoxS (g : Nat) (s : PStep) (w : World) : Prop := w.cell? ⟨g, 0, none⟩ = some (.int .i64 s.kind) ∧ w.cell? ⟨g, 1, none⟩ = some (.int .i64 s.line) ∧ w.cell? ⟨g, 2, none⟩ = some (.int .i64 s.pos) ∧ w.cell? ⟨g, 3, none⟩ = some (.string s.word) ∧ w.cell? ⟨g, 4, none⟩ = some (.string s.old)
theorem BoxS.of {w : World} {g : Nat} {s : PStep} (h : Row w g 161 (pStepCells s)) : BoxS g s w := ⟨h.c0, h.c1, h.c2, h.c3, h.c4⟩
def szP (p : PPage) : Nat := szLines p.lines + szpStep p.done + szpStep p.undone
theorem szpStep_each {xs : List PStep} {n : Nat} (h : szpStep xs ≤ n) : xs.length ≤ n ∧ ∀ s ∈ xs, s.word.size ≤ n ∧ s.old.size ≤ n := by
 unfold szpStep at h
 refine ⟨by omega, fun s hs => ?_⟩
 have := mem_sum (List.mem_map.2 ⟨s, hs, rfl⟩ : pStepW s ∈ xs.map pStepW)
 have e : pStepW s = s.word.size + s.old.size := rfl
 omega
theorem words_le : ∀ xs : List PLine, wordsIn xs ≤ szLines xs := by
 intro xs
 have : ∀ xs : List PLine, (xs.map List.length).sum ≤ (xs.map szStrs).sum := by
  intro xs
  induction xs with
  | nil => simp
  | cons a r ih => simp only [List.map_cons, List.sum_cons, szStrs]; omega
 have := this xs
 unfold wordsIn szLines; omega
structure PLaw (p : PPage) : Prop where
 s : PSmall p
 b : PBytes p
 m : marksIn p ≤ 5242880
theorem PLaw.of {p : PPage} (h : szP p ≤ 1048576) : PLaw p := by
 unfold szP at h
 have l := szLines_each (xs := p.lines) (n := 1048576) (by omega)
 have d := szpStep_each (xs := p.done) (n := 1048576) (by omega)
 have u := szpStep_each (xs := p.undone) (n := 1048576) (by omega)
 have ww := words_le p.lines
 have hd : p.done.length ≤ szpStep p.done := by unfold szpStep; omega
 have hu : p.undone.length ≤ szpStep p.undone := by unfold szpStep; omega
 exact ⟨⟨l.1, fun x hx => (l.2 x hx).1, by omega, d.1, u.1⟩, ⟨fun x hx => (l.2 x hx).2, d.2, u.2⟩, by unfold marksIn; omega⟩
set_option maxHeartbeats 1000000 in
theorem szPage_c {el es : TypeId} {o : Bool} {p : PPage} {v : Value} {F : List Nat} (w : World) (h : PageIs el es o w p v F) (left : Int) (hl : 0 ≤ left ∧ left ≤ 1048576) :
 Calls Tryz.prog 10 #[v, .int .i64 left] w fun e w' => (∃ r : Int, e = .returned (.int .i64 r) ∧ r ≤ left ∧ (0 ≤ r → r + szP p ≤ left)) ∧ Below w.heap.size w w' := by
 obtain ⟨a, b, c, F1, F2, F3, rfl, rfl, h1, h2, h3⟩ := h
 unfold szP
 have al : ∀ x, Below w.heap.size w (w.alloc x) := fun x => (Below.refl _ _).alloc (Nat.le_refl _) x
 obtain ⟨A1, k1, rfl⟩ := slice_len h1
 obtain ⟨A2, k2, rfl⟩ := slice_len h2
 obtain ⟨A3, k3, rfl⟩ := slice_len h3
 go_enter Tryz.func10, Tryz.ntmps10
 go_wp2_with fail
 refine (szTextLineS_c _ (h1.alloc _) left hl).mono ?_
 rintro e w1 ⟨⟨r1, rfl, g1, g2⟩, b1⟩
 obtain ⟨hcc, hff⟩ := bcell b1
 by_cases n1 : r1 < 0
 · go_wp2_with fail
   go_ret
   exact ⟨⟨-1, rfl, by omega, by omega⟩, (al _).trans (b1.mono (by simp))⟩
 · go_wp2_with fail
   refine (szStepS_c _ ((h2.alloc _).below b1) r1 (by omega)).mono ?_
   rintro e w2 ⟨⟨r2, rfl, _, g3, g4⟩, b2⟩
   clear hcc hff
   obtain ⟨hcc, hff⟩ := bcell (bt b1 b2)
   by_cases n2 : r2 < 0
   · go_wp2_with fail
     go_ret
     exact ⟨⟨-1, rfl, by omega, by omega⟩, bt ((al _).trans (b1.mono (by simp))) b2⟩
   · go_wp2_with fail
     refine (szStepS_c _ (((h3.alloc _).below b1).below b2) r2 (by omega)).mono ?_
     rintro e w3 ⟨⟨r3, rfl, _, g5, g6⟩, b3⟩
     by_cases n3 : r3 < 0
     · go_wp2_with fail
       go_ret
       exact ⟨⟨-1, rfl, by omega, by omega⟩, bt (bt ((al _).trans (b1.mono (by simp))) b2) b3⟩
     · go_wp2_with fail
       go_ret
       exact ⟨⟨r3, rfl, by omega, fun _ => by have := g2 (by omega); have := g4 (by omega); have := g6 (by omega); omega⟩, bt (bt ((al _).trans (b1.mono (by simp))) b2) b3⟩
def GivesPage (p : PPage) (w : World) (e : Ending) (w' : World) : Prop := ∃ v F, e = .returned v ∧ PageIs 159 161 true w' p v F ∧ Fresh w.heap.size F ∧ Below w.heap.size w w'
set_option maxHeartbeats 2000000 in
theorem toPage_c {el es : TypeId} {o : Bool} {p : PPage} {v : Value} {F : List Nat} (w : World) (h : PageIs el es o w p v F) (hp : PSmall p) :
 Calls Tryz.prog 14 #[v] w (GivesPage p w) := by
 obtain ⟨a, b, c, F1, F2, F3, rfl, rfl, h1, h2, h3⟩ := h
 obtain ⟨A1, k1, rfl⟩ := slice_len h1
 obtain ⟨A2, k2, rfl⟩ := slice_len h2
 obtain ⟨A3, k3, rfl⟩ := slice_len h3
 have l1 := h1.blocks
 have l2 := h2.blocks
 have l3 := h3.blocks
 go_enter Tryz.func14, Tryz.ntmps14
 go_wp2_with fail
 refine (toTextLineS_c _ (((h1.alloc _).alloc _).alloc _) hp.l hp.w).mono ?_
 rintro e w1 ⟨u1, G1, rfl, r1, f1, b1⟩
 have R1 := (((Row.new w 45 #[.slice A1 p.lines.length k1, .slice A2 p.done.length k2, .slice A3 p.undone.length k3]).alloc (.cells #[.slice none 0 0, .slice none 0 0, .slice none 0 0] 71)).alloc (.cells #[.slice none 0 0, .slice none 0 0, .slice none 0 0] 71)).later b1
 have T1 := ((Row.new (w.alloc (.cells #[.slice A1 p.lines.length k1, .slice A2 p.done.length k2, .slice A3 p.undone.length k3] 45)) 71 #[.slice none 0 0, .slice none 0 0, .slice none 0 0]).alloc (.cells #[.slice none 0 0, .slice none 0 0, .slice none 0 0] 71)).later b1
 have O1 := (Row.new ((w.alloc (.cells #[.slice A1 p.lines.length k1, .slice A2 p.done.length k2, .slice A3 p.undone.length k3] 45)).alloc (.cells #[.slice none 0 0, .slice none 0 0, .slice none 0 0] 71)) 71 #[.slice none 0 0, .slice none 0 0, .slice none 0 0]).later b1
 simp only [World.size_alloc] at O1 T1
 have s1 := b1.size
 simp only [World.size_alloc] at s1
 have q1 := R1.c1
 have q2 := O1.c0
 have q3 := O1.frozen 0
 have x2 := (((h2.alloc _).alloc _).alloc _).below b1
 have x3 := (((h3.alloc _).alloc _).alloc _).below b1
 obtain ⟨B1, m1, rfl⟩ := slice_len r1
 go_wp2_with fail
 have z2 : w.heap.size + 1 + 1 ∉ F2 := fun hx => by have := l2 _ hx; omega
 have z3 : w.heap.size + 1 + 1 ∉ F3 := fun hx => by have := l3 _ hx; omega
 have z1 : w.heap.size + 1 + 1 ∉ G1 := fun hx => by have := f1.2 _ hx; simp at this; omega
 refine (toStepS_c _ (x2.setCell z2 _) hp.d).mono ?_
 rintro e w2 ⟨u2, G2, rfl, r2, f2, b2⟩
 have T2 := (T1.far (p := ⟨w.heap.size + 1 + 1, 0, none⟩) (by simp <;> omega) (.slice B1 p.lines.length m1)).later b2
 have R2 := (R1.far (p := ⟨w.heap.size + 1 + 1, 0, none⟩) (by simp <;> omega) (.slice B1 p.lines.length m1)).later b2
 have O2 := (O1.set 0 (.slice B1 p.lines.length m1)).later b2
 have s2 := b2.size
 simp only [World.size_setCell] at s2
 clear q1 q2 q3
 have q1 := R2.c2
 have q2 := O2.c1
 have q3 := O2.frozen 1
 have y3 := (x3.setCell z3 (.slice B1 p.lines.length m1)).below b2
 have y1 := (r1.setCell z1 (.slice B1 p.lines.length m1)).below b2
 obtain ⟨B2, m2, rfl⟩ := slice_len r2
 go_wp2_with fail
 have z4 : w.heap.size + 1 + 1 ∉ G2 := fun hx => by have := f2.2 _ hx; simp at this; omega
 refine (toStepS_c _ (y3.setCell z3 _) hp.u).mono ?_
 rintro e w3 ⟨u3, G3, rfl, r3, f3, b3⟩
 have T3 := (T2.far (p := ⟨w.heap.size + 1 + 1, 1, none⟩) (by simp <;> omega) (.slice B2 p.done.length m2)).later b3
 have O3 := (O2.set 1 (.slice B2 p.done.length m2)).later b3
 have s3 := b3.size
 simp only [World.size_setCell] at s3
 clear q1 q2 q3
 have q1 := O3.c0
 have q2 := O3.c1
 have q3 := O3.c2
 have q4 := O3.frozen 2
 have p0 := T3.c0
 have p1 := T3.c1
 have p2 := T3.c2
 have p3 := T3.frozen
 have y1' := (y1.setCell z1 (.slice B2 p.done.length m2)).below b3
 have y2' := (r2.setCell z4 (.slice B2 p.done.length m2)).below b3
 obtain ⟨B3, m3, rfl⟩ := slice_len r3
 have z5 : w.heap.size + 1 + 1 ∉ G3 := fun hx => by have := f3.2 _ hx; simp at this; omega
 have bb1 : Below w.heap.size w w1 := (((((Below.refl _ _).alloc (Nat.le_refl _) _).alloc (by simp <;> omega) _).alloc (by simp <;> omega) _).trans (b1.mono (by simp <;> omega)))
 have bb2 := (bb1.setCell (p := ⟨w.heap.size + 1 + 1, 0, none⟩) (by simp <;> omega) (.slice B1 p.lines.length m1)).trans (b2.mono (by simp <;> omega))
 have bb3 := (bb2.setCell (p := ⟨w.heap.size + 1 + 1, 1, none⟩) (by simp <;> omega) (.slice B2 p.done.length m2)).trans (b3.mono (by simp <;> omega))
 have bb4 := bb3.setCell (p := ⟨w.heap.size + 1 + 1, 2, none⟩) (by simp <;> omega) (.slice B3 p.undone.length m3)
 have fr1 := f1
 have k1' := y1'.blocks
 have t1 := r1.blocks
 have t2 := r2.blocks
 simp only [World.size_alloc, World.size_setCell] at f1 f2 f3
 go_wp2_with fail
 have n1 : w.heap.size + 1 ∉ G1 := fun hx => by have := f1.2 _ hx; omega
 have n2 : w.heap.size + 1 ∉ G2 := fun hx => by have := f2.2 _ hx; omega
 have n3 : w.heap.size + 1 ∉ G3 := fun hx => by have := f3.2 _ hx; omega
 have n4 : w.heap.size + 1 + 1 ∉ G1 := z1
 have TF := (((T3.far (p := ⟨w.heap.size + 1 + 1, 2, none⟩) (by simp <;> omega) (.slice B3 p.undone.length m3)).set 0 (.slice B1 p.lines.length m1)).set 1 (.slice B2 p.done.length m2)).set 2 (.slice B3 p.undone.length m3)
 have e0 := TF.c0
 have e1 := TF.c1
 have e2 := TF.c2
 refine bodyPost_ret (v := .agg #[.slice B1 p.lines.length m1, .slice B2 p.done.length m2, .slice B3 p.undone.length m3]) (by simp only [results, Tryz.results14]; go_simp) rfl ⟨_, G1 ++ (G2 ++ G3), rfl, ⟨_, _, _, G1, G2, G3, rfl, rfl, ?_, ?_, ?_⟩, ⟨?_, ?_⟩, ?_⟩
 · exact (((y1'.setCell z1 _).setCell n1 _).setCell n1 _).setCell n1 _
 · exact (((y2'.setCell z4 _).setCell n2 _).setCell n2 _).setCell n2 _
 · exact (((r3.setCell z5 _).setCell n3 _).setCell n3 _).setCell n3 _
 · refine List.nodup_append.2 ⟨f1.1, List.nodup_append.2 ⟨f2.1, f3.1, ?_⟩, ?_⟩
   · intro x hx y hy e
     subst e
     have := t2 _ hx
     have := f3.2 _ hy
     omega
   · intro x hx y hy e
     subst e
     have := t1 _ hx
     rcases List.mem_append.1 hy with hy | hy
     · have := f2.2 _ hy; omega
     · have := f3.2 _ hy; omega
 · intro x hx
   rcases List.mem_append.1 hx with hx | hx
   · have := f1.2 _ hx; omega
   · rcases List.mem_append.1 hx with hx | hx
     · have := f2.2 _ hx; omega
     · have := f3.2 _ hx; omega
 · exact ((bb4.setCell (p := ⟨w.heap.size + 1, 0, none⟩) (by simp <;> omega) _).setCell (p := ⟨w.heap.size + 1, 1, none⟩) (by simp <;> omega) _).setCell (p := ⟨w.heap.size + 1, 2, none⟩) (by simp <;> omega) _
theorem PageIs.shape {el es : TypeId} {o : Bool} {w : World} {p : PPage} {v : Value} {F : List Nat} (h : PageIs el es o w p v F) :
 ∃ A1 k1 A2 k2 A3 k3, v = .agg #[.slice A1 p.lines.length k1, .slice A2 p.done.length k2, .slice A3 p.undone.length k3] := by
 obtain ⟨a, b, c, F1, F2, F3, rfl, rfl, h1, h2, h3⟩ := h
 obtain ⟨A1, k1, rfl⟩ := slice_len h1
 obtain ⟨A2, k2, rfl⟩ := slice_len h2
 obtain ⟨A3, k3, rfl⟩ := slice_len h3
 exact ⟨_, _, _, _, _, _, rfl⟩
theorem PageIs.alloc {el es : TypeId} {o : Bool} {w : World} {p : PPage} {v : Value} {F : List Nat} (h : PageIs el es o w p v F) (x : Obj) : PageIs el es o (w.alloc x) p v F := h.below ((Below.refl _ _).alloc (Nat.le_refl _) x)
theorem PageIs.drew {el es : TypeId} {o : Bool} {w : World} {p : PPage} {v : Value} {F : List Nat} (h : PageIs el es o w p v F) : PageIs el es o w.drew p v F := h.below (Below.refl _ _).drew
structure PDesk where
 session : PSess
 page : PPage
 deriving DecidableEq
structure DkSmall (q : PDesk) : Prop where
 s : SsSmall q.session
 p : PSmall q.page
structure DkBytes (q : PDesk) : Prop where
 s : SsBytes q.session
 p : PLaw q.page
def szDk (q : PDesk) : Nat := szSs q.session + szP q.page
def sameDeskB (p q : PDesk) : Bool := sameSessB p.session q.session && decide (p.page = q.page)
theorem sameDeskB_iff (p q : PDesk) : sameDeskB p q = true ↔ p = q := by
 cases p; cases q
 simp only [sameDeskB, Bool.and_eq_true, decide_eq_true_eq, PDesk.mk.injEq, sameSessB_iff]
theorem sameDeskB_refl (p : PDesk) : sameDeskB p p = true := (sameDeskB_iff p p).2 rfl
theorem DkSmall.of {q : PDesk} (h : szDk q ≤ 1048576) : DkSmall q ∧ DkBytes q := by
 unfold szDk at h
 have hs := SsSmall.of (q := q.session) (by omega)
 have hp := PLaw.of (p := q.page) (by omega)
 exact ⟨⟨hs.1, hp.s⟩, ⟨hs.2, hp⟩⟩
structure DIds where
 i : Ids
 ln : TypeId
 sp : TypeId
abbrev didsI : DIds := ⟨idsI, 159, 161⟩
def DeskIs (I : DIds) (o : Bool) (w : World) (p : PDesk) (v : Value) (F : List Nat) : Prop :=
 ∃ a0 a1 a2 a3 a4 a5 a6 a7 a8 F0 F1 F2 F3 F4 F5 F6 F7 F8, v = .agg #[.int .i64 p.session.setup.band, a0, .int .i64 p.session.setup.points, .int .i64 p.session.setup.most, .int .i64 p.session.setup.pen, a1, .int .i64 p.session.setup.dflt, a2, .int .i64 p.session.setup.pause, a3, a4, .int .i64 p.session.time, a5, a6, a7, a8] ∧ F = F0 ++ (F1 ++ (F2 ++ (F3 ++ (F4 ++ (F5 ++ (F6 ++ (F7 ++ F8))))))) ∧ (pTemps I.i.ft I.i.tm).rep o w p.session.setup.temps [a0] F0 ∧ (pEntrys I.i.en).rep o w p.session.setup.entries [a1] F1 ∧ (pBigrams I.i.bg).rep o w p.session.setup.bigrams [a2] F2 ∧ (pStrokes I.i.pt I.i.st).rep o w p.session.strokes [a3] F3 ∧ (pPoints I.i.pt).rep o w p.session.opn [a4] F4 ∧ (strs 9).rep o w p.session.words [a5] F5 ∧ (pLines I.ln).rep o w p.page.lines [a6] F6 ∧ (pSteps I.sp).rep o w p.page.done [a7] F7 ∧ (pSteps I.sp).rep o w p.page.undone [a8] F8
section
variable {I : DIds} {o : Bool} {w w' : World} {p : PDesk} {v : Value} {F G : List Nat}
theorem DeskIs.below (h : DeskIs I o w p v F) (hb : Below w.heap.size w w') : DeskIs I o w' p v F := by
 obtain ⟨a0, a1, a2, a3, a4, a5, a6, a7, a8, F0, F1, F2, F3, F4, F5, F6, F7, F8, rfl, rfl, h0, h1, h2, h3, h4, h5, h6, h7, h8⟩ := h
 exact ⟨a0, a1, a2, a3, a4, a5, a6, a7, a8, F0, F1, F2, F3, F4, F5, F6, F7, F8, rfl, rfl, h0.below hb, h1.below hb, h2.below hb, h3.below hb, h4.below hb, h5.below hb, h6.below hb, h7.below hb, h8.below hb⟩
theorem DeskIs.alloc (h : DeskIs I o w p v F) (x : Obj) : DeskIs I o (w.alloc x) p v F := by
 obtain ⟨a0, a1, a2, a3, a4, a5, a6, a7, a8, F0, F1, F2, F3, F4, F5, F6, F7, F8, rfl, rfl, h0, h1, h2, h3, h4, h5, h6, h7, h8⟩ := h
 exact ⟨a0, a1, a2, a3, a4, a5, a6, a7, a8, F0, F1, F2, F3, F4, F5, F6, F7, F8, rfl, rfl, h0.alloc x, h1.alloc x, h2.alloc x, h3.alloc x, h4.alloc x, h5.alloc x, h6.alloc x, h7.alloc x, h8.alloc x⟩
theorem DeskIs.drew (h : DeskIs I o w p v F) : DeskIs I o w.drew p v F := by
 obtain ⟨a0, a1, a2, a3, a4, a5, a6, a7, a8, F0, F1, F2, F3, F4, F5, F6, F7, F8, rfl, rfl, h0, h1, h2, h3, h4, h5, h6, h7, h8⟩ := h
 exact ⟨a0, a1, a2, a3, a4, a5, a6, a7, a8, F0, F1, F2, F3, F4, F5, F6, F7, F8, rfl, rfl, h0.drew, h1.drew, h2.drew, h3.drew, h4.drew, h5.drew, h6.drew, h7.drew, h8.drew⟩
theorem DeskIs.drewN (h : DeskIs I o w p v F) (n : Nat) : DeskIs I o (w.drewN n) p v F := by
 obtain ⟨a0, a1, a2, a3, a4, a5, a6, a7, a8, F0, F1, F2, F3, F4, F5, F6, F7, F8, rfl, rfl, h0, h1, h2, h3, h4, h5, h6, h7, h8⟩ := h
 exact ⟨a0, a1, a2, a3, a4, a5, a6, a7, a8, F0, F1, F2, F3, F4, F5, F6, F7, F8, rfl, rfl, h0.drewN n, h1.drewN n, h2.drewN n, h3.drewN n, h4.drewN n, h5.drewN n, h6.drewN n, h7.drewN n, h8.drewN n⟩
theorem DeskIs.only (h : DeskIs I o w p v F) (hb : Only G w w') (hd : ∀ x ∈ F, x ∉ G) : DeskIs I o w' p v F := by
 obtain ⟨a0, a1, a2, a3, a4, a5, a6, a7, a8, F0, F1, F2, F3, F4, F5, F6, F7, F8, rfl, rfl, h0, h1, h2, h3, h4, h5, h6, h7, h8⟩ := h
 exact ⟨a0, a1, a2, a3, a4, a5, a6, a7, a8, F0, F1, F2, F3, F4, F5, F6, F7, F8, rfl, rfl, h0.only hb (fun x hx => hd x (by simp [hx])), h1.only hb (fun x hx => hd x (by simp [hx])), h2.only hb (fun x hx => hd x (by simp [hx])), h3.only hb (fun x hx => hd x (by simp [hx])), h4.only hb (fun x hx => hd x (by simp [hx])), h5.only hb (fun x hx => hd x (by simp [hx])), h6.only hb (fun x hx => hd x (by simp [hx])), h7.only hb (fun x hx => hd x (by simp [hx])), h8.only hb (fun x hx => hd x (by simp [hx]))⟩
theorem DeskIs.blocks (h : DeskIs I o w p v F) : ∀ x ∈ F, x < w.heap.size := by
 obtain ⟨a0, a1, a2, a3, a4, a5, a6, a7, a8, F0, F1, F2, F3, F4, F5, F6, F7, F8, rfl, rfl, h0, h1, h2, h3, h4, h5, h6, h7, h8⟩ := h
 intro x hx
 repeat' (rcases List.mem_append.1 hx with hx | hx)
 all_goals first | exact h0.blocks x hx | exact h1.blocks x hx | exact h2.blocks x hx | exact h3.blocks x hx | exact h4.blocks x hx | exact h5.blocks x hx | exact h6.blocks x hx | exact h7.blocks x hx | exact h8.blocks x hx
theorem DeskIs.shape (h : DeskIs I o w p v F) : ∃ A0 k0 A1 k1 A2 k2 A3 k3 A4 k4 A5 k5 A6 k6 A7 k7 A8 k8, v = .agg #[.int .i64 p.session.setup.band, .slice A0 p.session.setup.temps.length k0, .int .i64 p.session.setup.points, .int .i64 p.session.setup.most, .int .i64 p.session.setup.pen, .slice A1 p.session.setup.entries.length k1, .int .i64 p.session.setup.dflt, .slice A2 p.session.setup.bigrams.length k2, .int .i64 p.session.setup.pause, .slice A3 p.session.strokes.length k3, .slice A4 p.session.opn.length k4, .int .i64 p.session.time, .slice A5 p.session.words.length k5, .slice A6 p.page.lines.length k6, .slice A7 p.page.done.length k7, .slice A8 p.page.undone.length k8] := by
 obtain ⟨a0, a1, a2, a3, a4, a5, a6, a7, a8, F0, F1, F2, F3, F4, F5, F6, F7, F8, rfl, rfl, h0, h1, h2, h3, h4, h5, h6, h7, h8⟩ := h
 obtain ⟨A0, k0, rfl⟩ := slice_len h0
 obtain ⟨A1, k1, rfl⟩ := slice_len h1
 obtain ⟨A2, k2, rfl⟩ := slice_len h2
 obtain ⟨A3, k3, rfl⟩ := slice_len h3
 obtain ⟨A4, k4, rfl⟩ := slice_len h4
 obtain ⟨A5, k5, rfl⟩ := slice_len h5
 obtain ⟨A6, k6, rfl⟩ := slice_len h6
 obtain ⟨A7, k7, rfl⟩ := slice_len h7
 obtain ⟨A8, k8, rfl⟩ := slice_len h8
 exact ⟨A0, k0, A1, k1, A2, k2, A3, k3, A4, k4, A5, k5, A6, k6, A7, k7, A8, k8, rfl⟩
theorem DeskIs.parts (h : DeskIs I o w p v F) : ∃ a0 a1 a2 a3 a4 a5 a6 a7 a8 F0 F1 F2 F3 F4 F5 F6 F7 F8, v = .agg #[.int .i64 p.session.setup.band, a0, .int .i64 p.session.setup.points, .int .i64 p.session.setup.most, .int .i64 p.session.setup.pen, a1, .int .i64 p.session.setup.dflt, a2, .int .i64 p.session.setup.pause, a3, a4, .int .i64 p.session.time, a5, a6, a7, a8] ∧ F = F0 ++ (F1 ++ (F2 ++ (F3 ++ (F4 ++ (F5 ++ (F6 ++ (F7 ++ F8))))))) ∧ (pTemps I.i.ft I.i.tm).rep o w p.session.setup.temps [a0] F0 ∧ (pEntrys I.i.en).rep o w p.session.setup.entries [a1] F1 ∧ (pBigrams I.i.bg).rep o w p.session.setup.bigrams [a2] F2 ∧ (pStrokes I.i.pt I.i.st).rep o w p.session.strokes [a3] F3 ∧ (pPoints I.i.pt).rep o w p.session.opn [a4] F4 ∧ (strs 9).rep o w p.session.words [a5] F5 ∧ (pLines I.ln).rep o w p.page.lines [a6] F6 ∧ (pSteps I.sp).rep o w p.page.done [a7] F7 ∧ (pSteps I.sp).rep o w p.page.undone [a8] F8 := h
end
def GivesDesk (p : PDesk) (w : World) (e : Ending) (w' : World) : Prop := ∃ v F, e = .returned v ∧ DeskIs didsI true w' p v F ∧ Fresh w.heap.size F ∧ Below w.heap.size w w'
theorem DeskIs.split {I : DIds} {o : Bool} {w : World} {p : PDesk} {F : List Nat} {a b c d g x l m n : Value} (h : DeskIs I o w p (.agg #[.int .i64 p.session.setup.band, a, .int .i64 p.session.setup.points, .int .i64 p.session.setup.most, .int .i64 p.session.setup.pen, b, .int .i64 p.session.setup.dflt, c, .int .i64 p.session.setup.pause, d, g, .int .i64 p.session.time, x, l, m, n]) F) : ∃ F1 F2, F = F1 ++ F2 ∧ SessIs I.i o w p.session (.agg #[.int .i64 p.session.setup.band, a, .int .i64 p.session.setup.points, .int .i64 p.session.setup.most, .int .i64 p.session.setup.pen, b, .int .i64 p.session.setup.dflt, c, .int .i64 p.session.setup.pause, d, g, .int .i64 p.session.time, x]) F1 ∧ PageIs I.ln I.sp o w p.page (.agg #[l, m, n]) F2 := by
 obtain ⟨e0, e1, e2, e3, e4, e5, e6, e7, e8, F0, F1, F2, F3, F4, F5, F6, F7, F8, he, rfl, h1, h2, h3, h4, h5, h6, h7, h8, h9⟩ := h
 simp only [Value.agg.injEq, Array.mk.injEq, List.cons.injEq, and_true, true_and] at he
 obtain ⟨rfl, rfl, rfl, rfl, rfl, rfl, rfl, rfl, rfl⟩ := he
 exact ⟨F0 ++ (F1 ++ (F2 ++ (F3 ++ (F4 ++ F5)))), F6 ++ (F7 ++ F8), by simp only [List.append_assoc], ⟨a, b, c, d, g, x, F0, F1, F2, F3, F4, F5, rfl, rfl, h1, h2, h3, h4, h5, h6⟩, ⟨l, m, n, F6, F7, F8, rfl, rfl, h7, h8, h9⟩⟩
theorem DeskIs.join {I : DIds} {o : Bool} {w : World} {p : PDesk} {F1 F2 : List Nat} {s0 s1 s2 s3 s4 s5 s6 s7 s8 s9 s10 s11 s12 l m n : Value} (hs : SessIs I.i o w p.session (.agg #[s0, s1, s2, s3, s4, s5, s6, s7, s8, s9, s10, s11, s12]) F1) (hg : PageIs I.ln I.sp o w p.page (.agg #[l, m, n]) F2) : DeskIs I o w p (.agg #[s0, s1, s2, s3, s4, s5, s6, s7, s8, s9, s10, s11, s12, l, m, n]) (F1 ++ F2) := by
 obtain ⟨a0, a1, a2, a3, a4, a5, H0, H1, H2, H3, H4, H5, he, rfl, h0, h1, h2, h3, h4, h5⟩ := hs
 obtain ⟨b0, b1, b2, K0, K1, K2, hf, rfl, k0, k1, k2⟩ := hg
 simp only [Value.agg.injEq, Array.mk.injEq, List.cons.injEq, and_true] at he hf
 obtain ⟨rfl, rfl, rfl, rfl, rfl, rfl, rfl, rfl, rfl, rfl, rfl, rfl, rfl⟩ := he
 obtain ⟨rfl, rfl, rfl⟩ := hf
 exact ⟨_, _, _, _, _, _, _, _, _, H0, H1, H2, H3, H4, H5, K0, K1, K2, rfl, by simp only [List.append_assoc], h0, h1, h2, h3, h4, h5, k0, k1, k2⟩
end Go.Proofs.YtboijogahclekaaGreatDoor
