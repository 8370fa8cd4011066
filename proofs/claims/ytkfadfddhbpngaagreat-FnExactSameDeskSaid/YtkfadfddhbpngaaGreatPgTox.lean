/- Pages: a law's page, weighed and turned into the program's page. Conditions: none. -/
import Derived.Test.YtkfadfddhbpngaaGreatTkx
import Derived.Test.YtkfadfddhbpngaaGreatPgMathx
namespace Go.Proofs.YtkfadfddhbpngaaGreat
open Go Go.RowKit

/-- What a page weighs. -/
def szP (p : PPage) : Nat := szLines p.lines + szpStep p.done + szpStep p.undone
theorem szpStep_each {xs : List PStep} {n : Nat} (h : szpStep xs ≤ n) : xs.length ≤ n ∧ ∀ s ∈ xs, s.word.size ≤ n ∧ s.old.size ≤ n := by
 unfold szpStep at h
 refine ⟨by omega, fun s hs => ?_⟩
 have := mem_sum (List.mem_map.2 ⟨s, hs, rfl⟩ : pStepW s ∈ xs.map pStepW)
 have e : pStepW s = s.word.size + s.old.size := rfl
 omega
theorem words_le : ∀ xs : List PLine, wordsIn xs ≤ szLines xs := by
 intro xs
 have : ∀ xs : List PLine, (xs.map List.length).sum ≤ (xs.map szStrs).sum := by
  intro xs
  induction xs with
  | nil => simp
  | cons a r ih => simp only [List.map_cons, List.sum_cons, szStrs]; omega
 have := this xs
 unfold wordsIn szLines; omega
/-- A page is small enough for a law. -/
structure PLaw (p : PPage) : Prop where
 s : PSmall p
 b : PBytes p
 m : marksIn p ≤ 5242880
theorem PLaw.of {p : PPage} (h : szP p ≤ 1048576) : PLaw p := by
 unfold szP at h
 have l := szLines_each (xs := p.lines) (n := 1048576) (by omega)
 have d := szpStep_each (xs := p.done) (n := 1048576) (by omega)
 have u := szpStep_each (xs := p.undone) (n := 1048576) (by omega)
 have ww := words_le p.lines
 have hd : p.done.length ≤ szpStep p.done := by unfold szpStep; omega
 have hu : p.undone.length ≤ szpStep p.undone := by unfold szpStep; omega
 exact ⟨⟨l.1, fun x hx => (l.2 x hx).1, by omega, d.1, u.1⟩, ⟨fun x hx => (l.2 x hx).2, d.2, u.2⟩, by unfold marksIn; omega⟩

set_option maxHeartbeats 1000000 in
theorem szPage_c {el es : TypeId} {o : Bool} {p : PPage} {v : Value} {F : List Nat} (w : World) (h : PageIs el es o w p v F) (left : Int) (hl : 0 ≤ left ∧ left ≤ 1048576) :
 Calls Tryz.prog 28 #[v, .int .i64 left] w fun e w' => (∃ r : Int, e = .returned (.int .i64 r) ∧ r ≤ left ∧ (0 ≤ r → r + szP p ≤ left)) ∧ Below w.heap.size w w' := by
 obtain ⟨a, b, c, F1, F2, F3, rfl, rfl, h1, h2, h3⟩ := h
 unfold szP
 have al : ∀ x, Below w.heap.size w (w.alloc x) := fun x => (Below.refl _ _).alloc (Nat.le_refl _) x
 obtain ⟨A1, k1, rfl⟩ := slice_len h1
 obtain ⟨A2, k2, rfl⟩ := slice_len h2
 obtain ⟨A3, k3, rfl⟩ := slice_len h3
 go_enter Tryz.func28, Tryz.ntmps28
 go_wp2_with fail
 refine (szTextLineS_c _ (h1.alloc _) left hl).mono ?_
 rintro e w1 ⟨⟨r1, rfl, g1, g2⟩, b1⟩
 obtain ⟨hcc, hff⟩ := bcell b1
 by_cases n1 : r1 < 0
 · go_wp2_with fail
   go_ret
   exact ⟨⟨-1, rfl, by omega, by omega⟩, (al _).trans (b1.mono (by simp))⟩
 · go_wp2_with fail
   refine (szStepS_c _ ((h2.alloc _).below b1) r1 (by omega)).mono ?_
   rintro e w2 ⟨⟨r2, rfl, _, g3, g4⟩, b2⟩
   clear hcc hff
   obtain ⟨hcc, hff⟩ := bcell (bt b1 b2)
   by_cases n2 : r2 < 0
   · go_wp2_with fail
     go_ret
     exact ⟨⟨-1, rfl, by omega, by omega⟩, bt ((al _).trans (b1.mono (by simp))) b2⟩
   · go_wp2_with fail
     refine (szStepS_c _ (((h3.alloc _).below b1).below b2) r2 (by omega)).mono ?_
     rintro e w3 ⟨⟨r3, rfl, _, g5, g6⟩, b3⟩
     by_cases n3 : r3 < 0
     · go_wp2_with fail
       go_ret
       exact ⟨⟨-1, rfl, by omega, by omega⟩, bt (bt ((al _).trans (b1.mono (by simp))) b2) b3⟩
     · go_wp2_with fail
       go_ret
       exact ⟨⟨r3, rfl, by omega, fun _ => by have := g2 (by omega); have := g4 (by omega); have := g6 (by omega); omega⟩, bt (bt ((al _).trans (b1.mono (by simp))) b2) b3⟩

/-- A page in memory of its own. -/
def GivesPage (p : PPage) (w : World) (e : Ending) (w' : World) : Prop := ∃ v F, e = .returned v ∧ PageIs 147 159 true w' p v F ∧ Fresh w.heap.size F ∧ Below w.heap.size w w'

set_option maxHeartbeats 2000000 in
theorem toPage_c {el es : TypeId} {o : Bool} {p : PPage} {v : Value} {F : List Nat} (w : World) (h : PageIs el es o w p v F) (hp : PSmall p) :
 Calls Tryz.prog 32 #[v] w (GivesPage p w) := by
 obtain ⟨a, b, c, F1, F2, F3, rfl, rfl, h1, h2, h3⟩ := h
 obtain ⟨A1, k1, rfl⟩ := slice_len h1
 obtain ⟨A2, k2, rfl⟩ := slice_len h2
 obtain ⟨A3, k3, rfl⟩ := slice_len h3
 have l1 := h1.blocks
 have l2 := h2.blocks
 have l3 := h3.blocks
 go_enter Tryz.func32, Tryz.ntmps32
 go_wp2_with fail
 refine (toTextLineS_c _ (((h1.alloc _).alloc _).alloc _) hp.l hp.w).mono ?_
 rintro e w1 ⟨u1, G1, rfl, r1, f1, b1⟩
 have R1 := (((Row.new w 45 #[.slice A1 p.lines.length k1, .slice A2 p.done.length k2, .slice A3 p.undone.length k3]).alloc (.cells #[.slice none 0 0, .slice none 0 0, .slice none 0 0] 71)).alloc (.cells #[.slice none 0 0, .slice none 0 0, .slice none 0 0] 71)).later b1
 have T1 := ((Row.new (w.alloc (.cells #[.slice A1 p.lines.length k1, .slice A2 p.done.length k2, .slice A3 p.undone.length k3] 45)) 71 #[.slice none 0 0, .slice none 0 0, .slice none 0 0]).alloc (.cells #[.slice none 0 0, .slice none 0 0, .slice none 0 0] 71)).later b1
 have O1 := (Row.new ((w.alloc (.cells #[.slice A1 p.lines.length k1, .slice A2 p.done.length k2, .slice A3 p.undone.length k3] 45)).alloc (.cells #[.slice none 0 0, .slice none 0 0, .slice none 0 0] 71)) 71 #[.slice none 0 0, .slice none 0 0, .slice none 0 0]).later b1
 simp only [World.size_alloc] at O1 T1
 have s1 := b1.size
 simp only [World.size_alloc] at s1
 have q1 := R1.cell' (i := 1) rfl
 have q2 := O1.cell' (i := 0) rfl
 have q3 := O1.frozen 0
 have x2 := (((h2.alloc _).alloc _).alloc _).below b1
 have x3 := (((h3.alloc _).alloc _).alloc _).below b1
 obtain ⟨B1, m1, rfl⟩ := slice_len r1
 go_wp2_with fail
 have z2 : w.heap.size + 1 + 1 ∉ F2 := fun hx => by have := l2 _ hx; omega
 have z3 : w.heap.size + 1 + 1 ∉ F3 := fun hx => by have := l3 _ hx; omega
 have z1 : w.heap.size + 1 + 1 ∉ G1 := fun hx => by have := f1.2 _ hx; simp at this; omega
 refine (toStepS_c _ (x2.setCell z2 _) hp.d).mono ?_
 rintro e w2 ⟨u2, G2, rfl, r2, f2, b2⟩
 have T2 := (T1.far (p := ⟨w.heap.size + 1 + 1, 0, none⟩) (by simp <;> omega) (.slice B1 p.lines.length m1)).later b2
 have R2 := (R1.far (p := ⟨w.heap.size + 1 + 1, 0, none⟩) (by simp <;> omega) (.slice B1 p.lines.length m1)).later b2
 have O2 := (O1.set 0 (.slice B1 p.lines.length m1)).later b2
 have s2 := b2.size
 simp only [World.size_setCell] at s2
 clear q1 q2 q3
 have q1 := R2.cell' (i := 2) rfl
 have q2 := O2.cell' (i := 1) rfl
 have q3 := O2.frozen 1
 have y3 := (x3.setCell z3 (.slice B1 p.lines.length m1)).below b2
 have y1 := (r1.setCell z1 (.slice B1 p.lines.length m1)).below b2
 obtain ⟨B2, m2, rfl⟩ := slice_len r2
 go_wp2_with fail
 have z4 : w.heap.size + 1 + 1 ∉ G2 := fun hx => by have := f2.2 _ hx; simp at this; omega
 refine (toStepS_c _ (y3.setCell z3 _) hp.u).mono ?_
 rintro e w3 ⟨u3, G3, rfl, r3, f3, b3⟩
 have T3 := (T2.far (p := ⟨w.heap.size + 1 + 1, 1, none⟩) (by simp <;> omega) (.slice B2 p.done.length m2)).later b3
 have O3 := (O2.set 1 (.slice B2 p.done.length m2)).later b3
 have s3 := b3.size
 simp only [World.size_setCell] at s3
 clear q1 q2 q3
 have q1 := O3.cell' (i := 0) rfl
 have q2 := O3.cell' (i := 1) rfl
 have q3 := O3.cell' (i := 2) rfl
 have q4 := O3.frozen 2
 have p0 := T3.cell' (i := 0) rfl
 have p1 := T3.cell' (i := 1) rfl
 have p2 := T3.cell' (i := 2) rfl
 have p3 := T3.frozen
 have y1' := (y1.setCell z1 (.slice B2 p.done.length m2)).below b3
 have y2' := (r2.setCell z4 (.slice B2 p.done.length m2)).below b3
 obtain ⟨B3, m3, rfl⟩ := slice_len r3
 have z5 : w.heap.size + 1 + 1 ∉ G3 := fun hx => by have := f3.2 _ hx; simp at this; omega
 have bb1 : Below w.heap.size w w1 := (((((Below.refl _ _).alloc (Nat.le_refl _) _).alloc (by simp <;> omega) _).alloc (by simp <;> omega) _).trans (b1.mono (by simp <;> omega)))
 have bb2 := (bb1.setCell (p := ⟨w.heap.size + 1 + 1, 0, none⟩) (by simp <;> omega) (.slice B1 p.lines.length m1)).trans (b2.mono (by simp <;> omega))
 have bb3 := (bb2.setCell (p := ⟨w.heap.size + 1 + 1, 1, none⟩) (by simp <;> omega) (.slice B2 p.done.length m2)).trans (b3.mono (by simp <;> omega))
 have bb4 := bb3.setCell (p := ⟨w.heap.size + 1 + 1, 2, none⟩) (by simp <;> omega) (.slice B3 p.undone.length m3)
 have fr1 := f1
 have k1' := y1'.blocks
 have t1 := r1.blocks
 have t2 := r2.blocks
 simp only [World.size_alloc, World.size_setCell] at f1 f2 f3
 go_wp2_with fail
 have n1 : w.heap.size + 1 ∉ G1 := fun hx => by have := f1.2 _ hx; omega
 have n2 : w.heap.size + 1 ∉ G2 := fun hx => by have := f2.2 _ hx; omega
 have n3 : w.heap.size + 1 ∉ G3 := fun hx => by have := f3.2 _ hx; omega
 have n4 : w.heap.size + 1 + 1 ∉ G1 := z1
 have TF := (((T3.far (p := ⟨w.heap.size + 1 + 1, 2, none⟩) (by simp <;> omega) (.slice B3 p.undone.length m3)).set 0 (.slice B1 p.lines.length m1)).set 1 (.slice B2 p.done.length m2)).set 2 (.slice B3 p.undone.length m3)
 have e0 := TF.cell' (i := 0) rfl
 have e1 := TF.cell' (i := 1) rfl
 have e2 := TF.cell' (i := 2) rfl
 refine bodyPost_ret (v := .agg #[.slice B1 p.lines.length m1, .slice B2 p.done.length m2, .slice B3 p.undone.length m3]) (by simp only [results, Tryz.results32]; go_simp) rfl ⟨_, G1 ++ (G2 ++ G3), rfl, ⟨_, _, _, G1, G2, G3, rfl, rfl, ?_, ?_, ?_⟩, ⟨?_, ?_⟩, ?_⟩
 · exact (((y1'.setCell z1 _).setCell n1 _).setCell n1 _).setCell n1 _
 · exact (((y2'.setCell z4 _).setCell n2 _).setCell n2 _).setCell n2 _
 · exact (((r3.setCell z5 _).setCell n3 _).setCell n3 _).setCell n3 _
 · refine List.nodup_append.2 ⟨f1.1, List.nodup_append.2 ⟨f2.1, f3.1, ?_⟩, ?_⟩
   · intro x hx y hy e
     subst e
     have := t2 _ hx
     have := f3.2 _ hy
     omega
   · intro x hx y hy e
     subst e
     have := t1 _ hx
     rcases List.mem_append.1 hy with hy | hy
     · have := f2.2 _ hy; omega
     · have := f3.2 _ hy; omega
 · intro x hx
   rcases List.mem_append.1 hx with hx | hx
   · have := f1.2 _ hx; omega
   · rcases List.mem_append.1 hx with hx | hx
     · have := f2.2 _ hx; omega
     · have := f3.2 _ hx; omega
 · exact ((bb4.setCell (p := ⟨w.heap.size + 1, 0, none⟩) (by simp <;> omega) _).setCell (p := ⟨w.heap.size + 1, 1, none⟩) (by simp <;> omega) _).setCell (p := ⟨w.heap.size + 1, 2, none⟩) (by simp <;> omega) _

theorem PageIs.shape {el es : TypeId} {o : Bool} {w : World} {p : PPage} {v : Value} {F : List Nat} (h : PageIs el es o w p v F) :
 ∃ A1 k1 A2 k2 A3 k3, v = .agg #[.slice A1 p.lines.length k1, .slice A2 p.done.length k2, .slice A3 p.undone.length k3] := by
 obtain ⟨a, b, c, F1, F2, F3, rfl, rfl, h1, h2, h3⟩ := h
 obtain ⟨A1, k1, rfl⟩ := slice_len h1
 obtain ⟨A2, k2, rfl⟩ := slice_len h2
 obtain ⟨A3, k3, rfl⟩ := slice_len h3
 exact ⟨_, _, _, _, _, _, rfl⟩
theorem PageIs.alloc {el es : TypeId} {o : Bool} {w : World} {p : PPage} {v : Value} {F : List Nat} (h : PageIs el es o w p v F) (x : Obj) : PageIs el es o (w.alloc x) p v F := h.below ((Below.refl _ _).alloc (Nat.le_refl _) x)
theorem PageIs.drew {el es : TypeId} {o : Bool} {w : World} {p : PPage} {v : Value} {F : List Nat} (h : PageIs el es o w p v F) : PageIs el es o w.drew p v F := h.below (Below.refl _ _).drew

end Go.Proofs.YtkfadfddhbpngaaGreat
