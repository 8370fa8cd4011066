/- Pages: lines after a step, in the reference. Conditions: none. -/
import Derived.Test.YtkfadfddhbpngaaGreatPgImplv
import Derived.Test.YtkfadfddhbpngaaGreatSlOpsv
import Derived.Test.YtkfadfddhbpngaaGreatTkv
import Derived.Test.YtkfadfddhbpngaaGreatSeIsv
namespace Go.Proofs.YtkfadfddhbpngaaGreat
open Go Go.RowKit

/-- A list's two parts at a place, as an append reads them; nil or not. -/
structure Parts (w : World) (xs : List ByteArray) (A : Option Addr) (k a a' : Nat) (AD : Option Addr) (ecT ecD : List Value) : Prop where
 t : repL str true w (xs.take a) ecT []
 d : repL str true w (xs.drop a') ecD []
 ct : CellsAt w A ecT
 cd : CellsAt w AD ecD
theorem Parts.below {w w' : World} {xs : List ByteArray} {A AD : Option Addr} {k a a' : Nat} {ecT ecD : List Value} (h : Parts w xs A k a a' AD ecT ecD) (hb : Below w.heap.size w w') : Parts w' xs A k a a' AD ecT ecD :=
 ⟨repL_below h.t hb, repL_below h.d hb, h.ct.below hb, h.cd.below hb⟩
end Go.Proofs.YtkfadfddhbpngaaGreat
namespace Go.Proofs.YtkfadfddhbpngaaGreat
open Go Go.RowKit

/-- A step's texts are not long. -/
def StepSmall (s : PStep) : Prop := s.word.size ≤ 1048576 ∧ s.old.size ≤ 1048576
end Go.Proofs.YtkfadfddhbpngaaGreat
namespace Go.Proofs.YtkfadfddhbpngaaGreat
open Go Go.RowKit

/-- No text in a page is long. -/
structure PBytes (p : PPage) : Prop where
 l : LineBytes p.lines
 d : ∀ s ∈ p.done, StepSmall s
 u : ∀ s ∈ p.undone, StepSmall s

end Go.Proofs.YtkfadfddhbpngaaGreat
namespace Go.Proofs.YtkfadfddhbpngaaGreat
open Go Go.RowKit

/-- A step's cells in a box. -/
def BoxS (g : Nat) (s : PStep) (w : World) : Prop := w.cell? ⟨g, 0, none⟩ = some (.int .i64 s.kind) ∧ w.cell? ⟨g, 1, none⟩ = some (.int .i64 s.line) ∧ w.cell? ⟨g, 2, none⟩ = some (.int .i64 s.pos) ∧ w.cell? ⟨g, 3, none⟩ = some (.string s.word) ∧ w.cell? ⟨g, 4, none⟩ = some (.string s.old)
theorem BoxS.of {w : World} {g : Nat} {s : PStep} (h : Row w g 159 (pStepCells s)) : BoxS g s w := ⟨h.cell' (i := 0) rfl, h.cell' (i := 1) rfl, h.cell' (i := 2) rfl, h.cell' (i := 3) rfl, h.cell' (i := 4) rfl⟩

end Go.Proofs.YtkfadfddhbpngaaGreat
namespace Go.Proofs.YtkfadfddhbpngaaGreat
open Go Go.RowKit

/-- What a page weighs. -/
def szP (p : PPage) : Nat := szLines p.lines + szpStep p.done + szpStep p.undone
theorem szpStep_each {xs : List PStep} {n : Nat} (h : szpStep xs ≤ n) : xs.length ≤ n ∧ ∀ s ∈ xs, s.word.size ≤ n ∧ s.old.size ≤ n := by
 unfold szpStep at h
 refine ⟨by omega, fun s hs => ?_⟩
 have := mem_sum (List.mem_map.2 ⟨s, hs, rfl⟩ : pStepW s ∈ xs.map pStepW)
 have e : pStepW s = s.word.size + s.old.size := rfl
 omega
theorem words_le : ∀ xs : List PLine, wordsIn xs ≤ szLines xs := by
 intro xs
 have : ∀ xs : List PLine, (xs.map List.length).sum ≤ (xs.map szStrs).sum := by
  intro xs
  induction xs with
  | nil => simp
  | cons a r ih => simp only [List.map_cons, List.sum_cons, szStrs]; omega
 have := this xs
 unfold wordsIn szLines; omega
/-- A page is small enough for a law. -/
structure PLaw (p : PPage) : Prop where
 s : PSmall p
 b : PBytes p
 m : marksIn p ≤ 5242880
theorem PLaw.of {p : PPage} (h : szP p ≤ 1048576) : PLaw p := by
 unfold szP at h
 have l := szLines_each (xs := p.lines) (n := 1048576) (by omega)
 have d := szpStep_each (xs := p.done) (n := 1048576) (by omega)
 have u := szpStep_each (xs := p.undone) (n := 1048576) (by omega)
 have ww := words_le p.lines
 have hd : p.done.length ≤ szpStep p.done := by unfold szpStep; omega
 have hu : p.undone.length ≤ szpStep p.undone := by unfold szpStep; omega
 exact ⟨⟨l.1, fun x hx => (l.2 x hx).1, by omega, d.1, u.1⟩, ⟨fun x hx => (l.2 x hx).2, d.2, u.2⟩, by unfold marksIn; omega⟩

/-- A page in memory of its own. -/
def GivesPage (p : PPage) (w : World) (e : Ending) (w' : World) : Prop := ∃ v F, e = .returned v ∧ PageIs 147 159 true w' p v F ∧ Fresh w.heap.size F ∧ Below w.heap.size w w'

theorem PageIs.shape {el es : TypeId} {o : Bool} {w : World} {p : PPage} {v : Value} {F : List Nat} (h : PageIs el es o w p v F) :
 ∃ A1 k1 A2 k2 A3 k3, v = .agg #[.slice A1 p.lines.length k1, .slice A2 p.done.length k2, .slice A3 p.undone.length k3] := by
 obtain ⟨a, b, c, F1, F2, F3, rfl, rfl, h1, h2, h3⟩ := h
 obtain ⟨A1, k1, rfl⟩ := slice_len h1
 obtain ⟨A2, k2, rfl⟩ := slice_len h2
 obtain ⟨A3, k3, rfl⟩ := slice_len h3
 exact ⟨_, _, _, _, _, _, rfl⟩
theorem PageIs.alloc {el es : TypeId} {o : Bool} {w : World} {p : PPage} {v : Value} {F : List Nat} (h : PageIs el es o w p v F) (x : Obj) : PageIs el es o (w.alloc x) p v F := h.below ((Below.refl _ _).alloc (Nat.le_refl _) x)
theorem PageIs.drew {el es : TypeId} {o : Bool} {w : World} {p : PPage} {v : Value} {F : List Nat} (h : PageIs el es o w p v F) : PageIs el es o w.drew p v F := h.below (Below.refl _ _).drew

end Go.Proofs.YtkfadfddhbpngaaGreat
namespace Go.Proofs.YtkfadfddhbpngaaGreat
open Go Go.RowKit

structure PDesk where
 session : PSess
 page : PPage
 deriving DecidableEq
structure DkSmall (q : PDesk) : Prop where
 s : SsSmall q.session
 p : PSmall q.page
structure DkBytes (q : PDesk) : Prop where
 s : SsBytes q.session
 p : PLaw q.page
def szDk (q : PDesk) : Nat := szSs q.session + szP q.page
def sameDeskB (p q : PDesk) : Bool := sameSessB p.session q.session && decide (p.page = q.page)
theorem sameDeskB_iff (p q : PDesk) : sameDeskB p q = true ↔ p = q := by
 cases p; cases q
 simp only [sameDeskB, Bool.and_eq_true, decide_eq_true_eq, PDesk.mk.injEq, sameSessB_iff]
theorem sameDeskB_refl (p : PDesk) : sameDeskB p p = true := (sameDeskB_iff p p).2 rfl
theorem DkSmall.of {q : PDesk} (h : szDk q ≤ 1048576) : DkSmall q ∧ DkBytes q := by
 unfold szDk at h
 have hs := SsSmall.of (q := q.session) (by omega)
 have hp := PLaw.of (p := q.page) (by omega)
 exact ⟨⟨hs.1, hp.s⟩, ⟨hs.2, hp⟩⟩
end Go.Proofs.YtkfadfddhbpngaaGreat
