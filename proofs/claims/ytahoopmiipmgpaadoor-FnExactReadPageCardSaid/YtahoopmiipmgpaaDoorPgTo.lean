/- Pages: a law's page, weighed and turned into the program's page. Conditions: none. -/
import Derived.Test.YtahoopmiipmgpaaDoorPgOk
import Derived.Test.YtahoopmiipmgpaaDoorPgPush
namespace Go.Proofs.YtahoopmiipmgpaaDoor
open Go Go.RowKit

/-- What a page weighs. -/
def szP (p : PPage) : Nat := szLines p.lines + szpStep p.done + szpStep p.undone
theorem szpStep_each {xs : List PStep} {n : Nat} (h : szpStep xs ≤ n) : xs.length ≤ n ∧ ∀ s ∈ xs, s.word.size ≤ n ∧ s.old.size ≤ n := by
  unfold szpStep at h
  refine ⟨by omega, fun s hs => ?_⟩
  have := mem_sum (List.mem_map.2 ⟨s, hs, rfl⟩ : pStepW s ∈ xs.map pStepW)
  have e : pStepW s = s.word.size + s.old.size := rfl
  omega
theorem words_le : ∀ xs : List PLine, wordsIn xs ≤ szLines xs := by
  intro xs
  have : ∀ xs : List PLine, (xs.map List.length).sum ≤ (xs.map szStrs).sum := by
    intro xs
    induction xs with
    | nil => simp
    | cons a r ih => simp only [List.map_cons, List.sum_cons, szStrs]; omega
  have := this xs
  unfold wordsIn szLines; omega
/-- A page is small enough for a law. -/
structure PLaw (p : PPage) : Prop where
  s : PSmall p
  b : PBytes p
  m : marksIn p ≤ 5242880
theorem PLaw.of {p : PPage} (h : szP p ≤ 1048576) : PLaw p := by
  unfold szP at h
  have l := szLines_each (xs := p.lines) (n := 1048576) (by omega)
  have d := szpStep_each (xs := p.done) (n := 1048576) (by omega)
  have u := szpStep_each (xs := p.undone) (n := 1048576) (by omega)
  have ww := words_le p.lines
  have hd : p.done.length ≤ szpStep p.done := by unfold szpStep; omega
  have hu : p.undone.length ≤ szpStep p.undone := by unfold szpStep; omega
  exact ⟨⟨l.1, fun x hx => (l.2 x hx).1, by omega, d.1, u.1⟩, ⟨fun x hx => (l.2 x hx).2, d.2, u.2⟩, by unfold marksIn; omega⟩


/-- A page in memory of its own. -/
def GivesPage (p : PPage) (w : World) (e : Ending) (w' : World) : Prop := ∃ v F, e = .returned v ∧ PageIs 39 66 true w' p v F ∧ Fresh w.heap.size F ∧ Below w.heap.size w w'


theorem PageIs.shape {el es : TypeId} {o : Bool} {w : World} {p : PPage} {v : Value} {F : List Nat} (h : PageIs el es o w p v F) :
    ∃ A1 k1 A2 k2 A3 k3, v = .agg #[.slice A1 p.lines.length k1, .slice A2 p.done.length k2, .slice A3 p.undone.length k3] := by
  obtain ⟨a, b, c, F1, F2, F3, rfl, rfl, h1, h2, h3⟩ := h
  obtain ⟨A1, k1, rfl⟩ := slice_len h1
  obtain ⟨A2, k2, rfl⟩ := slice_len h2
  obtain ⟨A3, k3, rfl⟩ := slice_len h3
  exact ⟨_, _, _, _, _, _, rfl⟩
theorem PageIs.alloc {el es : TypeId} {o : Bool} {w : World} {p : PPage} {v : Value} {F : List Nat} (h : PageIs el es o w p v F) (x : Obj) : PageIs el es o (w.alloc x) p v F := h.below ((Below.refl _ _).alloc (Nat.le_refl _) x)
theorem PageIs.drew {el es : TypeId} {o : Bool} {w : World} {p : PPage} {v : Value} {F : List Nat} (h : PageIs el es o w p v F) : PageIs el es o w.drew p v F := h.below (Below.refl _ _).drew

end Go.Proofs.YtahoopmiipmgpaaDoor
