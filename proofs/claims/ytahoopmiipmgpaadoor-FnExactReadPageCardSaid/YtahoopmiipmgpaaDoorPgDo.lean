/- Pages: one step done. Conditions: none. -/
import Derived.Test.YtahoopmiipmgpaaDoorPgTo
namespace Go.Proofs.YtahoopmiipmgpaaDoor
open Go Go.RowKit

/-- A page to be read. -/
def GivesPageR (p : PPage) (w : World) (e : Ending) (w' : World) : Prop := ∃ v F, e = .returned v ∧ PageIs 39 66 false w' p v F ∧ (∀ b ∈ F, w.heap.size ≤ b) ∧ Below w.heap.size w w'
/-- A list to be read, in new memory. -/
def GivesN {α : Type} (T : Ty α) (a : α) (w : World) (e : Ending) (w' : World) : Prop := ∃ u F, e = .returned u ∧ T.rep false w' a [u] F ∧ (∀ b ∈ F, w.heap.size ≤ b) ∧ Below w.heap.size w w'
theorem PageIs.make {el es : TypeId} {o : Bool} {w : World} {p : PPage} {a b c : Value} {F1 F2 F3 : List Nat} (h1 : (pLines el).rep o w p.lines [a] F1) (h2 : (pSteps es).rep o w p.done [b] F2) (h3 : (pSteps es).rep o w p.undone [c] F3) : PageIs el es o w p (.agg #[a, b, c]) (F1 ++ (F2 ++ F3)) := ⟨a, b, c, F1, F2, F3, rfl, rfl, h1, h2, h3⟩
theorem ty_read {α : Type} {T : Ty α} {o : Bool} {w : World} {a : α} {cs : List Value} {F : List Nat} (h : T.rep o w a cs F) : T.rep false w a cs F := by
  cases o
  · exact h
  · exact T.read h

theorem set3 {B g : Nat} {w w' : World} (h : Below B w w') (hg : B ≤ g) (a b c : Value) : Below B w (((w'.setCell ⟨g, 0, none⟩ a).setCell ⟨g, 1, none⟩ b).setCell ⟨g, 2, none⟩ c) :=
  ((h.setCell (p := ⟨g, 0, none⟩) hg a).setCell (p := ⟨g, 1, none⟩) hg b).setCell (p := ⟨g, 2, none⟩) hg c
theorem Row.at' (w : World) (e : TypeId) (cs : List Value) {n : Nat} (hn : n = w.heap.size) : Row (w.alloc (.cells cs.toArray e)) n e cs := by
  subst hn; simpa using Row.new w e cs.toArray

end Go.Proofs.YtahoopmiipmgpaaDoor
