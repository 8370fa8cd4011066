/- The program's alignment: its walk. Conditions: none. -/
import Derived.Test.YtnmciooolocjdaaEvAlign
namespace Go.Proofs.Ytnmciooolocjdaa
open Go Go.RowKit

theorem tab_cells {w1 wq : World} {eo ei : TypeId} {a b : ByteArray} {g : Nat} {G : Nat → Nat} (h : Tab w1 eo ei a b g 0 G) (hb : Below w1.heap.size w1 wq) {x y : Nat} (hx : x ≤ a.size) (hy : y ≤ b.size) :
    wq.cell? ⟨g, x, none⟩ = some (.slice (some ⟨G x, 0, none⟩) (b.size + 1) (b.size + 1)) ∧ wq.cell? ⟨G x, y, none⟩ = some (.int .i64 (D a b x y : Int)) := by
  obtain ⟨h1, _⟩ := h.2 x (Nat.zero_le _) hx
  exact ⟨(hb.cell (p := ⟨g, x, none⟩) h.1.lt).trans (h.1.cell' (orow_get hx (Nat.zero_le _))), (hb.cell (p := ⟨G x, y, none⟩) h1.lt).trans (h1.cell' (ints_get (f := fun y => (D a b x y : Int)) (by omega)))⟩

/-- What alignments return. -/
def GivesSteps (e : TypeId) (xs : List AStep) (w : World) (en : Ending) (w' : World) : Prop :=
  ∃ u F, en = .returned u ∧ (asteps e).rep true w' xs [u] F ∧ Fresh w.heap.size F ∧ Below w.heap.size w w'

theorem below_only {B : Nat} {a b c : World} {F : List Nat} (h : Below B a b) (ho : Only F b c) (hF : ∀ x ∈ F, B ≤ x) (hB : B ≤ b.heap.size) : Below B a c := h.trans (ho.below hB hF)

end Go.Proofs.Ytnmciooolocjdaa
