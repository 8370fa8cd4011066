/- Pages: steps that can be undone. Conditions: none. -/
import Derived.Test.YtahoopmiipmgpaaDoorPgFollow
namespace Go.Proofs.YtahoopmiipmgpaaDoor
open Go Go.RowKit

/-- A list to be read. -/
def GivesR {α : Type} (T : Ty α) (a : α) (w : World) (e : Ending) (w' : World) : Prop := ∃ u F, e = .returned u ∧ T.rep false w' a [u] F ∧ Below w.heap.size w w'
theorem keep_at {w2 w3 : World} {F : List Nat} {b N o : Nat} {u : Value} (o3 : Only F w2 w3) (f2 : Fresh N F) (hb : b < N) (hN : N ≤ w2.heap.size) (hu : w2.cell? ⟨b, o, none⟩ = some u) : w3.cell? ⟨b, o, none⟩ = some u :=
  (World.cell?_of_block (o3.block b (by omega) (fun hin => by have := f2.2 b hin; omega))).trans hu
theorem keep_below {w2 w3 : World} {b o : Nat} {u : Value} (o3 : Below w2.heap.size w2 w3) (hb : b < w2.heap.size) (hu : w2.cell? ⟨b, o, none⟩ = some u) : w3.cell? ⟨b, o, none⟩ = some u :=
  (o3.cell (p := ⟨b, o, none⟩) hb).trans hu

/-- A step's cells in a box. -/
def BoxS (g : Nat) (s : PStep) (w : World) : Prop := w.cell? ⟨g, 0, none⟩ = some (.int .i64 s.kind) ∧ w.cell? ⟨g, 1, none⟩ = some (.int .i64 s.line) ∧ w.cell? ⟨g, 2, none⟩ = some (.int .i64 s.pos) ∧ w.cell? ⟨g, 3, none⟩ = some (.string s.word) ∧ w.cell? ⟨g, 4, none⟩ = some (.string s.old)
theorem BoxS.of {w : World} {g : Nat} {s : PStep} (h : Row w g 66 (pStepCells s)) : BoxS g s w := ⟨h.cell' (i := 0) rfl, h.cell' (i := 1) rfl, h.cell' (i := 2) rfl, h.cell' (i := 3) rfl, h.cell' (i := 4) rfl⟩

end Go.Proofs.YtahoopmiipmgpaaDoor
