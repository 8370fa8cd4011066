/- The reference's alignment: its walk. Conditions: none. -/
import Derived.Test.YtnmciooolocjdaaEvAlign2
namespace Go.Proofs.Ytnmciooolocjdaa
open Go Go.RowKit

theorem cellsAt_at {g : Nat} (w : World) (e : TypeId) (cs : List Value) (h : g = w.heap.size) : CellsAt (w.alloc (.cells cs.toArray e)) (some ⟨g, 0, none⟩) cs := by
  subst h; exact cellsAt_new _ _ _

theorem size_aa (w : World) (x : Obj) (n : Nat) : ((w.alloc x).drewN n).heap.size = w.heap.size + 1 := by simp
theorem size_asa (w : World) (x : Obj) (n : Nat) (p : Addr) (u : Value) : (((w.alloc x).drewN n).setCell p u).heap.size = w.heap.size + 1 := by simp
theorem below_aa (w : World) (x y : Obj) (n : Nat) : Below w.heap.size w (((w.alloc x).drewN n).alloc y) :=
  (below_drewN ((Below.refl _ _).alloc (Nat.le_refl _) x) n).alloc (by rw [size_aa]; omega) y
theorem below_asa (w : World) (x y : Obj) (n : Nat) {p : Addr} (hp : w.heap.size ≤ p.block) (u : Value) : Below w.heap.size w ((((w.alloc x).drewN n).setCell p u).alloc y) :=
  ((below_drewN ((Below.refl _ _).alloc (Nat.le_refl _) x) n).setCell hp u).alloc (by rw [size_asa]; omega) y

end Go.Proofs.Ytnmciooolocjdaa
