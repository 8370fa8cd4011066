/- slices.Insert at the types of pages. Conditions: none. -/
import Derived.Test.YtkkignkoneeieaaSlInstm
namespace Go.Proofs.Ytkkignkoneeieaa
open Go Go.RowKit

/-- What Insert leaves. -/
def InsStr (xs : List (ByteArray)) (y : ByteArray) (i : Nat) (v : Value) (F Fy : List Nat) (w : World) (e' : Ending) (w' : World) : Prop :=
  ∃ u F', e' = .returned u ∧ ((str).slice 9).rep true w' (xs.take i ++ y :: xs.drop i) [u] F' ∧ (∀ B, Fresh B (F ++ Fy) → B ≤ w.heap.size → Fresh B F') ∧ Only F w w' ∧ (∀ b ∈ F', b ∈ F ++ Fy ∨ w.heap.size ≤ b) ∧ Only v.ownBlock.toList w w'
end Go.Proofs.Ytkkignkoneeieaa
