/- The reference's reader of trees: join, what it needs. Conditions: none. -/
import Derived.Test.YtkickllohilciaaRd
namespace Go.Proofs.Ytkickllohilciaa
open Go Go.RowKit

/-- Numbers in the reader keep in bounds. -/
structure RdNum (xs : List PSymbol) (st : RdSt) : Prop where
  few : xs.length ≤ 8
  sy : ∀ s ∈ xs, boxIn (boxOf s)
  bx : ∀ b ∈ st.boxes, boxIn b
  dp : ∀ k (h : k < st.depth.length), 0 ≤ st.depth[k] ∧ st.depth[k] ≤ k + 1
  dl : st.depth.length ≤ 15
  cost : 0 ≤ st.cost ∧ st.cost ≤ 640000
/-- What join leaves. -/
def RJoin (e et : TypeId) (o ot : Bool) (xs : List PSymbol) (ns : List PNode) (vl vn : Value) (Fl Fn : List Nat) (gp gu gb gd : Nat) (st' : RdSt) (w : World) (en : Ending) (w' : World) : Prop :=
  (∃ v, en = .returned v) ∧ Only [gp, gu, gb, gd] w w' ∧ Rd e et o ot xs ns vl vn Fl Fn gp gu gb gd st' w'
theorem Row.farB {w : World} {g gb : Nat} {e : TypeId} {cs : List Value} (R : Row w g e cs) (k : Nat) (Y : PBox) (h : g ≠ gb) : Row ((((w.setCell ⟨gb, k * 4, none⟩ (.int .i64 Y.x1)).setCell ⟨gb, k * 4 + 1, none⟩ (.int .i64 Y.y1)).setCell ⟨gb, k * 4 + 2, none⟩ (.int .i64 Y.x2)).setCell ⟨gb, k * 4 + 3, none⟩ (.int .i64 Y.y2)) g e cs :=
  (((R.far (p := ⟨gb, _, none⟩) h _).far (p := ⟨gb, _, none⟩) h _).far (p := ⟨gb, _, none⟩) h _).far (p := ⟨gb, _, none⟩) h _
end Go.Proofs.Ytkickllohilciaa
