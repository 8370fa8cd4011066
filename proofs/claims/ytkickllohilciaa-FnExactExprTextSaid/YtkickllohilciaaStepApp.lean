/- append as one step of a region that draws its order; the form of a slice. No program is named here. Conditions: none. -/
import Derived.Test.YtkickllohilciaaAppend
namespace Go.Proofs.Ytkickllohilciaa
open Go Go.RowKit

theorem slice_form {α : Type} {T : Ty α} {e : TypeId} {o : Bool} {w : World} {xs : List α} {v : Value} {F : List Nat} (h : (T.slice e).rep o w xs [v] F) : ∃ A n c, v = .slice A n c := by
  obtain ⟨A, c, rfl⟩ := slice_len h
  exact ⟨_, _, _, rfl⟩
section
variable {P : Program} {α : Type} {T : Ty α} {t e : TypeId} {z : Value} {bytes : Nat} {w : World} {xs ys : List α} {v : Value} {F Fy : List Nat} {A : Option Addr} {c : Nat} {ec : List Value}
/-- append, as one step of a region that draws. -/
theorem step_append_repX {ops : Array Oper} {o : Oper} {a : Act} {K : Act → World → Prop} {Q : Exit → Act → World → Prop} {E : Prop} (hgd : o.guard = none) (s x : Operand)
    (ho : o.op = .call { callee := .builtin .append, args := #[s, x], argTypes := #[t, t] })
    (ht : P.underlying t = some (.slice e)) (hi : (P.info? e).map (fun i => (i.zero, i.size, i.bytes)) = some (some z, T.size, bytes)) (hz : z.cells.size = T.size) (h0 : 0 < T.size)
    (hs : a.eval s = v) (hr : (T.slice e).rep true w xs [v] F) (hx : a.eval x = .slice A ys.length c) (hy : repL T true w ys ec Fy) (hat : CellsAt w A ec) (hnd : (F ++ Fy).Nodup)
    (h63 : xs.length + ys.length ≤ maxLen) (hb : (xs.length + ys.length) * bytes ≤ 140737488355328)
    (h : ∀ v' w' F', (T.slice e).rep true w' (xs ++ ys) [v'] F' → Only F w w' → (∀ B, Fresh B (F ++ Fy) → B ≤ w.heap.size → Fresh B F') → ((∀ b ∈ F', b ∈ F ++ Fy ∨ w.heap.size ≤ b) ∧ Only v.ownBlock.toList w w' ∧ ∀ b ∈ v'.ownBlock.toList, b ∈ v.ownBlock.toList ∨ w.heap.size ≤ b) → K (a.put o.dst v') w') :
    if Region.wanted o (yielded ops a.tmps) = true then Oper.wp P o a w K Q else E := by
  have hw : Region.wanted o (yielded ops a.tmps) = true := by simp [Region.wanted, hgd]
  rw [if_pos hw]
  obtain ⟨v', w', F', hrun, h2, h3, h4, h5⟩ := run_append_repX (P := P) (c := c) o.type ht hi hz h0 hr hy hat trivial hnd h63 hb
  unfold Oper.wp
  simp [execOp, ho, resolve, invoke, builtin, hs, hx, hrun, Result.andThen]
  exact h v' w' F' h2 h3 h4 h5
end
end Go.Proofs.Ytkickllohilciaa
