/- Symbols and trees as arguments, opened to plain data. Conditions: none. -/
import Derived.Test.YtkickllohilciaaRows
import Derived.Test.YtkickllohilciaaTyTree
import Derived.Test.YtkickllohilciaaTySymbol
import Derived.Test.YtkickllohilciaaLaw
namespace Go.Proofs.Ytkickllohilciaa
open Go Go.RowKit

theorem keep_t {w2 w3 : World} {b o : Nat} {u : Value} (o3 : Below w2.heap.size w2 w3) (hb : b < w2.heap.size) (hu : w2.cell? ⟨b, o, none⟩ = some u) : w3.cell? ⟨b, o, none⟩ = some u := by
  rw [o3.cell (p := ⟨b, o, none⟩) hb]; exact hu
theorem nodes_one {e : TypeId} {o : Bool} {w : World} {xs : List PNode} {cs : List Value} {F : List Nat} (h : (pNodes e).rep o w xs cs F) : ∃ v, cs = [v] := by
  obtain ⟨A, c, ec, F0, F1, rfl, _⟩ := h
  exact ⟨_, rfl⟩
theorem opens_lbox4 : Opens Try.prog 56 (int64.prod (int64.prod (int64.prod int64))) :=
  opens_struct Try.underlying56 (by kernel_rfl) (fields_cons rfl (by kernel_rfl) (opens_int64 Try.underlying2) (fields_cons rfl (by kernel_rfl) (opens_int64 Try.underlying2) (fields_cons rfl (by kernel_rfl) (opens_int64 Try.underlying2) (fields_one rfl (by kernel_rfl) (opens_int64 Try.underlying2)))))
theorem opens_lsymbol : Opens Try.prog 58 pSymbol :=
  opens_via (opens_struct Try.underlying58 (by kernel_rfl) (fields_cons rfl (by kernel_rfl) (opens_str Try.underlying9) (fields_one rfl (by kernel_rfl) opens_lbox4))) _ (fun p => ⟨p.1, p.2.1, p.2.2.1, p.2.2.2.1, p.2.2.2.2⟩) (fun _ => rfl)
theorem opens_lsymbolS : Opens Try.prog 22 (pSymbols 58) :=
  opens_slice Try.underlying22 (by kernel_rfl) (by decide) opens_lsymbol
theorem opens_lnode : Opens Try.prog 97 pNode :=
  opens_via (opens_struct Try.underlying97 (by kernel_rfl) (fields_cons rfl (by kernel_rfl) (opens_int64 Try.underlying2) (fields_cons rfl (by kernel_rfl) (opens_int64 Try.underlying2) (fields_cons rfl (by kernel_rfl) (opens_int64 Try.underlying2) (fields_one rfl (by kernel_rfl) (opens_int64 Try.underlying2)))))) _ (fun p => ⟨p.1, p.2.1, p.2.2.1, p.2.2.2⟩) (fun _ => rfl)
theorem opens_lnodeS : Opens Try.prog 23 (pNodes 97) :=
  opens_slice Try.underlying23 (by kernel_rfl) (by decide) opens_lnode
theorem opens_ltree : Opens Try.prog 25 (pNodes 97) :=
  opens_struct Try.underlying25 (by kernel_rfl) (fields_one rfl (by kernel_rfl) opens_lnodeS)
theorem symbols_sizes {xs : List PSymbol} {n : Nat} (h : szpSymbol xs ≤ n) : xs.length ≤ n ∧ ∀ c ∈ xs, c.label.size ≤ n := by
  unfold szpSymbol at h
  refine ⟨by omega, fun c hc => ?_⟩
  have : ∀ (ys : List PSymbol), c ∈ ys → c.label.size ≤ (ys.map pSymbolW).sum := by
    intro ys
    induction ys with
    | nil => intro h; cases h
    | cons y ys ih =>
      intro h
      simp only [List.map_cons, List.sum_cons]
      rcases List.mem_cons.1 h with rfl | h
      · show pSymbolW c ≤ _; omega
      · have := ih h; omega
  have := this xs hc
  omega
end Go.Proofs.Ytkickllohilciaa
