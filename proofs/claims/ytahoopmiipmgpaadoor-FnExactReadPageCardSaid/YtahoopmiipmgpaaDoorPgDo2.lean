/- Pages: one step done, in the reference. Conditions: none. -/
import Derived.Test.YtahoopmiipmgpaaDoorPgDo
namespace Go.Proofs.YtahoopmiipmgpaaDoor
open Go Go.RowKit

theorem empty_at {α : Type} (T : Ty α) (e : TypeId) (w : World) {n : Nat} (hn : n = w.heap.size) : (T.slice e).rep true (w.alloc (.cells #[] e)) [] [.slice (some ⟨n, 0, none⟩) 0 0] [n] := by
  subst hn; exact empty_is T e w
/-- The steps behind the first one, to be read. -/
theorem step_tail {w : World} {e : TypeId} {xs : List PStep} {v : Value} {F : List Nat} (h : (pSteps e).rep true w xs [v] F) (hn : 1 < xs.length) :
    ∃ g c, v = .slice (some ⟨g, 0, none⟩) xs.length c ∧ xs.length ≤ c ∧ c ≤ maxLen ∧ ∃ F', (pSteps e).rep false w (xs.drop 1) [.slice (some ⟨g, 5, none⟩) (xs.length - 1) (c - 1)] F' ∧ ∀ b ∈ F', b ∈ F := by
  obtain ⟨g, c, cs, rest, G, rfl, hl, hc, hrow, hr, hlen, rfl⟩ := row_of_slice h (by omega)
  obtain ⟨Fa, Fb, rfl, h1, h2⟩ := repL_at hr 1 (by omega)
  refine ⟨g, c, rfl, hl, hc, [g] ++ Fb, ⟨some ⟨g, 5, none⟩, c - 1, _, [g], Fb, by rw [List.length_drop], rfl, by rw [List.length_drop]; omega, by omega, repL_read h2, by simpa using hrow.lt, fun _ => ⟨g, 5, rfl, by simp, fun j u hu => hrow.cell' ?_⟩, fun h => by cases h⟩, by simp; intro b hb; simp [hb]⟩
  have hj := (List.getElem?_eq_some_iff.1 hu).1
  rw [List.length_drop] at hj
  rw [List.getElem?_drop] at hu
  have hs : 1 * pStep.size = 5 := rfl
  rw [hs] at hu hj
  rw [List.getElem?_append_left (by omega)]
  exact hu

end Go.Proofs.YtahoopmiipmgpaaDoor
