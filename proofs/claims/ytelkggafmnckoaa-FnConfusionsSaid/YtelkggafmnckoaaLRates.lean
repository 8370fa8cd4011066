/- The walks of the laws FnExactErrorRate, FnExactTotalRate, FnExactWordsRight. Conditions: none. -/
import Derived.Test.YtelkggafmnckoaaEvRate
namespace Go.Proofs.Ytelkggafmnckoaa
open Go Go.RowKit

theorem aCase_le {c : ACase} {n : Int} (h : n + aCaseW c ≤ 1048576) (h0 : 0 ≤ n) : c.want.size ≤ 1048576 ∧ c.got.size ≤ 1048576 := by
  unfold aCaseW at h; omega
theorem aCases_le {xs : List ACase} (h : szaCase xs ≤ 1048576) : xs.length ≤ 1048576 ∧ ∀ c ∈ xs, c.want.size ≤ 1048576 ∧ c.got.size ≤ 1048576 := by
  unfold szaCase at h
  refine ⟨by omega, fun c hc => ?_⟩
  have : aCaseW c ≤ (xs.map aCaseW).sum := by
    have : ∀ (l : List ACase), c ∈ l → aCaseW c ≤ (l.map aCaseW).sum := by
      intro l
      induction l with
      | nil => intro h; cases h
      | cons a r ih =>
        intro h
        rcases List.mem_cons.1 h with rfl | h
        · simp
        · have := ih h; simp; omega
    exact this xs hc
  have e : aCaseW c = c.want.size + c.got.size := rfl
  omega



end Go.Proofs.Ytelkggafmnckoaa
