/- The nearest texts: the places that are told are those with the least distance. No program is named here. Conditions: none. -/
import Derived.Test.YtnmciooolocjdaaEvNear
namespace Go.Proofs.Ytnmciooolocjdaa
open Go Go.RowKit

/-- How far the text at a place is. -/
def farAt (xs : List ByteArray) (text : ByteArray) (k : Nat) : Int := (edist (xs.getD k .empty) text : Int)
/-- The places among the first n whose texts are as far as d. -/
def placesAt (xs : List ByteArray) (text : ByteArray) (d : Int) (n : Nat) : List Int := ((List.range n).filter fun j => decide (farAt xs text j = d)).map Int.ofNat
theorem placesAt_succ (xs : List ByteArray) (text : ByteArray) (d : Int) (n : Nat) : placesAt xs text d (n + 1) = placesAt xs text d n ++ (if farAt xs text n = d then [(n : Int)] else []) := by
  unfold placesAt
  rw [List.range_succ, List.filter_append, List.map_append]
  by_cases h : farAt xs text n = d <;> simp [h]
theorem placesAt_none (xs : List ByteArray) (text : ByteArray) (d : Int) : ∀ n, (∀ j, j < n → farAt xs text j ≠ d) → placesAt xs text d n = []
  | 0, _ => rfl
  | n + 1, h => by
    rw [placesAt_succ, placesAt_none xs text d n (fun j hj => h j (by omega)), if_neg (h n (by omega))]; rfl
theorem nearK_spec (xs : List ByteArray) (text : ByteArray) : ∀ k, 0 < k → 0 ≤ (nearK xs text k).2 ∧ (∀ j, j < k → (nearK xs text k).2 ≤ farAt xs text j) ∧ (nearK xs text k).1 = placesAt xs text (nearK xs text k).2 k ∧ (nearK xs text k).1 ≠ []
  | 0, h => by omega
  | k + 1, _ => by
    have hd : farAt xs text k = (edist (xs.getD k .empty) text : Int) := rfl
    have hd0 : 0 ≤ farAt xs text k := by rw [hd]; omega
    by_cases hk : k = 0
    · subst hk
      have e : nearK xs text 1 = ([(0 : Int)], farAt xs text 0) := by simp [nearK, hd]
      rw [e]
      refine ⟨hd0, fun j hj => ?_, ?_, by simp⟩
      · have : j = 0 := by omega
        subst this; exact Int.le_refl _
      · rw [placesAt_succ]; simp [placesAt]
    · obtain ⟨h0, h1, h2, h3⟩ := nearK_spec xs text k (by omega)
      generalize hr : nearK xs text k = r at *
      by_cases hlt : farAt xs text k < r.2
      · have e : nearK xs text (k + 1) = ([(k : Int)], farAt xs text k) := by
          simp only [nearK, hr, ← hd]; rw [if_pos (Or.inr hlt)]
        rw [e]
        refine ⟨hd0, fun j hj => ?_, ?_, by simp⟩
        · by_cases hjk : j = k
          · subst hjk; exact Int.le_refl _
          · have := h1 j (by omega); show farAt xs text k ≤ _; omega
        · rw [placesAt_succ, placesAt_none _ _ _ k (fun j hj => by have := h1 j hj; show farAt xs text j ≠ farAt xs text k; omega)]
          simp
      · by_cases heq : farAt xs text k = r.2
        · have e : nearK xs text (k + 1) = (r.1 ++ [(k : Int)], r.2) := by
            simp only [nearK, hr, ← hd]; rw [if_neg (by omega), if_pos heq]
          rw [e]
          refine ⟨h0, fun j hj => ?_, ?_, by simp⟩
          · by_cases hjk : j = k
            · subst hjk; show r.2 ≤ _; omega
            · exact h1 j (by omega)
          · rw [placesAt_succ, if_pos heq, ← h2]
        · have e : nearK xs text (k + 1) = r := by
            simp only [nearK, hr, ← hd]; rw [if_neg (by omega), if_neg heq]
          rw [e]
          refine ⟨h0, fun j hj => ?_, ?_, h3⟩
          · by_cases hjk : j = k
            · subst hjk; omega
            · exact h1 j (by omega)
          · rw [placesAt_succ, if_neg heq, List.append_nil]; exact h2
theorem placesAt_take (xs : List ByteArray) (text : ByteArray) (d : Int) (n : Nat) : ∀ m, n ≤ m → (placesAt xs text d m).take (placesAt xs text d n).length = placesAt xs text d n
  | 0, h => by
    have : n = 0 := by omega
    subst this; simp
  | m + 1, h => by
    by_cases e : n = m + 1
    · subst e; simp
    · rw [placesAt_succ, List.take_append_of_le_length, placesAt_take xs text d n m (by omega)]
      have h1 := placesAt_take xs text d n m (by omega)
      have h2 := congrArg List.length h1
      rw [List.length_take] at h2
      omega
theorem placesAt_get {xs : List ByteArray} {text : ByteArray} {d : Int} {k n : Nat} (hk : k < n) (h : farAt xs text k = d) : (placesAt xs text d n)[(placesAt xs text d k).length]? = some (k : Int) := by
  have h1 := placesAt_take xs text d (k + 1) n (by omega)
  rw [placesAt_succ, if_pos h] at h1
  have h2 := congrArg (fun l => l[(placesAt xs text d k).length]?) h1
  simp only [List.length_append, List.length_cons, List.length_nil] at h2
  rw [List.getElem?_take] at h2
  simpa using h2
end Go.Proofs.Ytnmciooolocjdaa
