/- Distances of texts: plain facts. Conditions: none. -/
import Derived.Test.YtelkggafmnckoaaEvLcs
namespace Go.Proofs.Ytelkggafmnckoaa
open Go Go.RowKit

/-- The least cost of aligning the last p bytes of a and the last q bytes of b. -/
def dist (a b : ByteArray) : Nat → Nat → Nat
  | 0, q => q
  | p + 1, 0 => p + 1
  | p + 1, q + 1 => if sameAt a b (a.size - (p + 1)) (b.size - (q + 1)) then dist a b p q else 1 + min (dist a b p q) (min (dist a b p (q + 1)) (dist a b (p + 1) q))
termination_by p q => (p, q)
theorem dist_zero (a b : ByteArray) (q : Nat) : dist a b 0 q = q := by rw [dist]
theorem dist_zero' (a b : ByteArray) (p : Nat) : dist a b p 0 = p := by cases p <;> rw [dist]
theorem dist_step (a b : ByteArray) (p q : Nat) : dist a b (p + 1) (q + 1) = if sameAt a b (a.size - (p + 1)) (b.size - (q + 1)) then dist a b p q else 1 + min (dist a b p q) (min (dist a b p (q + 1)) (dist a b (p + 1) q)) := by rw [dist]

theorem dist_near (a b : ByteArray) : ∀ (n p q : Nat), p + q = n →
    dist a b (p + 1) q ≤ dist a b p q + 1 ∧ dist a b p (q + 1) ≤ dist a b p q + 1 ∧ dist a b p q ≤ dist a b (p + 1) q + 1 ∧ dist a b p q ≤ dist a b p (q + 1) + 1 := by
  intro n
  induction n using Nat.strongRecOn with
  | _ n ih =>
    intro p q hn
    have A : dist a b (p + 1) q ≤ dist a b p q + 1 := by
      cases q with
      | zero => rw [dist_zero', dist_zero']; omega
      | succ q =>
        rw [dist_step]
        split
        · have := (ih (p + q) (by omega) p q rfl).2.2.2; omega
        · omega
    have B : dist a b p (q + 1) ≤ dist a b p q + 1 := by
      cases p with
      | zero => rw [dist_zero, dist_zero]; omega
      | succ p =>
        rw [dist_step]
        split
        · have := (ih (p + q) (by omega) p q rfl).2.2.1; omega
        · omega
    refine ⟨A, B, ?_, ?_⟩
    · cases q with
      | zero => rw [dist_zero', dist_zero']; omega
      | succ q =>
        rw [dist_step]
        have h1 := (ih (p + q) (by omega) p q rfl).2.1
        have h2 := (ih (p + q) (by omega) p q rfl).2.2.1
        split <;> omega
    · cases p with
      | zero => rw [dist_zero, dist_zero]; omega
      | succ p =>
        rw [dist_step]
        have h1 := (ih (p + q) (by omega) p q rfl).1
        have h2 := (ih (p + q) (by omega) p q rfl).2.2.2
        split <;> omega

theorem dist_le (a b : ByteArray) : ∀ p q, dist a b p q ≤ p + q
  | 0, q => by rw [dist_zero]; omega
  | p + 1, 0 => by rw [dist_zero']; omega
  | p + 1, q + 1 => by
    have h1 := dist_le a b p q
    have h2 := dist_le a b p (q + 1)
    rw [dist_step]
    split <;> omega
termination_by p q => (p, q)

/-- The distance of what is left behind the first i and the first j bytes. -/
def D (a b : ByteArray) (i j : Nat) : Nat := dist a b (a.size - i) (b.size - j)
theorem D_lastI (a b : ByteArray) (j : Nat) : D a b a.size j = b.size - j := by unfold D; rw [Nat.sub_self, dist_zero]
theorem D_lastJ (a b : ByteArray) (i : Nat) : D a b i b.size = a.size - i := by unfold D; rw [Nat.sub_self, dist_zero']
theorem D_le (a b : ByteArray) (i j : Nat) : D a b i j ≤ a.size + b.size := by have := dist_le a b (a.size - i) (b.size - j); unfold D; omega
theorem D_same {a b : ByteArray} {i j : Nat} (hi : i < a.size) (hj : j < b.size) (h : sameAt a b i j = true) : D a b i j = D a b (i + 1) (j + 1) := by
  unfold D
  obtain ⟨p, hp⟩ : ∃ p, a.size - i = p + 1 := ⟨a.size - i - 1, by omega⟩
  obtain ⟨q, hq⟩ : ∃ q, b.size - j = q + 1 := ⟨b.size - j - 1, by omega⟩
  rw [hp, hq, dist_step, show a.size - (p + 1) = i from by omega, show b.size - (q + 1) = j from by omega, h, if_pos rfl, show a.size - (i + 1) = p from by omega, show b.size - (j + 1) = q from by omega]
theorem D_other {a b : ByteArray} {i j : Nat} (hi : i < a.size) (hj : j < b.size) (h : sameAt a b i j = false) : D a b i j = 1 + min (D a b (i + 1) (j + 1)) (min (D a b (i + 1) j) (D a b i (j + 1))) := by
  unfold D
  obtain ⟨p, hp⟩ : ∃ p, a.size - i = p + 1 := ⟨a.size - i - 1, by omega⟩
  obtain ⟨q, hq⟩ : ∃ q, b.size - j = q + 1 := ⟨b.size - j - 1, by omega⟩
  rw [hp, hq, dist_step, show a.size - (p + 1) = i from by omega, show b.size - (q + 1) = j from by omega, h, show a.size - (i + 1) = p from by omega, show b.size - (j + 1) = q from by omega]
  simp
/-- The reference's step comes to the same. -/
theorem D_min {a b : ByteArray} {i j : Nat} (hi : i < a.size) (hj : j < b.size) : min (D a b (i + 1) (j + 1) + (if sameAt a b i j then 0 else 1)) (1 + min (D a b (i + 1) j) (D a b i (j + 1))) = D a b i j := by
  cases h : sameAt a b i j
  · rw [D_other hi hj h]; simp; omega
  · rw [D_same hi hj h]
    have h1 := dist_near a b _ (a.size - (i + 1)) (b.size - (j + 1)) rfl
    have e1 : D a b (i + 1) j = dist a b (a.size - (i + 1)) (b.size - (j + 1) + 1) := by unfold D; rw [show b.size - j = b.size - (j + 1) + 1 from by omega]
    have e2 : D a b i (j + 1) = dist a b (a.size - (i + 1) + 1) (b.size - (j + 1)) := by unfold D; rw [show a.size - i = a.size - (i + 1) + 1 from by omega]
    have e3 : D a b (i + 1) (j + 1) = dist a b (a.size - (i + 1)) (b.size - (j + 1)) := rfl
    simp; omega
end Go.Proofs.Ytelkggafmnckoaa
