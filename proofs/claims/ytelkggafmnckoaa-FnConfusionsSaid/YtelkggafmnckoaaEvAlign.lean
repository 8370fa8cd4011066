/- The program's alignment of two texts. Conditions: none. -/
import Derived.Test.YtelkggafmnckoaaEvEd
import Derived.Test.YtelkggafmnckoaaEvMark
import Derived.Test.YtelkggafmnckoaaAppend
namespace Go.Proofs.Ytelkggafmnckoaa
open Go Go.RowKit

/-- The operation that the first best alignment begins with. -/
def opAt (a b : ByteArray) (i j : Nat) : Nat :=
  if sameAt a b i j then 0
  else if i < a.size ∧ j < b.size ∧ D a b (i + 1) (j + 1) + 1 = D a b i j then 1
  else if i < a.size ∧ D a b (i + 1) j + 1 = D a b i j then 2
  else 3
/-- An operation costs this. -/
def opCost (op : Nat) : Nat := if op = 0 then 0 else 1
/-- An operation is allowed and keeps the distance. -/
def fits (a b : ByteArray) (i j op : Nat) : Prop := allowsB a b i j (op : Int) = true ∧ D a b (i + passI op) (j + passJ op) + opCost op = D a b i j

theorem sameAt_lt {a b : ByteArray} {i j : Nat} (h : sameAt a b i j = true) : i < a.size ∧ j < b.size := by
  unfold sameAt at h
  by_cases hh : i < a.size ∧ j < b.size
  · exact hh
  · rw [dif_neg hh] at h; cases h
theorem opAt_le (a b : ByteArray) (i j : Nat) : opAt a b i j ≤ 3 := by unfold opAt; (repeat' split) <;> omega
theorem D_lastI' {a b : ByteArray} {j : Nat} : D a b a.size j = b.size - j := D_lastI a b j
theorem fits_opAt {a b : ByteArray} {i j : Nat} (hi : i ≤ a.size) (hj : j ≤ b.size) (h : i < a.size ∨ j < b.size) : fits a b i j (opAt a b i j) := by
  unfold opAt
  by_cases hs : sameAt a b i j = true
  · rw [if_pos hs]
    obtain ⟨h1, h2⟩ := sameAt_lt hs
    refine ⟨by simp [allowsB, passI, passJ, hs]; omega, ?_⟩
    show D a b (i + 1) (j + 1) + 0 = _
    rw [D_same h1 h2 hs]; rfl
  · have hs' : sameAt a b i j = false := by simpa using hs
    rw [if_neg hs]
    by_cases h1 : i < a.size ∧ j < b.size ∧ D a b (i + 1) (j + 1) + 1 = D a b i j
    · rw [if_pos h1]
      exact ⟨by simp [allowsB, passI, passJ, hs']; omega, h1.2.2⟩
    · rw [if_neg h1]
      by_cases h2 : i < a.size ∧ D a b (i + 1) j + 1 = D a b i j
      · rw [if_pos h2]
        exact ⟨by simp [allowsB, passI, passJ]; omega, h2.2⟩
      · rw [if_neg h2]
        -- then a byte is inserted
        have hjl : j < b.size := by
          by_cases hjl : j < b.size
          · exact hjl
          · have : j = b.size := by omega
            subst this
            have hil : i < a.size := by omega
            exfalso
            apply h2
            refine ⟨hil, ?_⟩
            rw [D_lastJ, D_lastJ]; omega
        refine ⟨by simp [allowsB, passI, passJ]; omega, ?_⟩
        show D a b i (j + 1) + 1 = D a b i j
        by_cases hil : i < a.size
        · have := D_other hil hjl hs'
          have n1 : ¬ (D a b (i + 1) (j + 1) + 1 = D a b i j) := fun e => h1 ⟨hil, hjl, e⟩
          have n2 : ¬ (D a b (i + 1) j + 1 = D a b i j) := fun e => h2 ⟨hil, e⟩
          omega
        · have : i = a.size := by omega
          subst this
          rw [D_lastI, D_lastI]; omega
theorem not_fits {a b : ByteArray} {i j op : Nat} (h : op < opAt a b i j) : ¬ fits a b i j op := by
  rintro ⟨h1, h2⟩
  unfold opAt at h
  by_cases hs : sameAt a b i j = true
  · rw [if_pos hs] at h; omega
  · have hs' : sameAt a b i j = false := by simpa using hs
    rw [if_neg hs] at h
    have hle := allows_le h1
    by_cases c1 : i < a.size ∧ j < b.size ∧ D a b (i + 1) (j + 1) + 1 = D a b i j
    · rw [if_pos c1] at h
      obtain rfl : op = 0 := by omega
      simp [allowsB, hs'] at h1
    · rw [if_neg c1] at h
      have o0 : op ≠ 0 := by
        rintro rfl
        simp [allowsB, hs'] at h1
      have o1 : op ≠ 1 := by
        rintro rfl
        exact c1 ⟨by have := hle.1; simp [passI] at this; omega, by have := hle.2; simp [passJ] at this; omega, h2⟩
      by_cases c2 : i < a.size ∧ D a b (i + 1) j + 1 = D a b i j
      · rw [if_pos c2] at h; omega
      · rw [if_neg c2] at h
        obtain rfl : op = 2 := by omega
        exact c2 ⟨by have := hle.1; simp [passI] at this; omega, h2⟩

/-- The first best alignment of what is left, step by step. -/
def alignFrom (a b : ByteArray) : Nat → Nat → Nat → List AStep
  | 0, _, _ => []
  | f + 1, i, j => if i < a.size ∨ j < b.size then ⟨opAt a b i j, i, j⟩ :: alignFrom a b f (i + passI (opAt a b i j)) (j + passJ (opAt a b i j)) else []
def align (a b : ByteArray) : List AStep := alignFrom a b (a.size + b.size) 0 0
theorem alignFrom_step {a b : ByteArray} {f i j : Nat} (h : i < a.size ∨ j < b.size) : alignFrom a b (f + 1) i j = ⟨opAt a b i j, i, j⟩ :: alignFrom a b f (i + passI (opAt a b i j)) (j + passJ (opAt a b i j)) := by
  rw [alignFrom, if_pos h]
theorem alignFrom_end {a b : ByteArray} {f : Nat} : alignFrom a b f a.size b.size = [] := by
  cases f <;> simp [alignFrom]
theorem pass_pos (op : Nat) : 1 ≤ passI op + passJ op ∧ passI op ≤ 1 ∧ passJ op ≤ 1 := by
  unfold passI passJ
  by_cases h : (op : Int) = 3
  · rw [h]; decide
  · rw [if_neg h]; split <;> omega
end Go.Proofs.Ytelkggafmnckoaa
