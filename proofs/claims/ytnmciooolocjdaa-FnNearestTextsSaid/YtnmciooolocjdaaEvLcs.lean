/- CommonLength. Conditions: none. -/
import Derived.Test.YtnmciooolocjdaaEvAl
import Derived.Test.YtnmciooolocjdaaFind
namespace Go.Proofs.Ytnmciooolocjdaa
open Go Go.RowKit

/-- The greatest number of bytes left of the first i and the first k bytes. -/
def lcs (a b : ByteArray) : Nat → Nat → Nat
  | 0, _ => 0
  | _ + 1, 0 => 0
  | i + 1, k + 1 => if sameAt a b i k then lcs a b i k + 1 else max (lcs a b (i + 1) k) (lcs a b i (k + 1))
termination_by i k => (i, k)
theorem lcs_zero (a b : ByteArray) (k : Nat) : lcs a b 0 k = 0 := by rw [lcs]
theorem lcs_zero' (a b : ByteArray) (i : Nat) : lcs a b i 0 = 0 := by cases i <;> rw [lcs]
theorem lcs_step (a b : ByteArray) (i k : Nat) : lcs a b (i + 1) (k + 1) = if sameAt a b i k then lcs a b i k + 1 else max (lcs a b (i + 1) k) (lcs a b i (k + 1)) := by rw [lcs]
theorem lcs_le (a b : ByteArray) : ∀ i k, lcs a b i k ≤ i + k
  | 0, k => by rw [lcs_zero]; omega
  | i + 1, 0 => by rw [lcs_zero']; omega
  | i + 1, k + 1 => by
    have h1 := lcs_le a b i k
    have h2 := lcs_le a b (i + 1) k
    have h3 := lcs_le a b i (k + 1)
    rw [lcs_step]
    split <;> omega
termination_by i k => (i, k)

/-- A row of numbers by its index. -/
def ints (n : Nat) (f : Nat → Int) : List Value := (List.range n).map fun x => .int .i64 (f x)
theorem ints_len (n : Nat) (f : Nat → Int) : (ints n f).length = n := by simp [ints]
theorem ints_get {n : Nat} {f : Nat → Int} {x : Nat} (h : x < n) : (ints n f)[x]? = some (.int .i64 (f x)) := by simp [ints, h]
theorem ints_set {n : Nat} {f : Nat → Int} (x : Nat) (v : Int) : (ints n f).set x (.int .i64 v) = ints n (fun y => if y = x then v else f y) := by
  apply List.ext_getElem
  · simp [ints]
  · intro y h1 h2
    simp [ints] at h1
    rw [List.getElem_set]
    simp [ints]
    by_cases e : x = y
    · subst e; simp
    · have e' : ¬ y = x := fun h => e h.symm
      simp [e, e']
theorem ints_congr {n : Nat} {f g : Nat → Int} (h : ∀ x, x < n → f x = g x) : ints n f = ints n g := by
  apply List.map_congr_left
  intro x hx
  rw [h x (by simpa using hx)]
theorem madeCells_ints (n : Nat) : (madeCells #[Value.int .i64 0] (n * 1)).toList = ints n (fun _ => 0) := by
  rw [Nat.mul_one, toList_madeCells_one]
  apply List.ext_getElem <;> simp [ints]

/-- The row that the program keeps: new numbers up to j, old ones behind. -/
def lrow (a b : ByteArray) (i j : Nat) : Nat → Int := fun x => if x ≤ j then lcs a b (i + 1) x else lcs a b i x

/-- The row that the reference makes: new numbers up to j, noughts behind. -/
def mrow (a b : ByteArray) (i j : Nat) : Nat → Int := fun x => if x ≤ j then lcs a b (i + 1) x else 0

end Go.Proofs.Ytnmciooolocjdaa
