/- passes, allows, IsAlignment. Conditions: none. -/
import Derived.Test.YtnmciooolocjdaaEvEq
import Derived.Test.YtnmciooolocjdaaStrS
namespace Go.Proofs.Ytnmciooolocjdaa
open Go Go.RowKit

/-- How many bytes of the first and of the second text an operation passes. -/
def passI (op : Int) : Nat := if op = 3 then 0 else 1
def passJ (op : Int) : Nat := if op = 2 then 0 else 1
/-- The bytes at i and at j are there and are equal. -/
def sameAt (a b : ByteArray) (i j : Nat) : Bool := if h : i < a.size ∧ j < b.size then decide ((a[i]'h.1).toNat = (b[j]'h.2).toNat) else false
def allowsB (a b : ByteArray) (i j : Nat) (op : Int) : Bool :=
  decide (i + passI op ≤ a.size) && decide (j + passJ op ≤ b.size) && (if op = 0 then sameAt a b i j else if op = 1 then !sameAt a b i j else decide (op = 2 ∨ op = 3))
theorem sameAt_eq {a b : ByteArray} {i j : Nat} (h1 : i < a.size) (h2 : j < b.size) : sameAt a b i j = (((a[i]'h1).toNat : Int) == ((b[j]'h2).toNat : Int)) := by
  unfold sameAt
  rw [dif_pos ⟨h1, h2⟩, Bool.eq_iff_iff]
  simp
  omega

theorem ret_bool {a b : Bool} (h : a = b) : Ending.returned (.bool a) = .returned (.bool b) := by rw [h]



/-- Are these steps an alignment of what is left? -/
def isAl (a b : ByteArray) : List AStep → Nat → Nat → Bool
  | [], i, j => decide (i = a.size) && decide (j = b.size)
  | s :: r, i, j => decide (s.i = i ∧ s.j = j) && (allowsB a b i j s.op && isAl a b r (i + passI s.op) (j + passJ s.op))
theorem isAl_at (a b : ByteArray) (xs : List AStep) (k i j : Nat) (h : k < xs.length) :
    isAl a b (xs.drop k) i j = (decide (xs[k].i = i ∧ xs[k].j = j) && (allowsB a b i j xs[k].op && isAl a b (xs.drop (k + 1)) (i + passI xs[k].op) (j + passJ xs[k].op))) := by
  rw [List.drop_eq_getElem_cons h]; rfl
theorem allows_le {a b : ByteArray} {i j : Nat} {op : Int} (h : allowsB a b i j op = true) : i + passI op ≤ a.size ∧ j + passJ op ≤ b.size := by
  simp [allowsB] at h; exact h.1

end Go.Proofs.Ytnmciooolocjdaa
