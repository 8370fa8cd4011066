/- The type AlignStep: its data, how it lies in memory, and the law's own helpers over it. Conditions: none. -/
import Derived.Test.YtelkggafmnckoaaRows
import Derived.Test.YtelkggafmnckoaaEvEq
import Derived.Test.YtelkggafmnckoaaStrS
namespace Go.Proofs.Ytelkggafmnckoaa
open Go Go.RowKit

def astepCells (s : AStep) : List Value := [.int .i64 s.op, .int .i64 s.i, .int .i64 s.j]
def astepOk (s : AStep) : Prop := I64 s.op ∧ I64 s.i ∧ I64 s.j
theorem astepCells_len (xs : List AStep) : (xs.flatMap astepCells).length = xs.length * 3 := by
  induction xs with
  | nil => rfl
  | cons a r ih => simp only [List.flatMap_cons, List.length_append, ih, List.length_cons]; simp [astepCells]; omega
theorem repL_astep {o : Bool} {w : World} : ∀ (xs : List AStep), (∀ s ∈ xs, astepOk s) → repL astep o w xs (xs.flatMap astepCells) []
  | [], _ => ⟨rfl, rfl⟩
  | s :: r, h => ⟨_, _, [], [], rfl, rfl, astep_rep.2 ⟨rfl, rfl, h s (by simp)⟩, repL_astep r (fun t ht => h t (by simp [ht]))⟩
theorem repL_astep_inv {o : Bool} {w : World} : ∀ {xs : List AStep} {cs : List Value} {F : List Nat}, repL astep o w xs cs F → cs = xs.flatMap astepCells ∧ F = []
  | [], _, _, ⟨rfl, rfl⟩ => ⟨rfl, rfl⟩
  | s :: r, _, _, ⟨c1, c2, F1, F2, rfl, rfl, h1, h2⟩ => by
    obtain ⟨rfl, rfl, _⟩ := astep_rep.1 h1
    obtain ⟨rfl, rfl⟩ := repL_astep_inv h2
    exact ⟨rfl, rfl⟩
theorem asteps_ok {o : Bool} {w : World} {e : TypeId} {xs : List AStep} {v : Value} {F : List Nat} (h : (asteps e).rep o w xs [v] F) : ∀ s ∈ xs, astepOk s := by
  obtain ⟨_, _, _, _, _, hr⟩ := asteps_open h
  intro s hs
  obtain ⟨k, hk, rfl⟩ := List.getElem_of_mem hs
  obtain ⟨_, _, _, _, _, _, _, _, h⟩ := hr k hk
  exact h

/-- The marks from number s on. -/
def markAStep (n s : Nat) : List AStep := (List.range n).map fun i : Nat => ⟨(s : Int) + (i : Int) * 3, (s : Int) + (i : Int) * 3 + 1, (s : Int) + (i : Int) * 3 + 1 + 1⟩
theorem markAStep_len (n s : Nat) : (markAStep n s).length = n := by simp [markAStep]
theorem markAStep_succ (n s : Nat) : markAStep (n + 1) s = markAStep n s ++ [⟨(s : Int) + (n : Int) * 3, (s : Int) + (n : Int) * 3 + 1, (s : Int) + (n : Int) * 3 + 1 + 1⟩] := by simp [markAStep, List.range_succ]
theorem markAStep_ok (n s : Nat) (hn : n ≤ 1048576) (hs : s ≤ 10000000) : ∀ x ∈ markAStep n s, astepOk x := by
  intro x hx
  obtain ⟨i, hi, rfl⟩ := List.mem_map.1 hx
  have hi' : i < n := by simpa using hi
  refine ⟨⟨by dsimp only; omega, by dsimp only; omega⟩, ⟨by dsimp only; omega, by dsimp only; omega⟩, ⟨by dsimp only; omega, by dsimp only; omega⟩⟩
end Go.Proofs.Ytelkggafmnckoaa
