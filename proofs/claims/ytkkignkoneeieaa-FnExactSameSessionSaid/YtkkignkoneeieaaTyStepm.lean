/- The type Step: its data, how it lies in memory, and the law's own helpers over it. Conditions: none. -/
import Derived.Test.YtkkignkoneeieaaRows
import Derived.Test.YtkkignkoneeieaaStrSm
namespace Go.Proofs.Ytkkignkoneeieaa
open Go Go.RowKit

structure PStep where
  kind : Int
  line : Int
  pos : Int
  word : ByteArray
  old : ByteArray
  deriving DecidableEq

def pStep : Ty PStep := (int64.prod (int64.prod (int64.prod (str.prod str)))).via fun s => (s.kind, s.line, s.pos, s.word, s.old)
theorem pStep_rep {o : Bool} {w : World} {s : PStep} {cs : List Value} {F : List Nat} : pStep.rep o w s cs F ↔ cs = [.int .i64 s.kind, .int .i64 s.line, .int .i64 s.pos, .string s.word, .string s.old] ∧ F = [] ∧ I64 s.kind ∧ I64 s.line ∧ I64 s.pos ∧ s.word.size ≤ maxLen ∧ s.old.size ≤ maxLen := by
  constructor
  · rintro ⟨_, _, _, _, rfl, rfl, ⟨rfl, rfl, h0⟩, ⟨_, _, _, _, rfl, rfl, ⟨rfl, rfl, h1⟩, ⟨_, _, _, _, rfl, rfl, ⟨rfl, rfl, h2⟩, ⟨_, _, _, _, rfl, rfl, ⟨rfl, rfl, h3⟩, ⟨rfl, rfl, h4⟩⟩⟩⟩⟩
    exact ⟨rfl, rfl, h0, h1, h2, h3, h4⟩
  · rintro ⟨rfl, rfl, h0, h1, h2, h3, h4⟩
    exact ⟨_, _, [], [], rfl, rfl, ⟨rfl, rfl, h0⟩, ⟨_, _, [], [], rfl, rfl, ⟨rfl, rfl, h1⟩, ⟨_, _, [], [], rfl, rfl, ⟨rfl, rfl, h2⟩, ⟨_, _, [], [], rfl, rfl, ⟨rfl, rfl, h3⟩, ⟨rfl, rfl, h4⟩⟩⟩⟩⟩
def pSteps (e : TypeId) : Ty (List PStep) := pStep.slice e
theorem pSteps_open {o : Bool} {w : World} {e : TypeId} {xs : List PStep} {v : Value} {F : List Nat} (h : (pSteps e).rep o w xs [v] F) :
    ∃ A c, v = .slice A xs.length c ∧ xs.length ≤ c ∧ c ≤ maxLen ∧ ∀ k (hk : k < xs.length), ∃ b off, A = some ⟨b, off, none⟩ ∧ b < w.heap.size ∧ b ∈ F ∧
      w.cell? ⟨b, off + k * 5, none⟩ = some (.int .i64 xs[k].kind) ∧ w.cell? ⟨b, off + k * 5 + 1, none⟩ = some (.int .i64 xs[k].line) ∧ w.cell? ⟨b, off + k * 5 + 2, none⟩ = some (.int .i64 xs[k].pos) ∧ w.cell? ⟨b, off + k * 5 + 3, none⟩ = some (.string xs[k].word) ∧ w.cell? ⟨b, off + k * 5 + 4, none⟩ = some (.string xs[k].old) ∧ I64 xs[k].kind ∧ I64 xs[k].line ∧ I64 xs[k].pos ∧ xs[k].word.size ≤ maxLen ∧ xs[k].old.size ≤ maxLen := by
  obtain ⟨A, c, hv, h1, h2, h3⟩ := slice_open h
  refine ⟨A, c, hv, h1, h2, fun k hk => ?_⟩
  obtain ⟨b, off, ck, Fk, hA, hb, hin, hr, _, hc⟩ := h3 k hk
  obtain ⟨rfl, rfl, i0, i1, i2, i3, i4⟩ := pStep_rep.1 hr
  exact ⟨b, off, hA, hb, hin, hc 0 _ rfl, by rw [Nat.add_assoc]; exact hc 1 _ rfl, by rw [Nat.add_assoc]; exact hc 2 _ rfl, by rw [Nat.add_assoc]; exact hc 3 _ rfl, by rw [Nat.add_assoc]; exact hc 4 _ rfl, i0, i1, i2, i3, i4⟩
def pStepCells (s : PStep) : List Value := [.int .i64 s.kind, .int .i64 s.line, .int .i64 s.pos, .string s.word, .string s.old]
def pStepOk (s : PStep) : Prop := I64 s.kind ∧ I64 s.line ∧ I64 s.pos ∧ s.word.size ≤ maxLen ∧ s.old.size ≤ maxLen
theorem pStepCells_len (xs : List PStep) : (xs.flatMap pStepCells).length = xs.length * 5 := by
  induction xs with
  | nil => rfl
  | cons a r ih => simp only [List.flatMap_cons, List.length_append, ih, List.length_cons]; simp [pStepCells]; omega
theorem repL_pStep {o : Bool} {w : World} : ∀ (xs : List PStep), (∀ s ∈ xs, pStepOk s) → repL pStep o w xs (xs.flatMap pStepCells) []
  | [], _ => ⟨rfl, rfl⟩
  | s :: r, h => ⟨_, _, [], [], rfl, rfl, pStep_rep.2 ⟨rfl, rfl, h s (by simp)⟩, repL_pStep r (fun t ht => h t (by simp [ht]))⟩
theorem repL_pStep_inv {o : Bool} {w : World} : ∀ {xs : List PStep} {cs : List Value} {F : List Nat}, repL pStep o w xs cs F → cs = xs.flatMap pStepCells ∧ F = []
  | [], _, _, ⟨rfl, rfl⟩ => ⟨rfl, rfl⟩
  | s :: r, _, _, ⟨c1, c2, F1, F2, rfl, rfl, h1, h2⟩ => by
    obtain ⟨rfl, rfl, _⟩ := pStep_rep.1 h1
    obtain ⟨rfl, rfl⟩ := repL_pStep_inv h2
    exact ⟨rfl, rfl⟩
theorem pSteps_ok {o : Bool} {w : World} {e : TypeId} {xs : List PStep} {v : Value} {F : List Nat} (h : (pSteps e).rep o w xs [v] F) : ∀ s ∈ xs, pStepOk s := by
  obtain ⟨_, _, _, _, _, hr⟩ := pSteps_open h
  intro s hs
  obtain ⟨k, hk, rfl⟩ := List.getElem_of_mem hs
  obtain ⟨_, _, _, _, _, _, _, _, _, _, h⟩ := hr k hk
  exact h

/-- What one weighs. -/
def pStepW (s : PStep) : Nat := s.word.size + s.old.size
def szpStep (xs : List PStep) : Nat := xs.length + (xs.map pStepW).sum
/-- The marks from number s on. -/
def markPStep (n s : Nat) : List PStep := (List.range n).map fun i : Nat => ⟨(s : Int) + (i : Int) * 5, (s : Int) + (i : Int) * 5 + 1, (s : Int) + (i : Int) * 5 + 1 + 1, markB (s + i * 5 + 1 + 1 + 1), markB (s + i * 5 + 1 + 1 + 1 + 1)⟩
theorem markPStep_len (n s : Nat) : (markPStep n s).length = n := by simp [markPStep]
theorem markPStep_succ (n s : Nat) : markPStep (n + 1) s = markPStep n s ++ [⟨(s : Int) + (n : Int) * 5, (s : Int) + (n : Int) * 5 + 1, (s : Int) + (n : Int) * 5 + 1 + 1, markB (s + n * 5 + 1 + 1 + 1), markB (s + n * 5 + 1 + 1 + 1 + 1)⟩] := by simp [markPStep, List.range_succ]
theorem markPStep_ok (n s : Nat) (hn : n ≤ 1048576) (hs : s ≤ 10000000) : ∀ x ∈ markPStep n s, pStepOk x := by
  intro x hx
  obtain ⟨i, hi, rfl⟩ := List.mem_map.1 hx
  have hi' : i < n := by simpa using hi
  refine ⟨⟨by dsimp only; omega, by dsimp only; omega⟩, ⟨by dsimp only; omega, by dsimp only; omega⟩, ⟨by dsimp only; omega, by dsimp only; omega⟩, by have := markB_size (s + i * 5 + 1 + 1 + 1); simp only [maxLen]; omega, by have := markB_size (s + i * 5 + 1 + 1 + 1 + 1); simp only [maxLen]; omega⟩
end Go.Proofs.Ytkkignkoneeieaa
