/- The type Point: its data, how it lies in memory, and the law's own helpers over it. Conditions: none. -/
import Derived.Test.YtahoopmiipmgpaaDoorRows
import Derived.Test.YtahoopmiipmgpaaDoorStrS
namespace Go.Proofs.YtahoopmiipmgpaaDoor
open Go Go.RowKit

structure PPoint where
  x : Int
  y : Int
  t : Int
  deriving DecidableEq

def pPoint : Ty PPoint := (int64.prod (int64.prod int64)).via fun s => (s.x, s.y, s.t)
theorem pPoint_rep {o : Bool} {w : World} {s : PPoint} {cs : List Value} {F : List Nat} : pPoint.rep o w s cs F ↔ cs = [.int .i64 s.x, .int .i64 s.y, .int .i64 s.t] ∧ F = [] ∧ I64 s.x ∧ I64 s.y ∧ I64 s.t := by
  constructor
  · rintro ⟨_, _, _, _, rfl, rfl, ⟨rfl, rfl, h0⟩, ⟨_, _, _, _, rfl, rfl, ⟨rfl, rfl, h1⟩, ⟨rfl, rfl, h2⟩⟩⟩
    exact ⟨rfl, rfl, h0, h1, h2⟩
  · rintro ⟨rfl, rfl, h0, h1, h2⟩
    exact ⟨_, _, [], [], rfl, rfl, ⟨rfl, rfl, h0⟩, ⟨_, _, [], [], rfl, rfl, ⟨rfl, rfl, h1⟩, ⟨rfl, rfl, h2⟩⟩⟩
def pPoints (e : TypeId) : Ty (List PPoint) := pPoint.slice e
theorem pPoints_open {o : Bool} {w : World} {e : TypeId} {xs : List PPoint} {v : Value} {F : List Nat} (h : (pPoints e).rep o w xs [v] F) :
    ∃ A c, v = .slice A xs.length c ∧ xs.length ≤ c ∧ c ≤ maxLen ∧ ∀ k (hk : k < xs.length), ∃ b off, A = some ⟨b, off, none⟩ ∧ b < w.heap.size ∧ b ∈ F ∧
      w.cell? ⟨b, off + k * 3, none⟩ = some (.int .i64 xs[k].x) ∧ w.cell? ⟨b, off + k * 3 + 1, none⟩ = some (.int .i64 xs[k].y) ∧ w.cell? ⟨b, off + k * 3 + 2, none⟩ = some (.int .i64 xs[k].t) ∧ I64 xs[k].x ∧ I64 xs[k].y ∧ I64 xs[k].t := by
  obtain ⟨A, c, hv, h1, h2, h3⟩ := slice_open h
  refine ⟨A, c, hv, h1, h2, fun k hk => ?_⟩
  obtain ⟨b, off, ck, Fk, hA, hb, hin, hr, _, hc⟩ := h3 k hk
  obtain ⟨rfl, rfl, i0, i1, i2⟩ := pPoint_rep.1 hr
  exact ⟨b, off, hA, hb, hin, hc 0 _ rfl, by rw [Nat.add_assoc]; exact hc 1 _ rfl, by rw [Nat.add_assoc]; exact hc 2 _ rfl, i0, i1, i2⟩
def pPointCells (s : PPoint) : List Value := [.int .i64 s.x, .int .i64 s.y, .int .i64 s.t]
def pPointOk (s : PPoint) : Prop := I64 s.x ∧ I64 s.y ∧ I64 s.t
theorem pPointCells_len (xs : List PPoint) : (xs.flatMap pPointCells).length = xs.length * 3 := by
  induction xs with
  | nil => rfl
  | cons a r ih => simp only [List.flatMap_cons, List.length_append, ih, List.length_cons]; simp [pPointCells]; omega
theorem repL_pPoint {o : Bool} {w : World} : ∀ (xs : List PPoint), (∀ s ∈ xs, pPointOk s) → repL pPoint o w xs (xs.flatMap pPointCells) []
  | [], _ => ⟨rfl, rfl⟩
  | s :: r, h => ⟨_, _, [], [], rfl, rfl, pPoint_rep.2 ⟨rfl, rfl, h s (by simp)⟩, repL_pPoint r (fun t ht => h t (by simp [ht]))⟩
theorem repL_pPoint_inv {o : Bool} {w : World} : ∀ {xs : List PPoint} {cs : List Value} {F : List Nat}, repL pPoint o w xs cs F → cs = xs.flatMap pPointCells ∧ F = []
  | [], _, _, ⟨rfl, rfl⟩ => ⟨rfl, rfl⟩
  | s :: r, _, _, ⟨c1, c2, F1, F2, rfl, rfl, h1, h2⟩ => by
    obtain ⟨rfl, rfl, _⟩ := pPoint_rep.1 h1
    obtain ⟨rfl, rfl⟩ := repL_pPoint_inv h2
    exact ⟨rfl, rfl⟩
theorem pPoints_ok {o : Bool} {w : World} {e : TypeId} {xs : List PPoint} {v : Value} {F : List Nat} (h : (pPoints e).rep o w xs [v] F) : ∀ s ∈ xs, pPointOk s := by
  obtain ⟨_, _, _, _, _, hr⟩ := pPoints_open h
  intro s hs
  obtain ⟨k, hk, rfl⟩ := List.getElem_of_mem hs
  obtain ⟨_, _, _, _, _, _, _, _, h⟩ := hr k hk
  exact h

/-- The marks from number s on. -/
def markPPoint (n s : Nat) : List PPoint := (List.range n).map fun i : Nat => ⟨(s : Int) + (i : Int) * 3, (s : Int) + (i : Int) * 3 + 1, (s : Int) + (i : Int) * 3 + 1 + 1⟩
theorem markPPoint_len (n s : Nat) : (markPPoint n s).length = n := by simp [markPPoint]
theorem markPPoint_succ (n s : Nat) : markPPoint (n + 1) s = markPPoint n s ++ [⟨(s : Int) + (n : Int) * 3, (s : Int) + (n : Int) * 3 + 1, (s : Int) + (n : Int) * 3 + 1 + 1⟩] := by simp [markPPoint, List.range_succ]
theorem markPPoint_ok (n s : Nat) (hn : n ≤ 1048576) (hs : s ≤ 10000000) : ∀ x ∈ markPPoint n s, pPointOk x := by
  intro x hx
  obtain ⟨i, hi, rfl⟩ := List.mem_map.1 hx
  have hi' : i < n := by simpa using hi
  refine ⟨⟨by dsimp only; omega, by dsimp only; omega⟩, ⟨by dsimp only; omega, by dsimp only; omega⟩, ⟨by dsimp only; omega, by dsimp only; omega⟩⟩
end Go.Proofs.YtahoopmiipmgpaaDoor
