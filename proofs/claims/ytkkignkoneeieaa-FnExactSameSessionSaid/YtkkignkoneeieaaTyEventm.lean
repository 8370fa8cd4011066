/- The type Event: its data, how it lies in memory, and the law's own helpers over it. Conditions: none. -/
import Derived.Test.YtkkignkoneeieaaRows
import Derived.Test.YtkkignkoneeieaaTyPointm
namespace Go.Proofs.Ytkkignkoneeieaa
open Go Go.RowKit

structure PEvent where
  kind : Int
  x : Int
  y : Int
  t : Int
  deriving DecidableEq

def pEvent : Ty PEvent := (int64.prod (int64.prod (int64.prod int64))).via fun s => (s.kind, s.x, s.y, s.t)
theorem pEvent_rep {o : Bool} {w : World} {s : PEvent} {cs : List Value} {F : List Nat} : pEvent.rep o w s cs F ↔ cs = [.int .i64 s.kind, .int .i64 s.x, .int .i64 s.y, .int .i64 s.t] ∧ F = [] ∧ I64 s.kind ∧ I64 s.x ∧ I64 s.y ∧ I64 s.t := by
  constructor
  · rintro ⟨_, _, _, _, rfl, rfl, ⟨rfl, rfl, h0⟩, ⟨_, _, _, _, rfl, rfl, ⟨rfl, rfl, h1⟩, ⟨_, _, _, _, rfl, rfl, ⟨rfl, rfl, h2⟩, ⟨rfl, rfl, h3⟩⟩⟩⟩
    exact ⟨rfl, rfl, h0, h1, h2, h3⟩
  · rintro ⟨rfl, rfl, h0, h1, h2, h3⟩
    exact ⟨_, _, [], [], rfl, rfl, ⟨rfl, rfl, h0⟩, ⟨_, _, [], [], rfl, rfl, ⟨rfl, rfl, h1⟩, ⟨_, _, [], [], rfl, rfl, ⟨rfl, rfl, h2⟩, ⟨rfl, rfl, h3⟩⟩⟩⟩
def pEvents (e : TypeId) : Ty (List PEvent) := pEvent.slice e
theorem pEvents_open {o : Bool} {w : World} {e : TypeId} {xs : List PEvent} {v : Value} {F : List Nat} (h : (pEvents e).rep o w xs [v] F) :
    ∃ A c, v = .slice A xs.length c ∧ xs.length ≤ c ∧ c ≤ maxLen ∧ ∀ k (hk : k < xs.length), ∃ b off, A = some ⟨b, off, none⟩ ∧ b < w.heap.size ∧ b ∈ F ∧
      w.cell? ⟨b, off + k * 4, none⟩ = some (.int .i64 xs[k].kind) ∧ w.cell? ⟨b, off + k * 4 + 1, none⟩ = some (.int .i64 xs[k].x) ∧ w.cell? ⟨b, off + k * 4 + 2, none⟩ = some (.int .i64 xs[k].y) ∧ w.cell? ⟨b, off + k * 4 + 3, none⟩ = some (.int .i64 xs[k].t) ∧ I64 xs[k].kind ∧ I64 xs[k].x ∧ I64 xs[k].y ∧ I64 xs[k].t := by
  obtain ⟨A, c, hv, h1, h2, h3⟩ := slice_open h
  refine ⟨A, c, hv, h1, h2, fun k hk => ?_⟩
  obtain ⟨b, off, ck, Fk, hA, hb, hin, hr, _, hc⟩ := h3 k hk
  obtain ⟨rfl, rfl, i0, i1, i2, i3⟩ := pEvent_rep.1 hr
  exact ⟨b, off, hA, hb, hin, hc 0 _ rfl, by rw [Nat.add_assoc]; exact hc 1 _ rfl, by rw [Nat.add_assoc]; exact hc 2 _ rfl, by rw [Nat.add_assoc]; exact hc 3 _ rfl, i0, i1, i2, i3⟩
def pEventCells (s : PEvent) : List Value := [.int .i64 s.kind, .int .i64 s.x, .int .i64 s.y, .int .i64 s.t]
def pEventOk (s : PEvent) : Prop := I64 s.kind ∧ I64 s.x ∧ I64 s.y ∧ I64 s.t
theorem pEventCells_len (xs : List PEvent) : (xs.flatMap pEventCells).length = xs.length * 4 := by
  induction xs with
  | nil => rfl
  | cons a r ih => simp only [List.flatMap_cons, List.length_append, ih, List.length_cons]; simp [pEventCells]; omega
theorem repL_pEvent {o : Bool} {w : World} : ∀ (xs : List PEvent), (∀ s ∈ xs, pEventOk s) → repL pEvent o w xs (xs.flatMap pEventCells) []
  | [], _ => ⟨rfl, rfl⟩
  | s :: r, h => ⟨_, _, [], [], rfl, rfl, pEvent_rep.2 ⟨rfl, rfl, h s (by simp)⟩, repL_pEvent r (fun t ht => h t (by simp [ht]))⟩
theorem repL_pEvent_inv {o : Bool} {w : World} : ∀ {xs : List PEvent} {cs : List Value} {F : List Nat}, repL pEvent o w xs cs F → cs = xs.flatMap pEventCells ∧ F = []
  | [], _, _, ⟨rfl, rfl⟩ => ⟨rfl, rfl⟩
  | s :: r, _, _, ⟨c1, c2, F1, F2, rfl, rfl, h1, h2⟩ => by
    obtain ⟨rfl, rfl, _⟩ := pEvent_rep.1 h1
    obtain ⟨rfl, rfl⟩ := repL_pEvent_inv h2
    exact ⟨rfl, rfl⟩
theorem pEvents_ok {o : Bool} {w : World} {e : TypeId} {xs : List PEvent} {v : Value} {F : List Nat} (h : (pEvents e).rep o w xs [v] F) : ∀ s ∈ xs, pEventOk s := by
  obtain ⟨_, _, _, _, _, hr⟩ := pEvents_open h
  intro s hs
  obtain ⟨k, hk, rfl⟩ := List.getElem_of_mem hs
  obtain ⟨_, _, _, _, _, _, _, _, _, h⟩ := hr k hk
  exact h

/-- The marks from number s on. -/
def markPEvent (n s : Nat) : List PEvent := (List.range n).map fun i : Nat => ⟨(s : Int) + (i : Int) * 4, (s : Int) + (i : Int) * 4 + 1, (s : Int) + (i : Int) * 4 + 1 + 1, (s : Int) + (i : Int) * 4 + 1 + 1 + 1⟩
theorem markPEvent_len (n s : Nat) : (markPEvent n s).length = n := by simp [markPEvent]
theorem markPEvent_succ (n s : Nat) : markPEvent (n + 1) s = markPEvent n s ++ [⟨(s : Int) + (n : Int) * 4, (s : Int) + (n : Int) * 4 + 1, (s : Int) + (n : Int) * 4 + 1 + 1, (s : Int) + (n : Int) * 4 + 1 + 1 + 1⟩] := by simp [markPEvent, List.range_succ]
theorem markPEvent_ok (n s : Nat) (hn : n ≤ 1048576) (hs : s ≤ 10000000) : ∀ x ∈ markPEvent n s, pEventOk x := by
  intro x hx
  obtain ⟨i, hi, rfl⟩ := List.mem_map.1 hx
  have hi' : i < n := by simpa using hi
  refine ⟨⟨by dsimp only; omega, by dsimp only; omega⟩, ⟨by dsimp only; omega, by dsimp only; omega⟩, ⟨by dsimp only; omega, by dsimp only; omega⟩, ⟨by dsimp only; omega, by dsimp only; omega⟩⟩
end Go.Proofs.Ytkkignkoneeieaa
