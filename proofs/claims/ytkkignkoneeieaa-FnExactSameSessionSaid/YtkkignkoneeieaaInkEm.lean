/- Ink: the events of ink, plainly, and the program's walk. Conditions: none. -/
import Derived.Test.YtkkignkoneeieaaInkAm
import Derived.Test.YtkkignkoneeieaaTyEventm
import Derived.Test.YtkkignkoneeieaaAppendm
namespace Go.Proofs.Ytkkignkoneeieaa
open Go Go.RowKit

def ptEvent (s : PStroke) (k : Nat) : PEvent := ⟨if k = 0 then 1 else 2, (pt s k).x, (pt s k).y, (pt s k).t⟩
/-- The events of the first n points. -/
def ptEvents (s : PStroke) (n : Nat) : List PEvent := (List.range n).map (ptEvent s)
def upEvent (s : PStroke) : PEvent := ⟨3, 0, 0, lastT s⟩
/-- The events of the first n strokes. -/
def inkEvents (xs : List PStroke) (n : Nat) : List PEvent := (List.range n).flatMap fun k => ptEvents (strk xs k) (strk xs k).length ++ [upEvent (strk xs k)]
theorem ptEvents_succ (s : PStroke) (n : Nat) : ptEvents s (n + 1) = ptEvents s n ++ [ptEvent s n] := by simp [ptEvents, List.range_succ]
theorem ptEvents_len (s : PStroke) (n : Nat) : (ptEvents s n).length = n := by simp [ptEvents]
theorem inkEvents_succ (xs : List PStroke) (n : Nat) : inkEvents xs (n + 1) = (inkEvents xs n ++ ptEvents (strk xs n) (strk xs n).length) ++ [upEvent (strk xs n)] := by simp [inkEvents, List.range_succ]
theorem inkEvents_len {xs : List PStroke} (h : ∀ k, k < xs.length → (strk xs k).length ≤ 60) : ∀ n, n ≤ xs.length → (inkEvents xs n).length ≤ n * 61
  | 0, _ => by simp [inkEvents]
  | n + 1, hn => by
    have h1 := inkEvents_len h n (by omega)
    have h2 := h n (by omega)
    rw [inkEvents_succ]
    simp only [List.length_append, List.length_cons, List.length_nil, ptEvents_len]
    omega
theorem strokeB_len {s : PStroke} (h : strokeB s = true) : s.length ≤ 60 := by
  simp only [strokeB, Bool.and_eq_true, decide_eq_true_eq] at h
  omega
theorem inkB_stroke {xs : List PStroke} (h : inkB xs = true) {k : Nat} (hk : k < xs.length) : strokeB xs[k] = true := by
  simp only [inkB, Bool.and_eq_true] at h
  exact stOk_stroke hk (stsOk_get h.1 hk)
theorem inkB_few {xs : List PStroke} (h : inkB xs = true) : xs.length ≤ 16 := by
  simp only [inkB, Bool.and_eq_true, decide_eq_true_eq] at h
  exact h.2
theorem inkEvents_few {xs : List PStroke} (h : inkB xs = true) {n : Nat} (hn : n ≤ xs.length) : (inkEvents xs n).length ≤ 976 := by
  have h1 := inkEvents_len (xs := xs) (fun k hk => by rw [strk_get hk]; exact strokeB_len (inkB_stroke h hk)) n hn
  have h2 := inkB_few h
  omega
theorem only_cell {F : List Nat} {a b : World} (h : Only F a b) {g i : Nat} (hg : g < a.heap.size) (hn : g ∉ F) : b.cell? ⟨g, i, none⟩ = a.cell? ⟨g, i, none⟩ := by
  have := h.block g hg hn
  simp [World.cell?, this]
theorem cellsAt_at (w : World) (e : TypeId) (cs : List Value) {n : Nat} (hn : n = w.heap.size) : CellsAt (w.alloc (.cells cs.toArray e)) (some ⟨n, 0, none⟩) cs := hn ▸ cellsAt_new w e cs
end Go.Proofs.Ytkkignkoneeieaa

/- Ink: the reference's test of a stroke, and the time of its last point. Conditions: none. -/
namespace Go.Proofs.Ytkkignkoneeieaa
open Go Go.RowKit

end Go.Proofs.Ytkkignkoneeieaa

/- Ink: the reference's test of ink. Conditions: none. -/
namespace Go.Proofs.Ytkkignkoneeieaa
open Go Go.RowKit

end Go.Proofs.Ytkkignkoneeieaa

/- Ink: the events of ink, the reference's walk; EventsOfInk of both. Conditions: none. -/
namespace Go.Proofs.Ytkkignkoneeieaa
open Go Go.RowKit

/-- What EventsOfInk gives. -/
def evF (xs : List PStroke) : List PEvent := if inkB xs then inkEvents xs xs.length else []
def evC (xs : List PStroke) : Int := if inkB xs then 0 else 1
/-- Events and a code, in memory of their own. -/
def GivesEvents (e : TypeId) (l : List PEvent) (c : Int) (w : World) (en : Ending) (w' : World) : Prop :=
  ∃ u G, en = .returned (.tuple #[u, .int .i64 c]) ∧ (pEvents e).rep true w' l [u] G ∧ Fresh w.heap.size G ∧ Below w.heap.size w w'
end Go.Proofs.Ytkkignkoneeieaa
