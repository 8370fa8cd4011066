/- Ink: which points and strokes are valid, in the program and in the reference. Conditions: none. -/
import Derived.Test.YtkkignkoneeieaaTyStrokem
import Derived.Test.YtkkignkoneeieaaPointm
import Derived.Test.YtkkignkoneeieaaStepCallm
import Derived.Deep.RegionHeld3
namespace Go.Proofs.Ytkkignkoneeieaa
open Go Go.RowKit

/-- A point out of a list. -/
def pt (s : PStroke) (k : Nat) : PPoint := s.getD k ⟨0, 0, 0⟩
theorem pt_get {s : PStroke} {k : Nat} (h : k < s.length) : pt s k = s[k] := by simp [pt, List.getD_eq_getElem?_getD, List.getElem?_eq_getElem h]
def ptOk (s : PStroke) (k : Nat) : Bool := pointB (pt s k) && (decide (k = 0) || decide ((pt s (k - 1)).t < (pt s k).t))
def ptsOk (s : PStroke) : Nat → Bool
  | 0 => true
  | k + 1 => ptsOk s k && ptOk s k
theorem ptsOk_false {s : PStroke} {k : Nat} (h : ptOk s k = false) : ∀ n, k < n → ptsOk s n = false
  | 0, hk => by omega
  | n + 1, hk => by
    by_cases e : k = n
    · subst e; simp [ptsOk, h]
    · simp [ptsOk, ptsOk_false h n (by omega)]
theorem ptsOk_get {s : PStroke} : ∀ {n k : Nat}, ptsOk s n = true → k < n → ptOk s k = true
  | 0, _, _, hk => by omega
  | n + 1, k, h, hk => by
    simp only [ptsOk, Bool.and_eq_true] at h
    by_cases e : k = n
    · subst e; exact h.2
    · exact ptsOk_get h.1 (by omega)
def strokeB (s : PStroke) : Bool := ptsOk s s.length && (decide (1 ≤ s.length) && decide (s.length ≤ 60))
theorem strokeB_false {s : PStroke} {k : Nat} (hk : k < s.length) (h : ptOk s k = false) : strokeB s = false := by simp [strokeB, ptsOk_false h _ hk]
end Go.Proofs.Ytkkignkoneeieaa

/- Ink: the program's ValidStroke. Conditions: none. -/
namespace Go.Proofs.Ytkkignkoneeieaa
open Go Go.RowKit

theorem ptOk_step {s : PStroke} {k : Nat} (hk : k < s.length) (h : pointB s[k] = true) (h' : k = 0 ∨ ∃ j, k = j + 1 ∧ ∀ hj : j < s.length, s[j].t < s[k].t) : ptOk s k = true := by
  unfold ptOk
  rw [pt_get hk, h]
  rcases h' with rfl | ⟨j, rfl, h2⟩
  · simp
  · rw [show j + 1 - 1 = j from rfl, pt_get (show j < s.length by omega)]
    simp [h2 (by omega)]
theorem ptOk_bad {s : PStroke} {k : Nat} (hk : k < s.length) (h : pointB s[k] = false) : ptOk s k = false := by
  unfold ptOk
  rw [pt_get hk, h]
  rfl
theorem ptOk_late {s : PStroke} {j : Nat} (hk : j + 1 < s.length) (h : s[j + 1].t ≤ s[j].t) : ptOk s (j + 1) = false := by
  unfold ptOk
  rw [pt_get hk, show j + 1 - 1 = j from rfl, pt_get (show j < s.length by omega)]
  have : ¬ (s[j].t < s[j + 1].t) := by omega
  simp [this]
end Go.Proofs.Ytkkignkoneeieaa

/- Ink: the ends of a stroke, and the program's ValidInk. Conditions: none. -/
namespace Go.Proofs.Ytkkignkoneeieaa
open Go Go.RowKit

theorem pts_get {s : PStroke} {k : Nat} (h : k < s.length) : pt s k = s[k] := pt_get h
def firstT (s : PStroke) : Int := (pt s 0).t
def lastT (s : PStroke) : Int := (pt s (s.length - 1)).t
def strk (xs : List PStroke) (k : Nat) : PStroke := xs.getD k []
theorem strk_get {xs : List PStroke} {k : Nat} (h : k < xs.length) : strk xs k = xs[k] := by simp [strk, List.getD_eq_getElem?_getD, List.getElem?_eq_getElem h]
def stOk (xs : List PStroke) (k : Nat) : Bool := strokeB (strk xs k) && (decide (k = 0) || decide (lastT (strk xs (k - 1)) < firstT (strk xs k)))
def stsOk (xs : List PStroke) : Nat → Bool
  | 0 => true
  | k + 1 => stsOk xs k && stOk xs k
theorem stsOk_false {xs : List PStroke} {k : Nat} (h : stOk xs k = false) : ∀ n, k < n → stsOk xs n = false
  | 0, hk => by omega
  | n + 1, hk => by
    by_cases e : k = n
    · subst e; simp [stsOk, h]
    · simp [stsOk, stsOk_false h n (by omega)]
theorem stsOk_get {xs : List PStroke} : ∀ {n k : Nat}, stsOk xs n = true → k < n → stOk xs k = true
  | 0, _, _, hk => by omega
  | n + 1, k, h, hk => by
    simp only [stsOk, Bool.and_eq_true] at h
    by_cases e : k = n
    · subst e; exact h.2
    · exact stsOk_get h.1 (by omega)
/-- Is ink valid? -/
def inkB (xs : List PStroke) : Bool := stsOk xs xs.length && decide (xs.length ≤ 16)
theorem inkB_false {xs : List PStroke} {k : Nat} (hk : k < xs.length) (h : stOk xs k = false) : inkB xs = false := by simp [inkB, stsOk_false h _ hk]
theorem stOk_step {xs : List PStroke} {k : Nat} (hk : k < xs.length) (h : strokeB xs[k] = true) (h' : k = 0 ∨ ∃ j, k = j + 1 ∧ ∀ hj : j < xs.length, lastT xs[j] < firstT xs[k]) : stOk xs k = true := by
  unfold stOk
  rw [strk_get hk, h]
  rcases h' with rfl | ⟨j, rfl, h2⟩
  · simp
  · rw [show j + 1 - 1 = j from rfl, strk_get (show j < xs.length by omega)]
    simp [h2 (by omega)]
theorem stOk_bad {xs : List PStroke} {k : Nat} (hk : k < xs.length) (h : strokeB xs[k] = false) : stOk xs k = false := by
  unfold stOk
  rw [strk_get hk, h]
  rfl
theorem stOk_late {xs : List PStroke} {j : Nat} (hk : j + 1 < xs.length) (h : firstT xs[j + 1] ≤ lastT xs[j]) : stOk xs (j + 1) = false := by
  unfold stOk
  rw [strk_get hk, show j + 1 - 1 = j from rfl, strk_get (show j < xs.length by omega)]
  have : ¬ (lastT xs[j] < firstT xs[j + 1]) := by omega
  simp [this]
theorem strokeB_pos {s : PStroke} (h : strokeB s = true) : 0 < s.length := by
  simp only [strokeB, Bool.and_eq_true, decide_eq_true_eq] at h
  omega
theorem stOk_stroke {xs : List PStroke} {k : Nat} (hk : k < xs.length) (h : stOk xs k = true) : strokeB xs[k] = true := by
  unfold stOk at h
  rw [strk_get hk] at h
  simp only [Bool.and_eq_true] at h
  exact h.1
end Go.Proofs.Ytkkignkoneeieaa

/- Ink: the program's ValidInk. Conditions: none. -/
namespace Go.Proofs.Ytkkignkoneeieaa
open Go Go.RowKit

theorem keep_b {w2 w3 : World} {b o : Nat} {u : Value} (o3 : Below w2.heap.size w2 w3) (hb : b < w2.heap.size) (hu : w2.cell? ⟨b, o, none⟩ = some u) : w3.cell? ⟨b, o, none⟩ = some u :=
  (Below.cell (p := ⟨b, o, none⟩) o3 hb).trans hu
end Go.Proofs.Ytkkignkoneeieaa
