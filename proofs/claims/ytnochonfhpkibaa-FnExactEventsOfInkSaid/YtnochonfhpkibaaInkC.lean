/- Ink: the ends of a stroke, and the program's ValidInk. Conditions: none. -/
import Derived.Test.YtnochonfhpkibaaInkB
namespace Go.Proofs.Ytnochonfhpkibaa
open Go Go.RowKit

theorem pts_get {s : PStroke} {k : Nat} (h : k < s.length) : pt s k = s[k] := pt_get h
set_option maxHeartbeats 400000 in
theorem impl_firstOf_c {o : Bool} {e : TypeId} {xs : PStroke} {v : Value} {F : List Nat} (w : World) (h : (pPoints e).rep o w xs [v] F) (h0 : 0 < xs.length) :
    Calls Try.prog 27 #[.agg #[v]] w fun e w' => e = .returned (.agg #[.int .i64 (pt xs 0).x, .int .i64 (pt xs 0).y, .int .i64 (pt xs 0).t]) ∧ Below w.heap.size w w' := by
  obtain ⟨A, c, rfl, hc1, hc2, hr⟩ := pPoints_open h
  clear h
  obtain ⟨b, off, rfl, hbb, _, c0, c1, c2, _⟩ := hr 0 h0
  rw [pt_get h0]
  clear hr
  simp only [Nat.zero_mul, Nat.add_zero] at c0 c1 c2
  have hin : (0 : Int) < (xs.length : Int) := by omega
  go_enter Try.func27, Try.ntmps27
  go_wp2_with fail
  refine bodyPost_ret (v := .agg #[.int .i64 xs[0].x, .int .i64 xs[0].y, .int .i64 xs[0].t]) (by simp [results, Try.results27, go_sem]) rfl ⟨rfl, ?_⟩
  exact ((Below.refl _ _).alloc (Nat.le_refl _) _).alloc (by simp) _
set_option maxHeartbeats 400000 in
theorem impl_lastOf_c {o : Bool} {e : TypeId} {xs : PStroke} {v : Value} {F : List Nat} (w : World) (h : (pPoints e).rep o w xs [v] F) (h0 : 0 < xs.length) (hx : xs.length ≤ 1048576) :
    Calls Try.prog 28 #[.agg #[v]] w fun e w' => e = .returned (.agg #[.int .i64 (pt xs (xs.length - 1)).x, .int .i64 (pt xs (xs.length - 1)).y, .int .i64 (pt xs (xs.length - 1)).t]) ∧ Below w.heap.size w w' := by
  obtain ⟨A, c, rfl, hc1, hc2, hr⟩ := pPoints_open h
  clear h
  obtain ⟨j, hj⟩ : ∃ j, xs.length = j + 1 := ⟨xs.length - 1, by omega⟩
  have hl : xs.length - 1 = j := by omega
  rw [hl]
  have jl : j < xs.length := by omega
  obtain ⟨b, off, rfl, hbb, _, c0, c1, c2, _⟩ := hr j jl
  rw [pt_get jl]
  clear hr
  have gj : IntKind.i64.wrap ((xs.length : Int) - 1) = (j : Int) := (IntWalk.i64_in _ (by omega)).trans (by omega)
  have j0 : (0 : Int) ≤ (j : Int) := by omega
  have jl' : (j : Int) < (xs.length : Int) := by omega
  have HJ := Lib.hid hj
  have HL := Lib.hid hl
  clear hj hl
  go_enter Try.func28, Try.ntmps28
  go_wp2_with fail
  refine bodyPost_ret (v := .agg #[.int .i64 xs[j].x, .int .i64 xs[j].y, .int .i64 xs[j].t]) (by simp [results, Try.results28, go_sem]) rfl ⟨rfl, ?_⟩
  exact ((Below.refl _ _).alloc (Nat.le_refl _) _).alloc (by simp) _
def firstT (s : PStroke) : Int := (pt s 0).t
def lastT (s : PStroke) : Int := (pt s (s.length - 1)).t
def strk (xs : List PStroke) (k : Nat) : PStroke := xs.getD k []
theorem strk_get {xs : List PStroke} {k : Nat} (h : k < xs.length) : strk xs k = xs[k] := by simp [strk, List.getD_eq_getElem?_getD, List.getElem?_eq_getElem h]
def stOk (xs : List PStroke) (k : Nat) : Bool := strokeB (strk xs k) && (decide (k = 0) || decide (lastT (strk xs (k - 1)) < firstT (strk xs k)))
def stsOk (xs : List PStroke) : Nat → Bool
  | 0 => true
  | k + 1 => stsOk xs k && stOk xs k
theorem stsOk_false {xs : List PStroke} {k : Nat} (h : stOk xs k = false) : ∀ n, k < n → stsOk xs n = false
  | 0, hk => by omega
  | n + 1, hk => by
    by_cases e : k = n
    · subst e; simp [stsOk, h]
    · simp [stsOk, stsOk_false h n (by omega)]
theorem stsOk_get {xs : List PStroke} : ∀ {n k : Nat}, stsOk xs n = true → k < n → stOk xs k = true
  | 0, _, _, hk => by omega
  | n + 1, k, h, hk => by
    simp only [stsOk, Bool.and_eq_true] at h
    by_cases e : k = n
    · subst e; exact h.2
    · exact stsOk_get h.1 (by omega)
/-- Is ink valid? -/
def inkB (xs : List PStroke) : Bool := stsOk xs xs.length && decide (xs.length ≤ 16)
theorem inkB_false {xs : List PStroke} {k : Nat} (hk : k < xs.length) (h : stOk xs k = false) : inkB xs = false := by simp [inkB, stsOk_false h _ hk]
theorem stOk_step {xs : List PStroke} {k : Nat} (hk : k < xs.length) (h : strokeB xs[k] = true) (h' : k = 0 ∨ ∃ j, k = j + 1 ∧ ∀ hj : j < xs.length, lastT xs[j] < firstT xs[k]) : stOk xs k = true := by
  unfold stOk
  rw [strk_get hk, h]
  rcases h' with rfl | ⟨j, rfl, h2⟩
  · simp
  · rw [show j + 1 - 1 = j from rfl, strk_get (show j < xs.length by omega)]
    simp [h2 (by omega)]
theorem stOk_bad {xs : List PStroke} {k : Nat} (hk : k < xs.length) (h : strokeB xs[k] = false) : stOk xs k = false := by
  unfold stOk
  rw [strk_get hk, h]
  rfl
theorem stOk_late {xs : List PStroke} {j : Nat} (hk : j + 1 < xs.length) (h : firstT xs[j + 1] ≤ lastT xs[j]) : stOk xs (j + 1) = false := by
  unfold stOk
  rw [strk_get hk, show j + 1 - 1 = j from rfl, strk_get (show j < xs.length by omega)]
  have : ¬ (lastT xs[j] < firstT xs[j + 1]) := by omega
  simp [this]
theorem strokeB_pos {s : PStroke} (h : strokeB s = true) : 0 < s.length := by
  simp only [strokeB, Bool.and_eq_true, decide_eq_true_eq] at h
  omega
theorem stOk_stroke {xs : List PStroke} {k : Nat} (hk : k < xs.length) (h : stOk xs k = true) : strokeB xs[k] = true := by
  unfold stOk at h
  rw [strk_get hk] at h
  simp only [Bool.and_eq_true] at h
  exact h.1
end Go.Proofs.Ytnochonfhpkibaa
