/- The type Tree: the law's own helpers over it. Conditions: none. -/
import Derived.Test.YtkickllohilciaaTySymbol
namespace Go.Proofs.Ytkickllohilciaa
open Go Go.RowKit

set_option maxHeartbeats 400000 in
theorem eqTree_c {oa ob : Bool} {ea eb : TypeId} {xs ys : List PNode} {v u : Value} {F G : List Nat} (w : World) (h : (pNodes ea).rep oa w xs [v] F) (h' : (pNodes eb).rep ob w ys [u] G) (hx : xs.length ≤ 1048576) (hy : ys.length ≤ 1048576) :
    Calls Try.prog 16 #[.agg #[v], .agg #[u]] w fun e w' => e = .returned (.bool (decide (xs = ys))) ∧ Below w.heap.size w w' := by
  cases hd : decide (xs = ys)
  all_goals
    go_enter Try.func16, Try.ntmps16
    go_wp2_with (go_at_call 44; refine (eqTreeNodeS_c _ ((h.alloc _).alloc _) ((h'.alloc _).alloc _) hx hy).mono ?_; rw [hd]; rintro e w1 ⟨rfl, hb1⟩)
    go_ret
    exact ⟨rfl, ((((Below.refl _ _).alloc (Nat.le_refl _) _).alloc (by simp) _).trans (hb1.mono (by simp; omega)))⟩
set_option maxHeartbeats 400000 in
theorem toTree_c {o : Bool} {e : TypeId} {xs : List PNode} {v : Value} {F : List Nat} (w : World) (h : (pNodes e).rep o w xs [v] F) (hx : xs.length ≤ 1048576) :
    Calls Try.prog 13 #[.agg #[v]] w fun e' w' => ∃ u G, e' = .returned (.agg #[u]) ∧ (pNodes 84).rep true w' xs [u] G ∧ Fresh w.heap.size G ∧ Below w.heap.size w w' := by
  go_enter Try.func13, Try.ntmps13
  go_wp2_with (go_at_call 40; refine (toTreeNodeS_c _ (((h.alloc _).alloc _).alloc _) hx).mono ?_; rintro e' w1 ⟨u1, G1, rfl, r1, f1, hb1⟩; obtain ⟨A1, k1, rfl⟩ := slice_len r1; obtain ⟨hcc, hff⟩ := bcell hb1; have hzz := hb1.size)
  have b3 : Below w.heap.size w (((w.alloc (.cells #[v] 25)).alloc (.cells #[.slice none 0 0] 33)).alloc (.cells #[.slice none 0 0] 33)) :=
    ((((Below.refl _ _).alloc (Nat.le_refl _) _).alloc (by simp) _).alloc (by simp; omega) _)
  have hz3 : (((w.alloc (.cells #[v] 25)).alloc (.cells #[.slice none 0 0] 33)).alloc (.cells #[.slice none 0 0] 33)).heap.size = w.heap.size + 1 + 1 + 1 := by simp
  have hz1 : (w.alloc (.cells #[v] 25)).heap.size = w.heap.size + 1 := by simp
  have R := Row.new (w.alloc (.cells #[v] 25)) 33 #[.slice none 0 0]
  rw [hz1] at R
  have hcell := (((((R.alloc (.cells #[.slice none 0 0] 33)).later hb1).far (p := ⟨w.heap.size + 1 + 1, 0, none⟩) (by simp) (.slice A1 xs.length k1)).set 0 (.slice A1 xs.length k1)).cell' (i := 0) (u := .slice A1 xs.length k1) (by simp))
  refine bodyPost_ret (v := .agg #[.slice A1 xs.length k1]) (by simp [results, Try.results13, go_sem, hcell]) rfl ⟨_, G1, rfl, (r1.setCell ?_ _).setCell ?_ _, f1.mono (by omega), (((b3.trans (hb1.mono (by omega))).setCell ?_ _).setCell ?_ _)⟩
  · intro hin; have := f1.2 _ hin; simp at this; omega
  · intro hin; have := f1.2 _ hin; simp at this; omega
  · simp; omega
  · simp
set_option maxHeartbeats 400000 in
theorem szTree_c {o : Bool} {e : TypeId} {xs : List PNode} {v : Value} {F : List Nat} (w : World) (h : (pNodes e).rep o w xs [v] F) (left : Int) (hl : 0 ≤ left ∧ left ≤ 1048576) :
    Calls Try.prog 10 #[.agg #[v], .int .i64 left] w fun e' w' => (∃ r : Int, e' = .returned (.int .i64 r) ∧ r ≤ left ∧ (0 ≤ r → r + xs.length ≤ left)) ∧ Below w.heap.size w w' := by
  have H := Lib.hid (fun w' (q : (pNodes e).rep o w' xs [v] F) => szTreeNodeS_c w' q left hl)
  go_enter Try.func10, Try.ntmps10
  go_wp2_with fail
  refine (H.out _ (h.alloc _)).mono ?_
  rintro e' w1 ⟨⟨r, rfl, _, hr1, hr2⟩, hb1⟩
  have bb : Below w.heap.size w w1 := ((Below.refl _ _).alloc (Nat.le_refl _) _).trans (hb1.mono (by simp))
  by_cases h0 : r < 0
  · go_wp2_with fail
    go_ret
    exact ⟨⟨-1, rfl, by omega, by omega⟩, bb⟩
  · go_wp2_with fail
    go_ret
    exact ⟨⟨r, rfl, hr1, hr2⟩, bb⟩
set_option maxHeartbeats 400000 in
theorem markTree_c {e : TypeId} {xs : List PNode} {v : Value} {F : List Nat} (w : World) (h : (pNodes e).rep true w xs [v] F) (hx : xs.length ≤ 1048576) (s : Nat) (n : Int) (hn : n = (s : Int)) (hs0 : 0 < s) (hs : s ≤ 10000000) :
    Calls Try.prog 27 #[.agg #[v], .int .i64 n] w fun e' w' => e' = .returned (.int .i64 (n + (xs.length : Int) * 4)) ∧ (pNodes e).rep true w' (markPNode xs.length s) [v] F ∧ Only F w w' := by
  subst hn
  have H := Lib.hid (fun w' (q : (pNodes e).rep true w' xs [v] F) => markTreeNodeS_c w' q hx s hs0 hs)
  go_enter Try.func27, Try.ntmps27
  go_wp2_with fail
  refine (H.out _ (h.alloc _)).mono ?_
  rintro e' w1 ⟨rfl, r1, o1⟩
  go_wp2_with fail
  go_ret
  exact ⟨rfl, r1, (Only.of_below ((Below.refl _ _).alloc (Nat.le_refl _) _)).trans o1⟩
end Go.Proofs.Ytkickllohilciaa
