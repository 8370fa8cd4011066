/- The type Ink: the law's own helpers over it. Conditions: none. -/
import Derived.Test.YtkfadfddhbpngaaGreatTyStroke3x
namespace Go.Proofs.YtkfadfddhbpngaaGreat
open Go Go.RowKit

set_option maxHeartbeats 400000 in
theorem eqInk_c {oa ob : Bool} {pa pb ea eb : TypeId} {xs ys : List PStroke} {v u : Value} {F G : List Nat} (w : World) (h : (pStrokes pa ea).rep oa w xs [v] F) (h' : (pStrokes pb eb).rep ob w ys [u] G) (hx : xs.length ≤ 1048576) (hy : ys.length ≤ 1048576) (hxe : ∀ l ∈ xs, l.length ≤ 1048576) (hye : ∀ l ∈ ys, l.length ≤ 1048576) :
 Calls Tryz.prog 51 #[.agg #[v], .agg #[u]] w fun e w' => e = .returned (.bool (decide (xs = ys))) ∧ Below w.heap.size w w' := by
 cases hd : decide (xs = ys)
 all_goals
  go_enter Tryz.func51, Tryz.ntmps51
  go_wp2_with (go_at_call 124; refine (eqStrokeS_c _ ((h.alloc _).alloc _) ((h'.alloc _).alloc _) hx hy hxe hye).mono ?_; rw [hd]; rintro e w1 ⟨rfl, hb1⟩)
  go_ret
  exact ⟨rfl, ((((Below.refl _ _).alloc (Nat.le_refl _) _).alloc (by simp) _).trans (hb1.mono (by simp; omega)))⟩
set_option maxHeartbeats 400000 in
theorem toInk_c {o : Bool} {pe e : TypeId} {xs : List PStroke} {v : Value} {F : List Nat} (w : World) (h : (pStrokes pe e).rep o w xs [v] F) (hx : xs.length ≤ 1048576) (hxe : ∀ l ∈ xs, l.length ≤ 1048576) :
 Calls Tryz.prog 83 #[.agg #[v]] w fun e' w' => ∃ u G, e' = .returned (.agg #[u]) ∧ (pStrokes 155 141).rep true w' xs [u] G ∧ Fresh w.heap.size G ∧ Below w.heap.size w w' := by
 go_enter Tryz.func83, Tryz.ntmps83
 go_wp2_with (go_at_call 156; refine (toStrokeS_c _ (((h.alloc _).alloc _).alloc _) hx hxe).mono ?_; rintro e' w1 ⟨u1, G1, rfl, r1, f1, hb1⟩; obtain ⟨A1, k1, rfl⟩ := slice_len r1; obtain ⟨hcc, hff⟩ := bcell hb1; have hzz := hb1.size)
 have b3 : Below w.heap.size w (((w.alloc (.cells #[v] 37)).alloc (.cells #[.slice none 0 0] 64)).alloc (.cells #[.slice none 0 0] 64)) :=
  ((((Below.refl _ _).alloc (Nat.le_refl _) _).alloc (by simp) _).alloc (by simp; omega) _)
 have hz3 : (((w.alloc (.cells #[v] 37)).alloc (.cells #[.slice none 0 0] 64)).alloc (.cells #[.slice none 0 0] 64)).heap.size = w.heap.size + 1 + 1 + 1 := by simp
 have hz1 : (w.alloc (.cells #[v] 37)).heap.size = w.heap.size + 1 := by simp
 have R := Row.new (w.alloc (.cells #[v] 37)) 64 #[.slice none 0 0]
 rw [hz1] at R
 have hcell := (((((R.alloc (.cells #[.slice none 0 0] 64)).later hb1).far (p := ⟨w.heap.size + 1 + 1, 0, none⟩) (by simp) (.slice A1 xs.length k1)).set 0 (.slice A1 xs.length k1)).cell' (i := 0) (u := .slice A1 xs.length k1) (by simp))
 refine bodyPost_ret (v := .agg #[.slice A1 xs.length k1]) (by simp [results, Tryz.results83, go_sem, hcell]) rfl ⟨_, G1, rfl, (r1.setCell ?_ _).setCell ?_ _, f1.mono (by omega), (((b3.trans (hb1.mono (by omega))).setCell ?_ _).setCell ?_ _)⟩
 · intro hin; have := f1.2 _ hin; simp at this; omega
 · intro hin; have := f1.2 _ hin; simp at this; omega
 · simp; omega
 · simp
set_option maxHeartbeats 400000 in
theorem szInk_c {o : Bool} {pe e : TypeId} {xs : List PStroke} {v : Value} {F : List Nat} (w : World) (h : (pStrokes pe e).rep o w xs [v] F) (left : Int) (hl : 0 ≤ left ∧ left ≤ 1048576) :
 Calls Tryz.prog 71 #[.agg #[v], .int .i64 left] w fun e' w' => (∃ r : Int, e' = .returned (.int .i64 r) ∧ r ≤ left ∧ (0 ≤ r → r + szStrokes xs ≤ left)) ∧ Below w.heap.size w w' := by
 have H := Lib.hid (fun w' (q : (pStrokes pe e).rep o w' xs [v] F) => szStrokeS_c w' q left hl)
 go_enter Tryz.func71, Tryz.ntmps71
 go_wp2_with fail
 refine (H.out _ (h.alloc _)).mono ?_
 rintro e' w1 ⟨⟨r, rfl, hr1, hr2⟩, hb1⟩
 have bb : Below w.heap.size w w1 := ((Below.refl _ _).alloc (Nat.le_refl _) _).trans (hb1.mono (by simp))
 by_cases h0 : r < 0
 · go_wp2_with fail
   go_ret
   exact ⟨⟨-1, rfl, by omega, by omega⟩, bb⟩
 · go_wp2_with fail
   go_ret
   exact ⟨⟨r, rfl, hr1, hr2⟩, bb⟩
end Go.Proofs.YtkfadfddhbpngaaGreat
