/- The type Stroke: the law's own sz over it. Conditions: none. -/
import Derived.Test.YtkfadfddhbpngaaGreatTyStroke2x
namespace Go.Proofs.YtkfadfddhbpngaaGreat
open Go Go.RowKit

/-- What strokes weigh. -/
def szStrokes (xs : List PStroke) : Nat := xs.length + (xs.map List.length).sum
theorem szStrokes_take (xs : List PStroke) (k : Nat) (h : k < xs.length) : ((xs.take (k+1)).map List.length).sum = ((xs.take k).map List.length).sum + xs[k].length := by
 rw [List.take_succ_eq_append_getElem h, List.map_append, List.sum_append]; simp
set_option maxHeartbeats 400000 in
theorem szStroke_c {o : Bool} {e : TypeId} {xs : PStroke} {v : Value} {F : List Nat} (w : World) (h : (pPoints e).rep o w xs [v] F) (left : Int) (hl : 0 ≤ left ∧ left ≤ 1048576) :
 Calls Tryz.prog 207 #[.agg #[v], .int .i64 left] w fun e' w' => (∃ r : Int, e' = .returned (.int .i64 r) ∧ r ≤ left ∧ (0 ≤ r → r + xs.length ≤ left)) ∧ Below w.heap.size w w' := by
 have H := Lib.hid (fun w' (q : (pPoints e).rep o w' xs [v] F) => szPointS_c w' q left hl)
 go_enter Tryz.func207, Tryz.ntmps207
 go_wp2_with fail
 refine (H.out _ (h.alloc _)).mono ?_
 rintro e' w1 ⟨⟨r, rfl, _, hr1, hr2⟩, hb1⟩
 have bb : Below w.heap.size w w1 := ((Below.refl _ _).alloc (Nat.le_refl _) _).trans (hb1.mono (by simp))
 by_cases h0 : r < 0
 · go_wp2_with fail
   go_ret
   exact ⟨⟨-1, rfl, by omega, by omega⟩, bb⟩
 · go_wp2_with fail
   go_ret
   exact ⟨⟨r, rfl, hr1, hr2⟩, bb⟩
set_option maxHeartbeats 1000000 in
theorem szStrokeS_c {o : Bool} {pe e : TypeId} {xs : List PStroke} {v : Value} {F : List Nat} (w : World) (h : (pStrokes pe e).rep o w xs [v] F) (left : Int) (hl : 0 ≤ left ∧ left ≤ 1048576) :
 Calls Tryz.prog 152 #[v, .int .i64 left] w fun e w' => (∃ r : Int, e = .returned (.int .i64 r) ∧ r ≤ left ∧ (0 ≤ r → r + szStrokes xs ≤ left)) ∧ Below w.heap.size w w' := by
 obtain ⟨A, c, rfl, hc1, hc2, hr⟩ := pStrokes_open h
 clear h
 unfold maxLen at hc2
 by_cases h0 : left - xs.length < 0
 · go_enter Tryz.func152, Tryz.ntmps152
   go_wp2_with fail
   go_ret
   exact ⟨⟨-1, rfl, by omega, by omega⟩, Below.refl _ _⟩
 · have h1 : ¬ (left - (xs.length : Int) < 0) := h0
   go_enter Tryz.func152, Tryz.ntmps152
   go_wp2_with fail
   go_loopw [1, 5] (fun l i wr => ∃ k : Nat, k ≤ xs.length ∧ i = .int .i64 k ∧ (∃ n : Int, 0 ≤ n ∧ n ≤ left ∧ Hid (n + xs.length + ((xs.take k).map List.length).sum ≤ left) ∧ l = .int .i64 n) ∧ Below w.heap.size w wr) (fun _ i _ => xs.length - (intOf i).toNat)
   case atStart => exact ⟨0, Nat.zero_le _, rfl, ⟨left - xs.length, by omega, by omega, by show _ ≤ _; simp, rfl⟩, Below.refl _ _⟩
   case round =>
    obtain ⟨k, hk, rfl, ⟨n, hn0, hn1, hn, rfl⟩, hb⟩ := hrel
    have hbs := hb.size
    by_cases hlt : k < xs.length
    · obtain ⟨b, off, v1, F1, rfl, hbb, _, R1, _, hc0⟩ := hr k hlt
      rw [← hb.cell (p := ⟨b, _, none⟩) hbb] at hc0
      have Q1 := Lib.hid (R1.below hb)
      have H := Lib.hid (szStrokes_take xs k hlt)
      clear hr R1
      go_wp2_with (go_at_call 207; refine (szStroke_c _ Q1.out n ⟨hn0, by omega⟩).mono ?_; rintro e w1 ⟨⟨r, rfl, hr1, hr2⟩, hb1⟩)
      · go_ret
        exact ⟨⟨-1, rfl, by omega, by omega⟩, hb.trans (hb1.mono hbs)⟩
      · go_roundw
        case rel => exact ⟨k + 1, by omega, by go_num, ⟨r, by omega, by omega, by show _ ≤ _; have h1 := hn.out; have := hr2 (by omega); rw [H.out]; omega, rfl⟩, hb.trans (hb1.mono hbs)⟩
        case measure => simp [intOf]; omega
    · obtain rfl : k = xs.length := by omega
      clear hr
      go_wp2_with fail
      go_ret
      refine ⟨⟨n, rfl, by omega, fun _ => ?_⟩, hb⟩
      have h1 := hn.out
      rw [List.take_length] at h1
      unfold szStrokes
      omega
end Go.Proofs.YtkfadfddhbpngaaGreat
