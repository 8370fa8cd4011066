/- The distance of two texts, and EditDistance. Conditions: none. -/
import Derived.Test.YtelkggafmnckoaaEvTab2
namespace Go.Proofs.Ytelkggafmnckoaa
open Go Go.RowKit

/-- The distance of two texts. -/
def edist (a b : ByteArray) : Nat := D a b 0 0
theorem edist_le (a b : ByteArray) : edist a b ≤ a.size + b.size := D_le a b 0 0

theorem tab_first {w : World} {eo ei : TypeId} {a b : ByteArray} {g : Nat} {G : Nat → Nat} (h : Tab w eo ei a b g 0 G) :
    w.cell? ⟨g, 0, none⟩ = some (.slice (some ⟨G 0, 0, none⟩) (b.size + 1) (b.size + 1)) ∧ w.cell? ⟨G 0, 0, none⟩ = some (.int .i64 (edist a b : Int)) :=
  ⟨h.1.cell' (orow_get (Nat.zero_le _) (Nat.le_refl 0)), (h.2 0 (Nat.le_refl 0) (Nat.zero_le _)).1.cell' (ints_get (f := fun y => (D a b 0 y : Int)) (by omega))⟩

set_option maxHeartbeats 400000 in
theorem impl_distance_c (a b : ByteArray) (w : World) (ha : a.size ≤ 1048576) (hb : b.size ≤ 1048576) :
    Calls Try.prog 40 #[.string a, .string b] w fun e w' => e = .returned (.int .i64 (edist a b : Int)) ∧ Below w.heap.size w w' := by
  go_enter Try.func40, Try.ntmps40
  go_wp2_with fail
  refine (impl_distances_c a b _ ha hb).mono ?_
  rintro e w1 ⟨g, G, rfl, ht, hbel⟩
  obtain ⟨h1, h2⟩ := tab_first ht
  have z1 : (0 : Int) < (a.size : Int) + 1 := by omega
  have z2 : (0 : Int) < (b.size : Int) + 1 := by omega
  go_wp2_with fail
  go_ret
  exact ⟨rfl, hbel⟩
set_option maxHeartbeats 400000 in
theorem spec_l25Distance_c (a b : ByteArray) (w : World) (ha : a.size ≤ 1048576) (hb : b.size ≤ 1048576) :
    Calls Try.prog 42 #[.string a, .string b] w fun e w' => e = .returned (.int .i64 (edist a b : Int)) ∧ Below w.heap.size w w' := by
  go_enter Try.func42, Try.ntmps42
  go_wp2_with fail
  refine (spec_l25Table_c a b _ ha hb).mono ?_
  rintro e w1 ⟨g, G, rfl, ht, hbel⟩
  obtain ⟨h1, h2⟩ := tab_first ht
  have z1 : (0 : Int) < (a.size : Int) + 1 := by omega
  have z2 : (0 : Int) < (b.size : Int) + 1 := by omega
  go_wp2_with fail
  go_ret
  exact ⟨rfl, hbel⟩

/-- Two texts in a slice that a call makes. -/
theorem pair_rep (w : World) {a b : ByteArray} (ha : a.size ≤ 1048576) (hb : b.size ≤ 1048576) (e : TypeId) :
    (strs e).rep true (w.alloc (.cells #[.string a, .string b] e)) [a, b] [.slice (some ⟨w.heap.size, 0, none⟩) 2 2] [w.heap.size] :=
  slice_of_row (xs := [a, b]) (Row.new w _ _) (repL_strs _ (by intro s hs; simp at hs; unfold maxLen; rcases hs with rfl | rfl <;> omega)) (by simp [maxLen])

set_option maxRecDepth 100000 in
set_option maxHeartbeats 400000 in
theorem impl_EditDistance_c (a b : ByteArray) (w : World) (ha : a.size ≤ 1048576) (hb : b.size ≤ 1048576) :
    Calls Try.prog 8 #[.string a, .string b] w fun e w' => (if shortB a && shortB b then e = .returned (.tuple #[.int .i64 (edist a b : Int), .int .i64 0]) else e = .returned (.tuple #[.int .i64 0, .int .i64 5])) ∧ Below w.heap.size w w' := by
  have hs := impl_short_c _ (pair_rep w ha hb 9) (by simp)
  rw [show [a, b].all shortB = (shortB a && shortB b) by simp] at hs
  cases hsh : (shortB a && shortB b)
  · rw [hsh] at hs
    have H := Lib.hid hs
    clear hs hsh
    go_enter Try.func8, Try.ntmps8
    go_wp2_with fail
    refine H.out.mono ?_
    rintro e w1 ⟨rfl, hb1⟩
    go_wp2_with fail
    go_ret2
    exact ⟨rfl, (((Below.refl _ _).alloc (Nat.le_refl _) _).trans (hb1.mono (by simp)))⟩
  · rw [hsh] at hs
    have H := Lib.hid hs
    clear hs hsh
    go_enter Try.func8, Try.ntmps8
    go_wp2_with fail
    refine H.out.mono ?_
    rintro e w1 ⟨rfl, hb1⟩
    have hc1 : Below w.heap.size w w1 := ((Below.refl _ _).alloc (Nat.le_refl _) _).trans (hb1.mono (by simp))
    clear H hb1
    go_wp2_with fail
    refine (impl_distance_c a b _ ha hb).mono ?_
    rintro e w2 ⟨rfl, hb2⟩
    go_wp2_with fail
    go_ret2
    exact ⟨rfl, bt hc1 hb2⟩
set_option maxRecDepth 100000 in
set_option maxHeartbeats 400000 in
theorem spec_EditDistance_c (a b : ByteArray) (w : World) (ha : a.size ≤ 1048576) (hb : b.size ≤ 1048576) :
    Calls Try.prog 9 #[.string a, .string b] w fun e w' => (if shortB a && shortB b then e = .returned (.tuple #[.int .i64 (edist a b : Int), .int .i64 0]) else e = .returned (.tuple #[.int .i64 0, .int .i64 5])) ∧ Below w.heap.size w w' := by
  have Ca := spec_l25Text_c a
  have Cb := spec_l25Text_c b
  cases hA : shortB a
  · rw [hA] at Ca
    have HC := Lib.hid Ca
    clear Ca Cb hA
    go_enter Try.func9, Try.ntmps9
    go_wp2_with (go_at_call 41; refine (HC.out _).mono ?_; rintro e w1 ⟨rfl, rfl⟩)
    go_ret2
    exact ⟨rfl, Below.refl _ _⟩
  · rw [hA] at Ca
    have HCa := Lib.hid Ca
    cases hB : shortB b
    all_goals
      rw [hB] at Cb
      have HCb := Lib.hid Cb
      clear Ca Cb hA hB
      go_enter Try.func9, Try.ntmps9
      go_wp2_with fail
      refine (HCa.out _).mono ?_
      rintro e w1 ⟨rfl, rfl⟩
      go_wp2_with fail
      refine (HCb.out _).mono ?_
      rintro e w1 ⟨rfl, rfl⟩
      go_wp2_with fail
    · go_ret2
      exact ⟨rfl, Below.refl _ _⟩
    · refine (spec_l25Distance_c a b _ ha hb).mono ?_
      rintro e w2 ⟨rfl, hb2⟩
      go_wp2_with fail
      go_ret2
      exact ⟨rfl, hb2⟩
end Go.Proofs.Ytelkggafmnckoaa
