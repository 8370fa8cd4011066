/- The alignments and the walk of the law FnExactAlignment. Conditions: none. -/
import Derived.Test.YtelkggafmnckoaaEvAlign3
namespace Go.Proofs.Ytelkggafmnckoaa
open Go Go.RowKit

def alOf (a b : ByteArray) : List AStep := if shortB a && shortB b then align a b else []
def alCode (a b : ByteArray) : Int := if shortB a && shortB b then 0 else 5
theorem alignFrom_len (a b : ByteArray) : ∀ f i j, (alignFrom a b f i j).length ≤ f
  | 0, _, _ => by simp [alignFrom]
  | f + 1, i, j => by
    unfold alignFrom
    split
    · simp only [List.length_cons]; have := alignFrom_len a b f (i + passI (opAt a b i j)) (j + passJ (opAt a b i j)); omega
    · simp
theorem alOf_len (a b : ByteArray) : (alOf a b).length ≤ 80 := by
  unfold alOf
  by_cases h : (shortB a && shortB b) = true
  · rw [if_pos h]
    simp only [shortB, Bool.and_eq_true, decide_eq_true_eq] at h
    have := alignFrom_len a b (a.size + b.size) 0 0
    unfold align; omega
  · rw [if_neg h]; simp
/-- Steps and a code, in memory of their own. -/
def GivesAl (e : TypeId) (xs : List AStep) (c : Int) (w : World) (en : Ending) (w' : World) : Prop :=
  ∃ u F, en = .returned (.tuple #[u, .int .i64 c]) ∧ (asteps e).rep true w' xs [u] F ∧ Fresh w.heap.size F ∧ Below w.heap.size w w'

set_option maxHeartbeats 400000 in
theorem impl_Alignment_c (a b : ByteArray) (w : World) (ha : a.size ≤ 1048576) (hb : b.size ≤ 1048576) :
    Calls Try.prog 10 #[.string a, .string b] w (GivesAl 67 (alOf a b) (alCode a b) w) := by
  have hs := impl_short_c _ (pair_rep w ha hb 9) (by simp)
  rw [show [a, b].all shortB = (shortB a && shortB b) by simp] at hs
  unfold alOf alCode
  cases hsh : (shortB a && shortB b)
  · rw [hsh] at hs
    have H := Lib.hid hs
    clear hs hsh
    go_enter Try.func10, Try.ntmps10
    go_wp2_with fail
    refine H.out.mono ?_
    rintro e w1 ⟨rfl, hb1⟩
    go_wp2_with fail
    go_ret2
    exact ⟨_, [], rfl, slice_nil _ _ _ _, ⟨by simp, by simp⟩, (((Below.refl _ _).alloc (Nat.le_refl _) _).trans (hb1.mono (by simp)))⟩
  · rw [hsh] at hs
    have H := Lib.hid hs
    clear hs hsh
    go_enter Try.func10, Try.ntmps10
    go_wp2_with fail
    refine H.out.mono ?_
    rintro e w1 ⟨rfl, hb1⟩
    have hc1 : Below w.heap.size w w1 := ((Below.refl _ _).alloc (Nat.le_refl _) _).trans (hb1.mono (by simp))
    clear H hb1
    go_wp2_with fail
    refine (impl_alignment_c a b _ ha hb).mono ?_
    rintro e w2 ⟨u, F, rfl, r2, f2, b2⟩
    go_wp2_with fail
    go_ret2
    exact ⟨u, F, rfl, r2, f2.mono hc1.size, bt hc1 b2⟩
set_option maxHeartbeats 400000 in
theorem spec_Alignment_c (a b : ByteArray) (w : World) (ha : a.size ≤ 1048576) (hb : b.size ≤ 1048576) :
    Calls Try.prog 11 #[.string a, .string b] w (GivesAl 67 (alOf a b) (alCode a b) w) := by
  have Ca := spec_l25Text_c a
  have Cb := spec_l25Text_c b
  unfold alOf alCode
  cases hA : shortB a
  · rw [hA] at Ca
    have HC := Lib.hid Ca
    clear Ca Cb hA
    go_enter Try.func11, Try.ntmps11
    go_wp2_with (go_at_call 41; refine (HC.out _).mono ?_; rintro e w1 ⟨rfl, rfl⟩)
    go_ret2
    exact ⟨_, [], rfl, slice_nil _ _ _ _, ⟨by simp, by simp⟩, Below.refl _ _⟩
  · rw [hA] at Ca
    have HCa := Lib.hid Ca
    cases hB : shortB b
    · rw [hB] at Cb
      have HCb := Lib.hid Cb
      clear Ca Cb hA hB
      go_enter Try.func11, Try.ntmps11
      go_wp2_with fail
      refine (HCa.out _).mono ?_
      rintro e w1 ⟨rfl, rfl⟩
      go_wp2_with fail
      refine (HCb.out _).mono ?_
      rintro e w1 ⟨rfl, rfl⟩
      go_wp2_with fail
      go_ret2
      exact ⟨_, [], rfl, slice_nil _ _ _ _, ⟨by simp, by simp⟩, Below.refl _ _⟩
    · rw [hB] at Cb
      have HCb := Lib.hid Cb
      clear Ca Cb hA hB
      go_enter Try.func11, Try.ntmps11
      go_wp2_with fail
      refine (HCa.out _).mono ?_
      rintro e w1 ⟨rfl, rfl⟩
      go_wp2_with fail
      refine (HCb.out _).mono ?_
      rintro e w1 ⟨rfl, rfl⟩
      go_wp2_with fail
      refine (spec_l25Steps_c a b _ ha hb).mono ?_
      rintro e w2 ⟨u, F, rfl, r2, f2, b2⟩
      go_wp2_with fail
      go_ret2
      exact ⟨u, F, rfl, r2, f2, b2⟩

/-- Blocks made between two worlds do not meet blocks made later. -/
theorem apart_al {F G : List Nat} {B : Nat} (hF : ∀ b ∈ F, b < B) (hG : ∀ b ∈ G, B ≤ b) : ∀ x ∈ F, x ∉ G := fun x h1 h2 => by have := hF x h1; have := hG x h2; omega

end Go.Proofs.Ytelkggafmnckoaa
