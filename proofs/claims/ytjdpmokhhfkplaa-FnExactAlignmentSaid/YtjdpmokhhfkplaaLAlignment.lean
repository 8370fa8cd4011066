/- The alignments and the walk of the law FnExactAlignment. Conditions: none. -/
import Derived.Test.YtjdpmokhhfkplaaEvAlign3
namespace Go.Proofs.Ytjdpmokhhfkplaa
open Go Go.RowKit

def alOf (a b : ByteArray) : List AStep := if shortB a && shortB b then align a b else []
def alCode (a b : ByteArray) : Int := if shortB a && shortB b then 0 else 5
theorem alignFrom_len (a b : ByteArray) : ∀ f i j, (alignFrom a b f i j).length ≤ f
  | 0, _, _ => by simp [alignFrom]
  | f + 1, i, j => by
    unfold alignFrom
    split
    · simp only [List.length_cons]; have := alignFrom_len a b f (i + passI (opAt a b i j)) (j + passJ (opAt a b i j)); omega
    · simp
theorem alOf_len (a b : ByteArray) : (alOf a b).length ≤ 80 := by
  unfold alOf
  by_cases h : (shortB a && shortB b) = true
  · rw [if_pos h]
    simp only [shortB, Bool.and_eq_true, decide_eq_true_eq] at h
    have := alignFrom_len a b (a.size + b.size) 0 0
    unfold align; omega
  · rw [if_neg h]; simp
/-- Steps and a code, in memory of their own. -/
def GivesAl (e : TypeId) (xs : List AStep) (c : Int) (w : World) (en : Ending) (w' : World) : Prop :=
  ∃ u F, en = .returned (.tuple #[u, .int .i64 c]) ∧ (asteps e).rep true w' xs [u] F ∧ Fresh w.heap.size F ∧ Below w.heap.size w w'

set_option maxHeartbeats 400000 in
theorem impl_Alignment_c (a b : ByteArray) (w : World) (ha : a.size ≤ 1048576) (hb : b.size ≤ 1048576) :
    Calls Try.prog 53 #[.string a, .string b] w (GivesAl 76 (alOf a b) (alCode a b) w) := by
  have hs := impl_short_c _ (pair_rep w ha hb 9) (by simp)
  rw [show [a, b].all shortB = (shortB a && shortB b) by simp] at hs
  unfold alOf alCode
  cases hsh : (shortB a && shortB b)
  · rw [hsh] at hs
    have H := Lib.hid hs
    clear hs hsh
    go_enter Try.func53, Try.ntmps53
    go_wp2_with fail
    refine H.out.mono ?_
    rintro e w1 ⟨rfl, hb1⟩
    go_wp2_with fail
    go_ret2
    exact ⟨_, [], rfl, slice_nil _ _ _ _, ⟨by simp, by simp⟩, (((Below.refl _ _).alloc (Nat.le_refl _) _).trans (hb1.mono (by simp)))⟩
  · rw [hsh] at hs
    have H := Lib.hid hs
    clear hs hsh
    go_enter Try.func53, Try.ntmps53
    go_wp2_with fail
    refine H.out.mono ?_
    rintro e w1 ⟨rfl, hb1⟩
    have hc1 : Below w.heap.size w w1 := ((Below.refl _ _).alloc (Nat.le_refl _) _).trans (hb1.mono (by simp))
    clear H hb1
    go_wp2_with fail
    refine (impl_alignment_c a b _ ha hb).mono ?_
    rintro e w2 ⟨u, F, rfl, r2, f2, b2⟩
    go_wp2_with fail
    go_ret2
    exact ⟨u, F, rfl, r2, f2.mono hc1.size, bt hc1 b2⟩
set_option maxHeartbeats 400000 in
theorem spec_Alignment_c (a b : ByteArray) (w : World) (ha : a.size ≤ 1048576) (hb : b.size ≤ 1048576) :
    Calls Try.prog 52 #[.string a, .string b] w (GivesAl 76 (alOf a b) (alCode a b) w) := by
  have Ca := spec_l25Text_c a
  have Cb := spec_l25Text_c b
  unfold alOf alCode
  cases hA : shortB a
  · rw [hA] at Ca
    have HC := Lib.hid Ca
    clear Ca Cb hA
    go_enter Try.func52, Try.ntmps52
    go_wp2_with (go_at_call 61; refine (HC.out _).mono ?_; rintro e w1 ⟨rfl, rfl⟩)
    go_ret2
    exact ⟨_, [], rfl, slice_nil _ _ _ _, ⟨by simp, by simp⟩, Below.refl _ _⟩
  · rw [hA] at Ca
    have HCa := Lib.hid Ca
    cases hB : shortB b
    · rw [hB] at Cb
      have HCb := Lib.hid Cb
      clear Ca Cb hA hB
      go_enter Try.func52, Try.ntmps52
      go_wp2_with fail
      refine (HCa.out _).mono ?_
      rintro e w1 ⟨rfl, rfl⟩
      go_wp2_with fail
      refine (HCb.out _).mono ?_
      rintro e w1 ⟨rfl, rfl⟩
      go_wp2_with fail
      go_ret2
      exact ⟨_, [], rfl, slice_nil _ _ _ _, ⟨by simp, by simp⟩, Below.refl _ _⟩
    · rw [hB] at Cb
      have HCb := Lib.hid Cb
      clear Ca Cb hA hB
      go_enter Try.func52, Try.ntmps52
      go_wp2_with fail
      refine (HCa.out _).mono ?_
      rintro e w1 ⟨rfl, rfl⟩
      go_wp2_with fail
      refine (HCb.out _).mono ?_
      rintro e w1 ⟨rfl, rfl⟩
      go_wp2_with fail
      refine (spec_l25Steps_c a b _ ha hb).mono ?_
      rintro e w2 ⟨u, F, rfl, r2, f2, b2⟩
      go_wp2_with fail
      go_ret2
      exact ⟨u, F, rfl, r2, f2, b2⟩

/-- Blocks made between two worlds do not meet blocks made later. -/
theorem apart_al {F G : List Nat} {B : Nat} (hF : ∀ b ∈ F, b < B) (hG : ∀ b ∈ G, B ≤ b) : ∀ x ∈ F, x ∉ G := fun x h1 h2 => by have := hF x h1; have := hG x h2; omega

set_option maxHeartbeats 400000 in
theorem law_Alignment {a b : ByteArray} (w : World) (ha0 : a.size ≤ maxLen) (hb0 : b.size ≤ maxLen) :
    Calls Try.prog 13 #[.string a, .string b] w fun e w' => e = .returned (.bool true) ∧ Below w.heap.size w w' := by
  unfold maxLen at ha0 hb0
  by_cases hA : (1048576 : Int) < a.size
  · go_enter Try.func13, Try.ntmps13
    go_wp2_with fail
    go_ret
    exact ⟨rfl, Below.refl _ _⟩
  · have ha : a.size ≤ 1048576 := by omega
    by_cases hB : (1048576 : Int) < b.size
    · go_enter Try.func13, Try.ntmps13
      go_wp2_with fail
      go_ret
      exact ⟨rfl, Below.refl _ _⟩
    · have hb : b.size ≤ 1048576 := by omega
      have S := fun w => spec_Alignment_c a b w ha hb
      have I := fun w => impl_Alignment_c a b w ha hb
      have hl := alOf_len a b
      generalize alOf a b = xs at S I hl
      generalize alCode a b = c at S I
      have hq : (c != c) = false := by simp
      have HL := Lib.hid hl
      have HS := Lib.hid S
      have HI := Lib.hid I
      clear S I hl
      go_enter Try.func13, Try.ntmps13
      go_wp2_with fail
      refine (HS.out _).mono ?_
      rintro e w1 ⟨u1, G1, rfl, r1, f1, b1⟩
      go_wp2_with fail
      refine (HI.out _).mono ?_
      rintro e w2 ⟨u2, G2, rfl, r2, f2, b2⟩
      have r1' := r1.below b2
      go_wp2_with fail
      refine (eqAlignStepS_c _ r2 r1' (by have := HL.out; omega) (by have := HL.out; omega)).mono ?_
      rintro e w3 ⟨rfl, b3⟩
      have r2' := r2.below b3
      go_wp2_with fail
      refine (markAlignStepS_c _ r2' (by have := HL.out; omega) 1 (by omega) (by omega)).mono ?_
      rintro e w4 ⟨rfl, r4, o4⟩
      have r1'' := (r1'.below b3).only o4 (apart_al r1.blocks f2.2)
      have hz0 : (((1 : Nat) : Int) + (xs.length : Int) * 3 < 0) = False := by simp only [eq_iff_iff, iff_false]; omega
      have hz1 : ((((1 : Nat) : Int) + (xs.length : Int) * 3) != ((1 : Nat) : Int) + (xs.length : Int) * 3) = false := by simp
      go_wp2_with fail
      refine (heldAlignStepS_c _ 1 r4 (by have := HL.out; omega) (by omega) (by omega)).mono ?_
      rintro e w5 ⟨rfl, b5⟩
      go_wp2_with fail
      refine (HI.out _).mono ?_
      rintro e w6 ⟨u6, G6, rfl, r6, f6, b6⟩
      go_wp2_with fail
      refine (eqAlignStepS_c _ r6 ((r1''.below b5).below b6) (by have := HL.out; omega) (by have := HL.out; omega)).mono ?_
      rintro e w7 ⟨rfl, b7⟩
      go_wp2_with fail
      refine (heldAlignStepS_c _ 1 (((r4.below b5).below b6).below b7) (by have := HL.out; omega) (by omega) (by omega)).mono ?_
      rintro e w8 ⟨rfl, b8⟩
      go_wp2_with fail
      go_ret
      have c3 := bt (bt b1 b2) b3
      have c4 := c3.trans (o4.below c3.size (fun x hx => Nat.le_trans b1.size (f2.2 x hx)))
      exact ⟨rfl, bt (bt (bt (bt c4 b5) b6) b7) b8⟩
end Go.Proofs.Ytjdpmokhhfkplaa
