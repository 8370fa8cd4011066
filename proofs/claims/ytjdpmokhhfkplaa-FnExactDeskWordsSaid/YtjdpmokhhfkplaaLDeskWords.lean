/- The walk of the law FnExactDeskWords. Conditions: none. -/
import Derived.Test.YtjdpmokhhfkplaaStrS
namespace Go.Proofs.Ytjdpmokhhfkplaa
open Go Go.RowKit

/-- The words with which commands begin. -/
def deskWords : List ByteArray := [⟨#[98, 101, 97, 109]⟩, ⟨#[98, 105, 103, 114, 97, 109]⟩, ⟨#[98, 114, 101, 97, 107]⟩, ⟨#[100, 101, 108, 101, 116, 101]⟩, ⟨#[100, 111, 119, 110]⟩, ⟨#[103, 117, 101, 115, 115]⟩, ⟨#[105, 110, 107]⟩, ⟨#[106, 111, 105, 110]⟩, ⟨#[108, 97, 116, 116, 105, 99, 101]⟩, ⟨#[108, 101, 97, 114, 110]⟩, ⟨#[108, 101, 120]⟩, ⟨#[109, 111, 118, 101]⟩, ⟨#[112, 97, 99, 107]⟩, ⟨#[112, 97, 103, 101]⟩, ⟨#[112, 97, 117, 115, 101]⟩, ⟨#[112, 117, 116]⟩, ⟨#[114, 101, 97, 100]⟩, ⟨#[114, 101, 100, 111]⟩, ⟨#[115, 101, 116, 116, 105, 110, 103]⟩, ⟨#[116, 114, 97, 105, 110]⟩, ⟨#[117, 110, 100, 111]⟩, ⟨#[117, 112]⟩, ⟨#[119, 111, 114, 100, 115]⟩, ⟨#[119, 114, 105, 116, 101]⟩]
theorem deskWords_ok : ∀ s ∈ deskWords, s.size ≤ maxLen := by
  intro s hs
  have : ∀ s ∈ deskWords, s.size ≤ 10 := by decide
  have := this s hs; unfold maxLen; omega

set_option maxRecDepth 100000 in
set_option maxHeartbeats 400000 in
theorem impl_DeskWords_c (w : World) :
    Calls Try.prog 16 #[] w fun e w' => ∃ u G, e = .returned u ∧ (strs 9).rep true w' deskWords [u] G ∧ Fresh w.heap.size G ∧ Below w.heap.size w w' := by
  go_enter Try.func16, Try.ntmps16
  go_wp2_with fail
  go_ret
  refine ⟨_, [w.heap.size], rfl, slice_of_row (xs := deskWords) (Row.new w _ _) (repL_strs _ deskWords_ok) (by decide), ⟨by simp, by simp⟩, (Below.refl _ _).alloc (Nat.le_refl _) _⟩
set_option maxRecDepth 100000 in
set_option maxHeartbeats 400000 in
theorem spec_l28Words_c (w : World) :
    Calls Try.prog 59 #[] w fun e w' => ∃ u G, e = .returned u ∧ (strs 9).rep true w' deskWords [u] G ∧ Fresh w.heap.size G ∧ Below w.heap.size w w' := by
  go_enter Try.func59, Try.ntmps59
  go_wp2_with fail
  go_ret
  refine ⟨_, [w.heap.size], rfl, slice_of_row (xs := deskWords) (Row.new w _ _) (repL_strs _ deskWords_ok) (by decide), ⟨by simp, by simp⟩, (Below.refl _ _).alloc (Nat.le_refl _) _⟩
set_option maxHeartbeats 400000 in
theorem spec_DeskWords_c (w : World) :
    Calls Try.prog 15 #[] w fun e w' => ∃ u G, e = .returned u ∧ (strs 9).rep true w' deskWords [u] G ∧ Fresh w.heap.size G ∧ Below w.heap.size w w' := by
  go_enter Try.func15, Try.ntmps15
  go_wp2_with fail
  refine (spec_l28Words_c _).mono ?_
  rintro e w1 ⟨u, G, rfl, h1, h2, h3⟩
  go_wp2_with fail
  go_ret
  exact ⟨u, G, rfl, h1, h2, h3⟩

/-- Blocks made between two worlds do not meet blocks made later. -/
theorem apart_of {F G : List Nat} {B : Nat} (hF : ∀ b ∈ F, b < B) (hG : ∀ b ∈ G, B ≤ b) : ∀ x ∈ F, x ∉ G := fun x h1 h2 => by have := hF x h1; have := hG x h2; omega

set_option maxHeartbeats 400000 in
theorem law_DeskWords (w : World) : Calls Try.prog 3 #[] w fun e w' => e = .returned (.bool true) ∧ Below w.heap.size w w' := by
  have hl : deskWords.length = 24 := rfl
  have HL := Lib.hid hl
  clear hl
  go_enter Try.func3, Try.ntmps3
  go_wp2_with fail
  refine (spec_DeskWords_c _).mono ?_
  rintro e w1 ⟨u1, G1, rfl, r1, f1, b1⟩
  go_wp2_with fail
  refine (impl_DeskWords_c _).mono ?_
  rintro e w2 ⟨u2, G2, rfl, r2, f2, b2⟩
  have r1' := r1.below b2
  go_wp2_with fail
  refine (eqStringS_c _ r2 r1' (by rw [HL.out]; omega) (by rw [HL.out]; omega)).mono ?_
  rintro e w3 ⟨rfl, b3⟩
  have r2' := r2.below b3
  go_wp2_with fail
  refine (markStringS_c _ r2' (by rw [HL.out]; omega) 1 (by omega) (by omega)).mono ?_
  rintro e w4 ⟨rfl, r4, o4⟩
  rw [HL.out] at r4 ⊢
  have r1'' := (r1'.below b3).only o4 (apart_of r1.blocks f2.2)
  go_wp2_with fail
  refine (heldStringS_c _ 1 r4 (by omega) (by omega) (by omega)).mono ?_
  rintro e w5 ⟨rfl, b5⟩
  go_wp2_with fail
  refine (impl_DeskWords_c _).mono ?_
  rintro e w6 ⟨u6, G6, rfl, r6, f6, b6⟩
  go_wp2_with fail
  refine (eqStringS_c _ r6 ((r1''.below b5).below b6) (by rw [HL.out]; omega) (by rw [HL.out]; omega)).mono ?_
  rintro e w7 ⟨rfl, b7⟩
  go_wp2_with fail
  refine (heldStringS_c _ 1 (((r4.below b5).below b6).below b7) (by omega) (by omega) (by omega)).mono ?_
  rintro e w8 ⟨rfl, b8⟩
  go_wp2_with fail
  go_ret
  have c3 := bt (bt b1 b2) b3
  have c4 := c3.trans (o4.below c3.size (fun x hx => Nat.le_trans b1.size (f2.2 x hx)))
  exact ⟨rfl, bt (bt (bt (bt c4 b5) b6) b7) b8⟩
end Go.Proofs.Ytjdpmokhhfkplaa
