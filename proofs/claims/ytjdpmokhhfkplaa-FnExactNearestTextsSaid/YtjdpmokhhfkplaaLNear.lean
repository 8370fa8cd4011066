/- The walk of the law FnExactNearestTexts. Conditions: none. -/
import Derived.Test.YtjdpmokhhfkplaaEvNear2
namespace Go.Proofs.Ytjdpmokhhfkplaa
open Go Go.RowKit

theorem szStrs_each {xs : List ByteArray} {n : Nat} (h : szStrs xs ≤ n) : xs.length ≤ n ∧ ∀ s ∈ xs, s.size ≤ n := by
  unfold szStrs at h
  refine ⟨by omega, ?_⟩
  have : ∀ (l : List ByteArray), ∀ s ∈ l, s.size ≤ (l.map ByteArray.size).sum := by
    intro l
    induction l with
    | nil => intro s hs; cases hs
    | cons a r ih =>
      intro s hs
      simp only [List.map_cons, List.sum_cons]
      rcases List.mem_cons.1 hs with rfl | hs
      · omega
      · have := ih s hs; omega
  intro s hs
  have := this xs s hs
  omega

set_option maxHeartbeats 1000000 in
theorem law_NearestTexts {e : TypeId} {text : ByteArray} {xs : List ByteArray} {v : Value} {F : List Nat} (w : World) (h : (strs e).rep false w xs [v] F) (ht0 : text.size ≤ maxLen) :
    Calls Try.prog 12 #[v, .string text] w fun e w' => e = .returned (.bool true) ∧ Below w.heap.size w w' := by
  unfold maxLen at ht0
  by_cases hA : (1048576 : Int) < text.size
  · go_enter Try.func12, Try.ntmps12
    go_wp2_with fail
    go_ret
    exact ⟨rfl, Below.refl _ _⟩
  · have ht : text.size ≤ 1048576 := by omega
    go_enter Try.func12, Try.ntmps12
    go_wp2_with fail
    refine (szStringS_c _ h 1048576 (by omega)).mono ?_
    rintro e w1 ⟨r, rfl, hr1, hr, rfl⟩
    by_cases h0 : r < 0
    · go_wp2_with fail
      go_ret
      exact ⟨rfl, Below.refl _ _⟩
    · obtain ⟨hxl, hx⟩ := szStrs_each (n := 1048576) (xs := xs) (by have := hr (by omega); omega)
      clear hr
      have S := fun (w : World) (v : Value) (F : List Nat) (h : (strs 9).rep true w xs [v] F) => spec_NearestTexts_c text w h hxl hx ht
      have I := fun (w : World) (v : Value) (F : List Nat) (h : (strs 9).rep true w xs [v] F) => impl_NearestTexts_c text w h hxl hx ht
      have hl := nearF_ok hx ht
      generalize nearF xs text = fs at S I hl
      generalize nearL xs text = n at S I
      generalize nearC xs text = c at S I
      have hq1 : (n != n) = false := by simp
      have hq2 : (c != c) = false := by simp
      have HL := Lib.hid hl
      have HX := Lib.hid hxl
      have HS := Lib.hid S
      have HI := Lib.hid I
      clear S I hl hx
      go_wp2_with fail
      refine (toStringS_c _ h hxl).mono ?_
      rintro e w1 ⟨u1, G1, rfl, r1, f1, b1⟩
      go_wp2_with fail
      refine (HS.out _ _ _ r1).mono ?_
      rintro e w2 ⟨u2, G2, rfl, r2, f2, b2⟩
      have c2 := bt b1 b2
      have h2 := h.below c2
      go_wp2_with fail
      refine (toStringS_c _ h2 hxl).mono ?_
      rintro e w3 ⟨u3, G3, rfl, r3, f3, b3⟩
      have c3 := bt c2 b3
      have s3 := r2.below b3
      go_wp2_with fail
      refine (HI.out _ _ _ r3).mono ?_
      rintro e w4 ⟨u4, G4, rfl, r4, f4, b4⟩
      have c4 := bt c3 b4
      have s4 := s3.below b4
      go_wp2_with fail
      refine (eqInt64S_c _ r4 s4 (by have := HL.out; omega) (by have := HL.out; omega)).mono ?_
      rintro e w5 ⟨rfl, b5⟩
      have c5 := bt c4 b5
      have g5 := r4.below b5
      have s5 := s4.below b5
      have x5 := (r3.below b4).below b5
      have h5 := h.below c5
      go_wp2_with fail
      refine (toStringS_c _ h5 hxl).mono ?_
      rintro e w6 ⟨u6, G6, rfl, r6, f6, b6⟩
      have c6 := bt c5 b6
      have g6 := g5.below b6
      have s6 := s5.below b6
      have x6 := x5.below b6
      go_wp2_with fail
      refine (eqStringS_c _ x6 r6 hxl hxl).mono ?_
      rintro e w7 ⟨rfl, b7⟩
      have c7 := bt c6 b7
      have g7 := g6.below b7
      have s7 := s6.below b7
      have x7 := x6.below b7
      go_wp2_with fail
      refine (markStringS_c _ x7 hxl 1 (by omega) (by omega)).mono ?_
      rintro e w8 ⟨rfl, r8, o8⟩
      have c8 := c7.trans (o8.below c7.size (fun x hx => Nat.le_trans c2.size (f3.2 x hx)))
      have g8 := g7.only o8 (fun x h1 h2 => by have := r3.blocks x h2; have := f4.2 x h1; omega)
      have s8 := s7.only o8 (fun x h1 h2 => by have := r2.blocks x h1; have := f3.2 x h2; omega)
      have hz : (((1 + xs.length : Nat) : Int) < 0) = False := by simp only [eq_iff_iff, iff_false]; omega
      go_wp2_with fail
      refine (eqInt64S_c _ g8 s8 (by have := HL.out; omega) (by have := HL.out; omega)).mono ?_
      rintro e w9 ⟨rfl, b9⟩
      have c9 := bt c8 b9
      have g9 := g8.below b9
      have s9 := s8.below b9
      go_wp2_with fail
      refine (markInt64S_c _ g9 (by have := HL.out; omega) 1 (by omega) (by omega)).mono ?_
      rintro e w10 ⟨rfl, r10, o10⟩
      have c10 := c9.trans (o10.below c9.size (fun x hx => Nat.le_trans c3.size (f4.2 x hx)))
      have s10 := s9.only o10 (fun x h1 h2 => by have := s3.blocks x h1; have := f4.2 x h2; omega)
      have hz0 : (((1 : Nat) : Int) + (fs.length : Int) < 0) = False := by simp only [eq_iff_iff, iff_false]; omega
      have hz1 : ((((1 : Nat) : Int) + (fs.length : Int)) != ((1 : Nat) : Int) + (fs.length : Int)) = false := by simp
      go_wp2_with fail
      refine (heldInt64S_c _ 1 r10 (by have := HL.out; omega) (by omega) (by omega)).mono ?_
      rintro e w11 ⟨rfl, b11⟩
      have c11 := bt c10 b11
      have g11 := r10.below b11
      have s11 := s10.below b11
      have h11 := h.below c11
      go_wp2_with fail
      refine (toStringS_c _ h11 hxl).mono ?_
      rintro e w12 ⟨u12, G12, rfl, r12, f12, b12⟩
      have c12 := bt c11 b12
      go_wp2_with fail
      refine (HI.out _ _ _ r12).mono ?_
      rintro e w13 ⟨u13, G13, rfl, r13, f13, b13⟩
      have c13 := bt c12 b13
      go_wp2_with fail
      refine (eqInt64S_c _ r13 ((s11.below b12).below b13) (by have := HL.out; omega) (by have := HL.out; omega)).mono ?_
      rintro e w14 ⟨rfl, b14⟩
      go_wp2_with fail
      refine (heldInt64S_c _ 1 (((g11.below b12).below b13).below b14) (by have := HL.out; omega) (by omega) (by omega)).mono ?_
      rintro e w15 ⟨rfl, b15⟩
      go_wp2_with fail
      go_ret
      exact ⟨rfl, bt (bt c13 b14) b15⟩
end Go.Proofs.Ytjdpmokhhfkplaa
