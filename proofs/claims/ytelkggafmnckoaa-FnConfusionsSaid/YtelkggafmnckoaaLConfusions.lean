/- The walk of the law FnExactConfusions. Conditions: none. -/
import Derived.Test.YtelkggafmnckoaaConfJ
import Derived.Test.YtelkggafmnckoaaConfT
import Derived.Test.YtelkggafmnckoaaLRates
namespace Go.Proofs.Ytelkggafmnckoaa
open Go Go.RowKit

theorem confsR_len (xs : List ACase) : (confsR xs).length ≤ 4000 := by
  unfold confsR
  split
  · rename_i h
    simp only [casesOk, Bool.and_eq_true, decide_eq_true_eq] at h
    have h1 := keysAll_len h.2
    have h2 := count_len (keysAll xs) []
    rw [List.length_nil] at h2
    unfold confsK
    rw [List.length_map]; omega
  · simp
set_option maxRecDepth 100000 in
set_option maxHeartbeats 4000000 in
theorem law_Confusions {e : TypeId} {xs : List ACase} {v : Value} {F : List Nat} (w : World) (h : (aCases e).rep false w xs [v] F) :
    Calls Try.prog 4 #[v] w fun e w' => e = .returned (.bool true) ∧ Below w.heap.size w w' := by
  go_enter Try.func4, Try.ntmps4
  go_wp2_with fail
  refine (szCaseS_c _ h 1048576 (by omega)).mono ?_
  rintro e w1 ⟨⟨r, rfl, hr0, hr1, hr⟩, b0⟩
  by_cases h0 : r < 0
  · go_wp2_with fail
    go_ret
    exact ⟨rfl, b0⟩
  · obtain ⟨hxl, hx⟩ := aCases_le (xs := xs) (by have := hr (by omega); omega)
    replace h := h.below b0
    clear hr
    have S := fun (w : World) (v : Value) (F : List Nat) (h : (aCases 51).rep true w xs [v] F) => spec_Confusions_c w h hxl
    have I := fun (w : World) (v : Value) (F : List Nat) (h : (aCases 51).rep true w xs [v] F) => impl_Confusions_c w h hxl hx
    have hl := confsR_len xs
    generalize confsR xs = fs at S I hl
    generalize casesCode xs = c at S I
    have hq2 : (c != c) = false := by simp
    have HL := Lib.hid hl
    have HX := Lib.hid hxl
    have HS := Lib.hid S
    have HI := Lib.hid I
    clear S I hl hx
    go_wp2_with fail
    refine (toCaseS_c _ h hxl).mono ?_
    rintro e w1' ⟨u1, G1, rfl, r1, f1, b1⟩
    have b1a := bt b0 b1
    go_wp2_with fail
    refine (HS.out _ _ _ r1).mono ?_
    rintro e w2 ⟨u2, G2, rfl, r2, f2, b2⟩
    have c2 := bt b1a b2
    have h2 := h.below (bt b1 b2)
    go_wp2_with fail
    refine (toCaseS_c _ h2 hxl).mono ?_
    rintro e w3 ⟨u3, G3, rfl, r3, f3, b3⟩
    have c3 := bt c2 b3
    have s3 := r2.below b3
    have h3 := h2.below b3
    go_wp2_with fail
    refine (HI.out _ _ _ r3).mono ?_
    rintro e w4 ⟨u4, G4, rfl, r4, f4, b4⟩
    have c4 := bt c3 b4
    have s4 := s3.below b4
    have h4 := h3.below b4
    go_wp2_with fail
    refine (eqConfusionS_c _ r4 s4 (by have := HL.out; omega) (by have := HL.out; omega)).mono ?_
    rw [decide_eq_true rfl]
    rintro e w5 ⟨rfl, b5⟩
    have c5 := bt c4 b5
    have g5 := r4.below b5
    have s5 := s4.below b5
    have x5 := (r3.below b4).below b5
    have h5 := h4.below b5
    go_wp2_with fail
    refine (toCaseS_c _ h5 hxl).mono ?_
    rintro e w6 ⟨u6, G6, rfl, r6, f6, b6⟩
    have c6 := bt c5 b6
    have g6 := g5.below b6
    have s6 := s5.below b6
    have x6 := x5.below b6
    have h6 := h5.below b6
    go_wp2_with fail
    refine (eqCaseS_c _ x6 r6 hxl hxl).mono ?_
    rw [decide_eq_true rfl]
    rintro e w7 ⟨rfl, b7⟩
    have c7 := bt c6 b7
    have g7 := g6.below b7
    have s7 := s6.below b7
    have x7 := x6.below b7
    have h7 := h6.below b7
    have hF7 := Lib.hid (fun b hb => (aCases _).lt h b hb)
    have bs17 := c7.size
    go_wp2_with fail
    refine (markCaseS_c _ x7 hxl 1 (by omega) (by omega)).mono ?_
    rintro e w8 ⟨rfl, r8, o8⟩
    have c8 := c7.trans (o8.below c7.size (fun x hx => Nat.le_trans c2.size (f3.2 x hx)))
    have g8 := g7.only o8 (fun x h1 h2 => by have := r3.blocks x h2; have := f4.2 x h1; omega)
    have s8 := s7.only o8 (fun x h1 h2 => by have := r2.blocks x h1; have := f3.2 x h2; omega)
    have h8 := h7.only o8 (fun x h1 h2 => by have := hF7.out x h1; have := f3.2 x h2; have := (bt b1 b2).size; omega)
    have hz : (((1 : Nat) : Int) + (xs.length : Int) * 2 < 0) = False := by simp only [eq_iff_iff, iff_false]; omega
    have hz' : ((1 : Int) + (xs.length : Int) * 2 < 0) = False := by simp only [eq_iff_iff, iff_false]; omega
    go_wp2_with fail
    refine (eqConfusionS_c _ g8 s8 (by have := HL.out; omega) (by have := HL.out; omega)).mono ?_
    rw [decide_eq_true rfl]
    rintro e w9 ⟨rfl, b9⟩
    have c9 := bt c8 b9
    have g9 := g8.below b9
    have s9 := s8.below b9
    have h9 := h8.below b9
    have o8s := o8.size
    have b9s := b9.size
    go_wp2_with fail
    refine (markConfusionS_c _ g9 (by have := HL.out; omega) 1 (by omega) (by omega)).mono ?_
    rintro e w10 ⟨rfl, r10, o10⟩
    have c10 := c9.trans (o10.below c9.size (fun x hx => Nat.le_trans c3.size (f4.2 x hx)))
    have s10 := s9.only o10 (fun x h1 h2 => by have := s3.blocks x h1; have := f4.2 x h2; omega)
    have h10 := h9.only o10 (fun x h1 h2 => by have := hF7.out x h1; have := f4.2 x h2; have := (bt (bt b1 b2) b3).size; omega)
    have hz0 : (((1 : Nat) : Int) + (fs.length : Int) * 3 < 0) = False := by simp only [eq_iff_iff, iff_false]; omega
    have hz0' : ((1 : Int) + (fs.length : Int) * 3 < 0) = False := by simp only [eq_iff_iff, iff_false]; omega
    have hz1 : ((((1 : Nat) : Int) + (fs.length : Int) * 3) != ((1 : Nat) : Int) + (fs.length : Int) * 3) = false := by simp
    have hz1' : (((1 : Int) + (fs.length : Int) * 3) != (1 : Int) + (fs.length : Int) * 3) = false := by simp
    go_wp2_with fail
    refine (heldConfusionS_c _ 1 r10 (by have := HL.out; omega) (by omega) (by omega)).mono ?_
    rintro e w11 ⟨rfl, b11⟩
    have c11 := bt c10 b11
    have g11 := r10.below b11
    have s11 := s10.below b11
    have h11 := h10.below b11
    go_wp2_with fail
    refine (toCaseS_c _ h11 hxl).mono ?_
    rintro e w12 ⟨u12, G12, rfl, r12, f12, b12⟩
    have c12 := bt c11 b12
    go_wp2_with fail
    refine (HI.out _ _ _ r12).mono ?_
    rintro e w13 ⟨u13, G13, rfl, r13, f13, b13⟩
    have c13 := bt c12 b13
    go_wp2_with fail
    refine (eqConfusionS_c _ r13 ((s11.below b12).below b13) (by have := HL.out; omega) (by have := HL.out; omega)).mono ?_
    rw [decide_eq_true rfl]
    rintro e w14 ⟨rfl, b14⟩
    go_wp2_with fail
    refine (heldConfusionS_c _ 1 (((g11.below b12).below b13).below b14) (by have := HL.out; omega) (by omega) (by omega)).mono ?_
    rintro e w15 ⟨rfl, b15⟩
    go_wp2_with fail
    go_ret
    exact ⟨rfl, bt (bt c13 b14) b15⟩
end Go.Proofs.Ytelkggafmnckoaa
