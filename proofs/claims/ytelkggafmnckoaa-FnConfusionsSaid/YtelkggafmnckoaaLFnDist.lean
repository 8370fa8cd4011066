/- The walk of the law FnDistances. Conditions: none. -/
import Derived.Test.YtelkggafmnckoaaTwo2
import Derived.Test.YtelkggafmnckoaaEdLaw2
import Derived.Test.YtelkggafmnckoaaF6s
import Derived.Test.YtelkggafmnckoaaEvLcs
import Derived.Test.YtelkggafmnckoaaEvStep
import Derived.Test.YtelkggafmnckoaaEvAl2
namespace Go.Proofs.Ytelkggafmnckoaa
open Go Go.RowKit

def edD (a b : ByteArray) : Int := if shortB a && shortB b then (edist a b : Int) else 0
def edC (a b : ByteArray) : Int := if shortB a && shortB b then 0 else 5
def lcD (a b : ByteArray) : Int := if shortB a && shortB b then (lcs a b a.size b.size : Int) else 0
theorem impl_Ed_c (a b : ByteArray) (w : World) (ha : a.size ≤ 1048576) (hb : b.size ≤ 1048576) :
    Calls Try.prog 8 #[.string a, .string b] w fun e w' => e = .returned (.tuple #[.int .i64 (edD a b), .int .i64 (edC a b)]) ∧ Below w.heap.size w w' := by
  refine (impl_EditDistance_c a b w ha hb).mono ?_
  rintro e w' ⟨h, hb⟩
  unfold edD edC
  split at h <;> exact ⟨by rw [h]; simp [*], hb⟩
theorem spec_Ed_c (a b : ByteArray) (w : World) (ha : a.size ≤ 1048576) (hb : b.size ≤ 1048576) :
    Calls Try.prog 9 #[.string a, .string b] w fun e w' => e = .returned (.tuple #[.int .i64 (edD a b), .int .i64 (edC a b)]) ∧ Below w.heap.size w w' := by
  refine (spec_EditDistance_c a b w ha hb).mono ?_
  rintro e w' ⟨h, hb⟩
  unfold edD edC
  split at h <;> exact ⟨by rw [h]; simp [*], hb⟩
theorem impl_Lc_c (a b : ByteArray) (w : World) (ha : a.size ≤ 1048576) (hb : b.size ≤ 1048576) :
    Calls Try.prog 13 #[.string a, .string b] w fun e w' => e = .returned (.tuple #[.int .i64 (lcD a b), .int .i64 (edC a b)]) ∧ Below w.heap.size w w' := by
  refine (impl_CommonLength_c a b w ha hb).mono ?_
  rintro e w' ⟨h, hb⟩
  unfold lcD edC
  split at h <;> exact ⟨by rw [h]; simp [*], hb⟩
theorem spec_Lc_c (a b : ByteArray) (w : World) (ha : a.size ≤ 1048576) (hb : b.size ≤ 1048576) :
    Calls Try.prog 14 #[.string a, .string b] w fun e w' => e = .returned (.tuple #[.int .i64 (lcD a b), .int .i64 (edC a b)]) ∧ Below w.heap.size w w' := by
  refine (spec_CommonLength_c a b w ha hb).mono ?_
  rintro e w' ⟨h, hb⟩
  unfold lcD edC
  split at h <;> exact ⟨by rw [h]; simp [*], hb⟩
theorem edC_two (a b : ByteArray) : edC a b = 0 ∨ edC a b = 5 := by unfold edC; split <;> simp
theorem edC_zero {a b : ByteArray} (h : edC a b = 0) : (shortB a && shortB b) = true := by
  unfold edC at h
  split at h
  · assumption
  · cases h
theorem edC_comm (a b : ByteArray) : edC b a = edC a b := by unfold edC; rw [Bool.and_comm]
theorem edD_comm (a b : ByteArray) : edD b a = edD a b := by unfold edD; rw [Bool.and_comm, edist_comm]
theorem edD_bounds (a b : ByteArray) : 0 ≤ edD a b ∧ edD a b ≤ 80 := by
  unfold edD
  split
  · rename_i h
    simp only [shortB, Bool.and_eq_true, decide_eq_true_eq] at h
    have := edist_le a b
    omega
  · omega
theorem lcD_bounds (a b : ByteArray) : 0 ≤ lcD a b ∧ lcD a b ≤ 80 := by
  unfold lcD
  split
  · rename_i h
    simp only [shortB, Bool.and_eq_true, decide_eq_true_eq] at h
    have := lcs_le a b a.size b.size
    omega
  · omega
theorem edD_triangle {a b q : ByteArray} (h : edC a b = 0) (h1 : edC a q = 0) (h2 : edC q b = 0) : edD a b ≤ edD a q + edD q b := by
  unfold edD
  rw [if_pos (edC_zero h), if_pos (edC_zero h1), if_pos (edC_zero h2)]
  have := edist_triangle a q b
  omega
theorem ed_facts {a b : ByteArray} (h : edC a b = 0) : alCode a b = 0 ∧ isAl a b (alOf a b) 0 0 = true ∧ cost (alOf a b) = edD a b ∧ edD a b ≤ (max a.size b.size : Nat) ∧ (max a.size b.size : Nat) - lcD a b ≤ edD a b ∧ (edD a b = 0 ↔ a = b) := by
  have hs := edC_zero h
  unfold alCode alOf edD lcD
  rw [if_pos hs, if_pos hs, if_pos hs, if_pos hs]
  obtain ⟨h1, h2⟩ := align_ok a b
  have h3 := edist_max a b
  have h4 := edist_lcs a b
  have h5 := edist_zero a b
  refine ⟨rfl, h1, h2, by omega, by omega, ?_⟩
  rw [← h5]; omega
theorem alCode_ed (a b : ByteArray) : alCode a b = edC a b := rfl
set_option maxRecDepth 100000 in
set_option maxHeartbeats 4000000 in
theorem law_FnDistances {e : TypeId} {code : List UInt8} {v : Value} {F : List Nat} (w : World) (h : (byte.slice e).rep false w code [v] F) :
    Calls Try.prog 3 #[v] w fun e' w' => e' = .returned (.bool true) ∧ Below w.heap.size w w' := by
  have hv := h
  obtain ⟨A, c, rfl⟩ := slice_len h
  have cb := f6big_c (w := w) h
  by_cases hbig : 4096 < code.length
  · rw [decide_eq_true hbig] at cb
    have CB := Lib.hid cb
    clear cb
    go_enter Try.func3, Try.ntmps3
    go_wp2_with fail
    refine CB.out.mono ?_
    rintro e w1 ⟨rfl, rfl⟩
    go_wp2_with fail
    go_ret
    exact ⟨rfl, Below.refl _ _⟩
  · rw [decide_eq_false hbig] at cb
    have CB := Lib.hid cb
    have CD := Lib.hid (spec_DrawEditDistance_c w h (by omega))
    have CS := Lib.hid (fun w' (b : Below w.heap.size w w') => spec_DrawIsAlignment_c w' (h.below b) (by omega))
    clear cb h hv hbig
    go_enter Try.func3, Try.ntmps3
    go_wp2_with fail
    refine CB.out.mono ?_
    rintro e w1 ⟨rfl, rfl⟩
    go_wp2_with fail
    refine CD.out.mono ?_
    rintro e w1 ⟨⟨a, b, ha, hb, rfl⟩, b1⟩
    have C1 := Lib.hid (impl_Ed_c a b w1 (by omega) (by omega))
    go_wp2_with fail
    refine C1.out.mono ?_
    rintro e w2 ⟨rfl, b2⟩
    replace b2 := bt b1 b2
    have C2 := Lib.hid (spec_Ed_c a b w2 (by omega) (by omega))
    go_wp2_with fail
    refine C2.out.mono ?_
    rintro e w3 ⟨rfl, b3⟩
    replace b3 := bt b2 b3
    have C3 := Lib.hid (impl_Alignment_c a b w3 (by omega) (by omega))
    go_wp2_with fail
    refine C3.out.mono ?_
    rintro e w4 ⟨u, G, rfl, r4, -, b4⟩
    replace b4' := bt b3 b4
    have C4 := Lib.hid (spec_Alignment_c a b w4 (by omega) (by omega))
    obtain ⟨U, uc, rfl⟩ := slice_len r4
    go_wp2_with fail
    refine C4.out.mono ?_
    rintro e w5 ⟨u2, G2, rfl, r5, -, b5⟩
    replace r4 := r4.below b5
    replace b5 := bt b4' b5
    have C5 := Lib.hid (CS.out w5 b5)
    obtain ⟨U2, uc2, rfl⟩ := slice_len r5
    go_wp2_with fail
    refine C5.out.mono ?_
    rintro e w6 ⟨p, q, ys, u3, G3, hp, hq, hys, rfl, r6, b6⟩
    replace r4 := r4.below b6
    replace r5 := r5.below b6
    replace b6 := bt b5 b6
    have C6 := Lib.hid (impl_Lc_c a b w6 (by omega) (by omega))
    obtain ⟨U3, uc3, rfl⟩ := slice_len r6
    go_wp2_with fail
    refine C6.out.mono ?_
    rintro e w7 ⟨rfl, b7⟩
    replace r4 := r4.below b7
    replace r5 := r5.below b7
    replace r6 := r6.below b7
    replace b7 := bt b6 b7
    have C7 := Lib.hid (spec_Lc_c a b w7 (by omega) (by omega))
    go_wp2_with fail
    refine C7.out.mono ?_
    rintro e w8 ⟨rfl, b8⟩
    replace r4 := r4.below b8
    replace r5 := r5.below b8
    replace r6 := r6.below b8
    replace b8 := bt b7 b8
    clear b1 b2 b3 b4 b4' b5 b6 b7 C1 C2 C3 C4 C5 C6 C7 CB CD CS
    have hlen := alOf_len a b
    have hd := edD_bounds a b
    have hl := lcD_bounds a b
    have D1 := Lib.hid (f6steps_c w8 r4 r5 (by omega) (by omega))
    rw [decide_eq_true rfl] at D1
    have HR4 := Lib.hid r4
    have HR6 := Lib.hid r6
    have hc2 := edC_two a b
    have HF := Lib.hid (fun h : edC a b = 0 => ed_facts h)
    have HT := Lib.hid (fun (h : edC a b = 0) (h1 : edC a q = 0) (h2 : edC q b = 0) => edD_triangle h h1 h2)
    have HCO := Lib.hid (edC_comm a b)
    have HDO := Lib.hid (edD_comm a b)
    rw [alCode_ed] at *
    have CE := Lib.hid (fun w => impl_Ed_c b a w (by omega) (by omega))
    rw [edC_comm, edD_comm] at CE
    have CQ := Lib.hid (fun w => impl_Ed_c a q w (by omega) (by omega))
    have CR := Lib.hid (fun w => impl_Ed_c q b w (by omega) (by omega))
    have hq1 := edD_bounds a q
    have hq2 := edD_bounds q b
    have c1 := edC_two a q
    have c2 := edC_two q b
    have HA := Lib.hid (fun w => impl_IsAlignment_c (o := true) (e := 67) (xs := ys) (v := .slice U3 ys.length uc3) (F := G3) p q w)
    have HB := Lib.hid (fun w => spec_IsAlignment_c (o := true) (e := 67) (xs := ys) (v := .slice U3 ys.length uc3) (F := G3) p q w)
    have HC := Lib.hid (fun w => impl_StepCost_c (o := true) (e := 67) (xs := ys) (v := .slice U3 ys.length uc3) (F := G3) w)
    have HD := Lib.hid (fun w => spec_StepCost_c (o := true) (e := 67) (xs := ys) (v := .slice U3 ys.length uc3) (F := G3) w)
    have HI := Lib.hid (fun w => impl_IsAlignment_c (o := true) (e := 67) (xs := alOf a b) (v := .slice U (alOf a b).length uc) (F := G) a b w)
    have HJ := Lib.hid (fun w => impl_StepCost_c (o := true) (e := 67) (xs := alOf a b) (v := .slice U (alOf a b).length uc) (F := G) w)
    generalize hgi : isAl p q ys 0 0 = t at HA HB
    generalize hgc : cost ys = cs at HC HD
    generalize alOf a b = al at *
    generalize edD a b = d at *
    generalize lcD a b = n at *
    clear hgi hgc r4 r5 r6
    have z1 : (d != d) = false := by simp
    have z2 : (n != n) = false := by simp
    have z3 : (t != t) = false := by cases t <;> rfl
    have z4 : (cs != cs) = false := by simp
    have hys2 := Lib.hid hys
    have hal2 := Lib.hid hlen
    clear hys hlen
    rcases hc2 with hc | hc
    · have HFZ := Lib.hid (HF.out hc)
      rw [hc] at CE ⊢
      go_wp2_with fail
      refine D1.out.mono ?_
      rintro e w9 ⟨rfl, m9, rfl⟩
      have r6 := HR6.out.drewN m9
      have b9 := below_drewN b8 m9
      have r4 := HR4.out.drewN m9
      generalize w8.drewN m9 = wd at r6 r4 b9 ⊢
      have X1 := Lib.hid (HA.out wd r6 (by have := hys2.out; omega) (by omega) (by omega))
      go_wp2_with fail
      refine X1.out.mono ?_
      rintro e w10 ⟨rfl, b10⟩
      replace r4 := r4.below b10
      replace r6 := r6.below b10
      replace b10 := bt b9 b10
      have X2 := Lib.hid (HB.out w10 r6 (by have := hys2.out; omega) (by omega) (by omega))
      go_wp2_with fail
      refine X2.out.mono ?_
      rintro e w11 ⟨rfl, b11⟩
      replace r4 := r4.below b11
      replace r6 := r6.below b11
      replace b11 := bt b10 b11
      have X3 := Lib.hid (HC.out w11 r6 (by have := hys2.out; omega))
      go_wp2_with fail
      refine X3.out.mono ?_
      rintro e w12 ⟨rfl, b12⟩
      replace r4 := r4.below b12
      replace r6 := r6.below b12
      replace b12 := bt b11 b12
      have X4 := Lib.hid (HD.out w12 r6 (by have := hys2.out; omega))
      go_wp2_with fail
      refine X4.out.mono ?_
      rintro e w13 ⟨rfl, b13⟩
      replace r4 := r4.below b13
      replace b13 := bt b12 b13
      have HTT := Lib.hid (HT.out hc)
      clear r6 X1 X2 X3 X4 b9 b10 b11 b12 HA HB HC HD HF HT D1 HR4 HR6 HCO HDO
      have Y1 := Lib.hid (CE.out w13)
      go_wp2_with fail
      refine Y1.out.mono ?_
      rintro e w14 ⟨rfl, b14⟩
      replace r4 := r4.below b14
      replace b14 := bt b13 b14
      have Y2 := Lib.hid (CQ.out w14)
      go_wp2_with fail
      refine Y2.out.mono ?_
      rintro e w15 ⟨rfl, b15⟩
      replace r4 := r4.below b15
      replace b15 := bt b14 b15
      have Y3 := Lib.hid (CR.out w15)
      go_wp2_with fail
      refine Y3.out.mono ?_
      rintro e w16 ⟨rfl, b16⟩
      replace r4 := r4.below b16
      replace b16 := bt b15 b16
      clear Y1 Y2 Y3 CE CQ CR b14 b15 b13
      have Z1 := Lib.hid (HI.out w16 r4 (by have := hal2.out; omega) (by omega) (by omega))
      rw [HFZ.out.2.1] at Z1
      have HR := Lib.hid r4
      have last : ∀ (a1 a2 : Int), True := fun _ _ => trivial
      clear last r4
      have htri : edC a q = 0 → edC q b = 0 → ¬ (edD a q + edD q b < d) := fun h1 h2 => by have := HTT.out h1 h2; omega
      generalize edD a q = d1 at *
      generalize edD q b = d2 at *
      have sw : IntKind.i64.wrap (d1 + d2) = d1 + d2 := IntWalk.i64_in _ (by omega)
      have hSC := HFZ.out.2.2.1
      have J1 := Lib.hid (fun w17 b17 => HJ.out w17 (HR.out.below b17) (by have := hal2.out; omega))
      rw [hSC] at J1
      have m1 := HFZ.out.2.2.2.1
      have m2 := HFZ.out.2.2.2.2.1
      have m3 := HFZ.out.2.2.2.2.2
      have z5 : (d == d) = true := by simp
      have z6 : ((d == 0) == (a.toList == b.toList)) = true := by
        rw [str_eq]
        by_cases hab : a = b
        · rw [decide_eq_true hab, m3.2 hab]; rfl
        · rw [decide_eq_false hab, show (d == 0) = false by simp; exact fun h => hab (m3.1 h)]; rfl
      have HZ6 := Lib.hid z6
      clear HFZ HI HJ HR hSC hal2 m3 z6 HTT hc
      rcases c1 with c1 | c1 <;> rcases c2 with c2 | c2
      all_goals
        first | (have htr := htri c1 c2; clear htri; have htr2 : d ≤ d1 + d2 := (by omega)) | clear htri
        rw [c1, c2]
        clear c1 c2
        by_cases hmx : a.size < b.size
        all_goals
          have sm : IntKind.i64.wrap ((b.size : Int) - n) = (b.size : Int) - n := IntWalk.i64_in _ (by omega)
          have sm2 : IntKind.i64.wrap ((a.size : Int) - n) = (a.size : Int) - n := IntWalk.i64_in _ (by omega)
          go_wp2_with fail
          all_goals
            refine Z1.out.mono ?_
            rintro e w17 ⟨rfl, b17⟩
            have J2 := Lib.hid (J1.out w17 b17)
            have b17' := bt b16 b17
            go_wp2_with fail
            refine J2.out.mono ?_
            rintro e w18 ⟨rfl, b18⟩
            replace b18 := bt b17' b18
            go_wp2_with fail
            go_ret
            exact ⟨congrArg (fun b => Ending.returned (Value.bool b)) HZ6.out, b18⟩
    · rw [hc] at CE ⊢
      go_wp2_with fail
      refine D1.out.mono ?_
      rintro e w9 ⟨rfl, m9, rfl⟩
      have r6 := HR6.out.drewN m9
      have b9 := below_drewN b8 m9
      generalize w8.drewN m9 = wd at r6 b9 ⊢
      have X1 := Lib.hid (HA.out wd r6 (by have := hys2.out; omega) (by omega) (by omega))
      go_wp2_with fail
      refine X1.out.mono ?_
      rintro e w10 ⟨rfl, b10⟩
      replace r6 := r6.below b10
      replace b10 := bt b9 b10
      have X2 := Lib.hid (HB.out w10 r6 (by have := hys2.out; omega) (by omega) (by omega))
      go_wp2_with fail
      refine X2.out.mono ?_
      rintro e w11 ⟨rfl, b11⟩
      replace r6 := r6.below b11
      replace b11 := bt b10 b11
      have X3 := Lib.hid (HC.out w11 r6 (by have := hys2.out; omega))
      go_wp2_with fail
      refine X3.out.mono ?_
      rintro e w12 ⟨rfl, b12⟩
      replace r6 := r6.below b12
      replace b12 := bt b11 b12
      have X4 := Lib.hid (HD.out w12 r6 (by have := hys2.out; omega))
      go_wp2_with fail
      refine X4.out.mono ?_
      rintro e w13 ⟨rfl, b13⟩
      replace b13 := bt b12 b13
      go_wp2_with fail
      go_ret
      exact ⟨rfl, b13⟩
end Go.Proofs.Ytelkggafmnckoaa
