/- A number of a text as the reference reads it. Conditions: none. -/
import Derived.Test.YtahoopmiipmgpaaDoorEvRd4
namespace Go.Proofs.YtahoopmiipmgpaaDoor
open Go Go.RowKit

theorem numR_nil : numR [] = (0, false) := by decide
set_option maxRecDepth 100000 in
set_option maxHeartbeats 4000000 in
theorem spec_l01Number_c (s : ByteArray) (w : World) (hs : s.size ≤ 1048576) :
    Calls Tryd.prog 68 #[.string s] w fun e w' => e = .returned (.tuple #[.int .i64 (numR s.data.toList).1, .bool (numR s.data.toList).2]) ∧ Below w.heap.size w w' := by
  by_cases h0 : s.size = 0
  · have hs0 : s = ⟨#[]⟩ := ba_ext (List.eq_nil_of_length_eq_zero (by rw [ba_size]; exact h0))
    subst hs0
    go_enter Tryd.func68, Tryd.ntmps68
    go_wp2_with fail
    go_ret2
    exact ⟨rfl, Below.refl _ _⟩
  have hpos : 0 < s.size := by omega
  have gne : (s.toList = []) = False := eq_false (fun h => by
    have := str_eq_true (a := s) (b := ⟨#[]⟩) (by rw [h]; simp)
    rw [this] at h0; exact h0 rfl)
  have gne2 : (s.toList == []) = false := by rw [beq_eq_false_iff_ne]; exact of_eq_false gne
  have hhd : s.data.toList.head? = some s[0] := by rw [List.head?_eq_getElem?, byte_at hpos]
  by_cases hneg : s[0] = 45
  · have gneg : ((s[0].toNat : Int) == 45) = true := by rw [hneg]; rfl
    rw [hneg] at hhd
    replace hneg := hhd
    have htl : (s.extract 1 s.size).data.toList = numT s.data.toList := by
      rw [extract_list, numT, if_pos hneg, List.take_of_length_le (by simp [ba_size]), List.drop_one]
    have hsz : (s.extract 1 s.size).size + 1 = s.size := by rw [← ba_size, extract_list]; simp; have := ba_size s; omega
    have i0 : (1 : Int) ≤ (s.size : Int) := by omega
    clear h0 hhd
    go_enter Tryd.func68, Tryd.ntmps68
    go_upto_region 4 with fail
    generalize s.extract 1 s.size = t at htl hsz ⊢
    clear gne gne2 gneg i0
    have HTL := Lib.hid htl
    clear htl
    by_cases h1 : t.size < 1
    · have g1 : ((t.size : Int) < 1) = True := eq_true (by omega)
      have HV := Lib.hid (show numR s.data.toList = (0, false) by rw [numR, if_pos (.inl (by rw [← HTL.out, ba_size]; exact h1))])
      clear h1
      go_wp2_with fail
      go_ret2
      exact ⟨by rw [HV.out]; rfl, Below.refl _ _⟩
    have g1 : ((t.size : Int) < 1) = False := eq_false (by omega)
    by_cases h2 : 18 < t.size
    · have g2 : ((18 : Int) < t.size) = True := eq_true (by omega)
      have HV := Lib.hid (show numR s.data.toList = (0, false) by rw [numR, if_pos (.inr (by rw [← HTL.out, ba_size]; exact h2))])
      clear h1 h2
      go_wp2_with fail
      go_ret2
      exact ⟨by rw [HV.out]; rfl, Below.refl _ _⟩
    have g2 : ((18 : Int) < t.size) = False := eq_false (by omega)
    have hok : ¬ ((numT s.data.toList).length < 1 ∨ 18 < (numT s.data.toList).length) := by rw [← HTL.out, ba_size]; omega
    go_wp2_with fail
    go_loopw [5, 6] (fun nv iv wr => ∃ k : Nat, k ≤ t.size ∧ iv = .int .i64 k ∧ nv = .int .i64 (valL 0 (t.data.toList.take k)) ∧ Hid (∀ b ∈ t.data.toList.take k, 48 ≤ b.toNat ∧ b.toNat ≤ 57) ∧ Hid (valL 0 (t.data.toList.take k) < 10 ^ k) ∧ Below w.heap.size w wr) (fun _ iv _ => t.size - (intOf iv).toNat)
    case atStart => exact ⟨0, Nat.zero_le _, rfl, rfl, (by intro b hb; simp at hb), (by show valL 0 (t.data.toList.take 0) < 10 ^ 0; simp [valL]), Below.refl _ _⟩
    case round =>
      obtain ⟨k, hk, rfl, rfl, hall, hval, hb⟩ := hrel
      have hbs := hb.size
      by_cases hlt : k < t.size
      · have C := Lib.hid (fun w' => spec_l01Digit_c t[k] w')
        have hkl : k < t.data.toList.length := by rw [ba_size]; exact hlt
        have htk : t.data.toList.take (k + 1) = t.data.toList.take k ++ [t[k]] := by
          rw [List.take_succ_eq_append_getElem hkl]; rfl
        have hmem : t[k] ∈ t.data.toList := by
          have := List.getElem_mem hkl; exact this
        have i1 : (k : Int) < (t.size : Int) := by omega
        have i2 : IntKind.i64.wrap ((k : Int) + 1) = (k : Int) + 1 := IntWalk.i64_in _ (by omega)
        have i3 : (0 : Int) ≤ (k : Int) := by omega
        by_cases hd : 48 ≤ t[k].toNat ∧ t[k].toNat ≤ 57
        · have HC := Lib.hid (fun w' => (show _ from C.out w'))
          have gd : (decide (48 ≤ t[k].toNat) && decide (t[k].toNat ≤ 57)) = true := by simp [hd]
          rw [gd] at C
          have hv2 : valL 0 (t.data.toList.take (k + 1)) = 10 * valL 0 (t.data.toList.take k) + (t[k].toNat - 48) := by
            rw [htk, valL, List.foldl_append]; rfl
          have HALL : Hid (∀ b ∈ t.data.toList.take (k + 1), 48 ≤ b.toNat ∧ b.toNat ≤ 57) := by
            intro b hb
            rw [htk] at hb
            rcases List.mem_append.1 hb with h | h
            · exact hall.out b h
            · simp only [List.mem_singleton] at h; subst h; exact hd
          have hpow : valL 0 (t.data.toList.take (k + 1)) < 10 ^ (k + 1) := by
            have := hval.out
            rw [hv2, Nat.pow_succ]; omega
          have hp18 : (10 : Nat) ^ k ≤ 10 ^ 17 := Nat.pow_le_pow_right (by decide) (by omega)
          have hvb : valL 0 (t.data.toList.take k) < 10 ^ 17 := Nat.lt_of_lt_of_le hval.out hp18
          have HP := Lib.hid hpow
          have HV2 := Lib.hid hv2
          obtain ⟨c, hc⟩ : ∃ c, t[k].toNat = c + 48 := ⟨t[k].toNat - 48, by omega⟩
          rw [hc] at hv2
          have hc9 : c ≤ 9 := by omega
          have HV3 : Hid (valL 0 (t.data.toList.take (k + 1)) = 10 * valL 0 (t.data.toList.take k) + c) := by show _ = _; rw [hv2]; omega
          clear HV2 HC
          generalize hvz : valL 0 (t.data.toList.take k) = z at hvb HV3 hv2
          have j1 : IntKind.i64.wrap (10 * (z : Int)) = 10 * (z : Int) := IntWalk.i64_in _ (by omega)
          have j2 : IntKind.u8.wrap ((t[k].toNat : Int) - 48) = (c : Int) := by rw [show (t[k].toNat : Int) - 48 = (c : Int) by omega]; exact IntWalk.u8_in _ (by omega)
          have j3 : IntKind.i64.wrap (10 * (z : Int) + (c : Int)) = 10 * (z : Int) + (c : Int) := IntWalk.i64_in _ (by omega)
          have j4 : IntKind.i64.wrap (c : Int) = (c : Int) := IntWalk.i64_in _ (by omega)
          clear hpow hp18 hv2 hd htk hmem gd hc
          go_wp2_with fail
          refine (C.out _).mono ?_
          rintro en w2 ⟨rfl, rfl⟩
          go_wp2_with fail
          go_roundw
          case rel => exact ⟨k + 1, by omega, by go_num, by rw [HV3.out]; simp, HALL, HP.out, hb⟩
          case measure => simp [intOf]; omega
        · have gd : (decide (48 ≤ t[k].toNat) && decide (t[k].toNat ≤ 57)) = false := by
            rw [Bool.eq_false_iff]; simp; omega
          rw [gd] at C
          have HV := Lib.hid (show numR s.data.toList = (0, false) by rw [numR, if_neg hok, if_neg (fun h => hd (h _ (HTL.out ▸ hmem)))])
          clear hd htk hmem hkl gd
          go_wp2_with fail
          refine (C.out _).mono ?_
          rintro en w2 ⟨rfl, rfl⟩
          go_wp2_with fail
          go_ret2
          exact ⟨by rw [HV.out]; rfl, hb⟩
      · obtain rfl : k = t.size := by omega
        have htk : t.data.toList.take t.size = t.data.toList := List.take_of_length_le (by rw [ba_size]; omega)
        rw [htk] at hall hval
        have hp18 : (10 : Nat) ^ t.size ≤ 10 ^ 18 := Nat.pow_le_pow_right (by decide) (by omega)
        have hvb : valL 0 t.data.toList < 10 ^ 18 := Nat.lt_of_lt_of_le hval.out hp18
        have hR : numR s.data.toList = if Lib.itoa (numV s.data.toList) = s.data.toList then (numV s.data.toList, true) else (0, false) := by
          rw [numR, if_neg hok, if_pos (HTL.out ▸ hall.out)]
        have hV : numV s.data.toList = -(valL 0 t.data.toList : Int) := by rw [numV, if_pos hneg, ← HTL.out]
        rw [hV] at hR
        rw [htk]
        generalize valL 0 t.data.toList = z at hvb hR
        have HR := Lib.hid hR
        have CD := Lib.hid (fun w' => spec_l01DecI_c (-(z : Int)) w' (by omega) (by omega))
        obtain ⟨d, hd⟩ : ∃ d : ByteArray, d = ⟨(Lib.itoa (-(z : Int))).toArray⟩ := ⟨_, rfl⟩
        rw [← hd] at CD
        have hq : (Lib.itoa (-(z : Int)) = s.data.toList) ↔ d = s := by
          rw [hd]
          constructor
          · intro h; rw [h]
          · intro h; rw [← h]
        have gs : ((t.size : Int) < (s.size : Int)) = True := eq_true (by omega)
        have gs2 : (t.size < s.size) = True := eq_true (by omega)
        have hz0 : (0 : Int) ≤ (z : Int) := by omega
        clear hV hR hp18 hd h1 h2 hok htk hall hval
        by_cases he : d = s
        · have ge : (!d.toList == s.toList) = false := by rw [he]; simp
          have HR2 := Lib.hid (show numR s.data.toList = (-(z : Int), true) by rw [HR.out, if_pos (hq.2 he)])
          clear he hq HR
          go_wp2_with fail
          refine (CD.out _).mono ?_
          rintro en w3 ⟨rfl, b3⟩
          go_wp2_with fail
          go_ret2
          exact ⟨by rw [HR2.out]; rfl, hb.trans (b3.mono hb.size)⟩
        · have ge : (!d.toList == s.toList) = true := by rw [str_eq]; simp [he]
          have HR2 := Lib.hid (show numR s.data.toList = (0, false) by rw [HR.out, if_neg (fun h => he (hq.1 h))])
          clear he hq HR
          go_wp2_with fail
          refine (CD.out _).mono ?_
          rintro en w3 ⟨rfl, b3⟩
          go_wp2_with fail
          go_ret2
          exact ⟨by rw [HR2.out]; rfl, hb.trans (b3.mono hb.size)⟩

  · have gneg : ((s[0].toNat : Int) == 45) = false := by
      rw [beq_eq_false_iff_ne]; intro h; apply hneg; apply UInt8.toNat_inj.1; show s[0].toNat = 45; omega
    have hneg' : ¬ s.data.toList.head? = some 45 := by rw [hhd]; intro h; exact hneg (Option.some.inj h)
    replace hneg := hneg'
    have htl : s.data.toList = numT s.data.toList := by rw [numT, if_neg hneg]
    clear h0 hhd hneg'
    go_enter Tryd.func68, Tryd.ntmps68
    go_upto_region 4 with fail
    clear gne gne2 gneg
    have HTL := Lib.hid htl
    clear htl
    by_cases h1 : s.size < 1
    · have g1 : ((s.size : Int) < 1) = True := eq_true (by omega)
      have HV := Lib.hid (show numR s.data.toList = (0, false) by rw [numR, if_pos (.inl (by rw [← HTL.out, ba_size]; exact h1))])
      clear h1
      go_wp2_with fail
      go_ret2
      exact ⟨by rw [HV.out]; rfl, Below.refl _ _⟩
    have g1 : ((s.size : Int) < 1) = False := eq_false (by omega)
    by_cases h2 : 18 < s.size
    · have g2 : ((18 : Int) < s.size) = True := eq_true (by omega)
      have HV := Lib.hid (show numR s.data.toList = (0, false) by rw [numR, if_pos (.inr (by rw [← HTL.out, ba_size]; exact h2))])
      clear h1 h2
      go_wp2_with fail
      go_ret2
      exact ⟨by rw [HV.out]; rfl, Below.refl _ _⟩
    have g2 : ((18 : Int) < s.size) = False := eq_false (by omega)
    have hok : ¬ ((numT s.data.toList).length < 1 ∨ 18 < (numT s.data.toList).length) := by rw [← HTL.out, ba_size]; omega
    go_wp2_with fail
    go_loopw [5, 6] (fun nv iv wr => ∃ k : Nat, k ≤ s.size ∧ iv = .int .i64 k ∧ nv = .int .i64 (valL 0 (s.data.toList.take k)) ∧ Hid (∀ b ∈ s.data.toList.take k, 48 ≤ b.toNat ∧ b.toNat ≤ 57) ∧ Hid (valL 0 (s.data.toList.take k) < 10 ^ k) ∧ Below w.heap.size w wr) (fun _ iv _ => s.size - (intOf iv).toNat)
    case atStart => exact ⟨0, Nat.zero_le _, rfl, rfl, (by intro b hb; simp at hb), (by show valL 0 (s.data.toList.take 0) < 10 ^ 0; simp [valL]), Below.refl _ _⟩
    case round =>
      obtain ⟨k, hk, rfl, rfl, hall, hval, hb⟩ := hrel
      have hbs := hb.size
      by_cases hlt : k < s.size
      · have C := Lib.hid (fun w' => spec_l01Digit_c s[k] w')
        have hkl : k < s.data.toList.length := by rw [ba_size]; exact hlt
        have htk : s.data.toList.take (k + 1) = s.data.toList.take k ++ [s[k]] := by
          rw [List.take_succ_eq_append_getElem hkl]; rfl
        have hmem : s[k] ∈ s.data.toList := by
          have := List.getElem_mem hkl; exact this
        have i1 : (k : Int) < (s.size : Int) := by omega
        have i2 : IntKind.i64.wrap ((k : Int) + 1) = (k : Int) + 1 := IntWalk.i64_in _ (by omega)
        have i3 : (0 : Int) ≤ (k : Int) := by omega
        by_cases hd : 48 ≤ s[k].toNat ∧ s[k].toNat ≤ 57
        · have HC := Lib.hid (fun w' => (show _ from C.out w'))
          have gd : (decide (48 ≤ s[k].toNat) && decide (s[k].toNat ≤ 57)) = true := by simp [hd]
          rw [gd] at C
          have hv2 : valL 0 (s.data.toList.take (k + 1)) = 10 * valL 0 (s.data.toList.take k) + (s[k].toNat - 48) := by
            rw [htk, valL, List.foldl_append]; rfl
          have HALL : Hid (∀ b ∈ s.data.toList.take (k + 1), 48 ≤ b.toNat ∧ b.toNat ≤ 57) := by
            intro b hb
            rw [htk] at hb
            rcases List.mem_append.1 hb with h | h
            · exact hall.out b h
            · simp only [List.mem_singleton] at h; subst h; exact hd
          have hpow : valL 0 (s.data.toList.take (k + 1)) < 10 ^ (k + 1) := by
            have := hval.out
            rw [hv2, Nat.pow_succ]; omega
          have hp18 : (10 : Nat) ^ k ≤ 10 ^ 17 := Nat.pow_le_pow_right (by decide) (by omega)
          have hvb : valL 0 (s.data.toList.take k) < 10 ^ 17 := Nat.lt_of_lt_of_le hval.out hp18
          have HP := Lib.hid hpow
          have HV2 := Lib.hid hv2
          obtain ⟨c, hc⟩ : ∃ c, s[k].toNat = c + 48 := ⟨s[k].toNat - 48, by omega⟩
          rw [hc] at hv2
          have hc9 : c ≤ 9 := by omega
          have HV3 : Hid (valL 0 (s.data.toList.take (k + 1)) = 10 * valL 0 (s.data.toList.take k) + c) := by show _ = _; rw [hv2]; omega
          clear HV2 HC
          generalize hvz : valL 0 (s.data.toList.take k) = z at hvb HV3 hv2
          have j1 : IntKind.i64.wrap (10 * (z : Int)) = 10 * (z : Int) := IntWalk.i64_in _ (by omega)
          have j2 : IntKind.u8.wrap ((s[k].toNat : Int) - 48) = (c : Int) := by rw [show (s[k].toNat : Int) - 48 = (c : Int) by omega]; exact IntWalk.u8_in _ (by omega)
          have j3 : IntKind.i64.wrap (10 * (z : Int) + (c : Int)) = 10 * (z : Int) + (c : Int) := IntWalk.i64_in _ (by omega)
          have j4 : IntKind.i64.wrap (c : Int) = (c : Int) := IntWalk.i64_in _ (by omega)
          clear hpow hp18 hv2 hd htk hmem gd hc
          go_wp2_with fail
          refine (C.out _).mono ?_
          rintro en w2 ⟨rfl, rfl⟩
          go_wp2_with fail
          go_roundw
          case rel => exact ⟨k + 1, by omega, by go_num, by rw [HV3.out]; simp, HALL, HP.out, hb⟩
          case measure => simp [intOf]; omega
        · have gd : (decide (48 ≤ s[k].toNat) && decide (s[k].toNat ≤ 57)) = false := by
            rw [Bool.eq_false_iff]; simp; omega
          rw [gd] at C
          have HV := Lib.hid (show numR s.data.toList = (0, false) by rw [numR, if_neg hok, if_neg (fun h => hd (h _ (HTL.out ▸ hmem)))])
          clear hd htk hmem hkl gd
          go_wp2_with fail
          refine (C.out _).mono ?_
          rintro en w2 ⟨rfl, rfl⟩
          go_wp2_with fail
          go_ret2
          exact ⟨by rw [HV.out]; rfl, hb⟩
      · obtain rfl : k = s.size := by omega
        have htk : s.data.toList.take s.size = s.data.toList := List.take_of_length_le (by rw [ba_size]; omega)
        rw [htk] at hall hval
        have hp18 : (10 : Nat) ^ s.size ≤ 10 ^ 18 := Nat.pow_le_pow_right (by decide) (by omega)
        have hvb : valL 0 s.data.toList < 10 ^ 18 := Nat.lt_of_lt_of_le hval.out hp18
        have hR : numR s.data.toList = if Lib.itoa (numV s.data.toList) = s.data.toList then (numV s.data.toList, true) else (0, false) := by
          rw [numR, if_neg hok, if_pos (HTL.out ▸ hall.out)]
        have hV : numV s.data.toList = (valL 0 s.data.toList : Int) := by rw [numV, if_neg hneg, ← HTL.out]
        rw [hV] at hR
        rw [htk]
        generalize valL 0 s.data.toList = z at hvb hR
        have HR := Lib.hid hR
        have CD := Lib.hid (fun w' => spec_l01DecI_c ((z : Int)) w' (by omega) (by omega))
        obtain ⟨d, hd⟩ : ∃ d : ByteArray, d = ⟨(Lib.itoa ((z : Int))).toArray⟩ := ⟨_, rfl⟩
        rw [← hd] at CD
        have hq : (Lib.itoa ((z : Int)) = s.data.toList) ↔ d = s := by
          rw [hd]
          constructor
          · intro h; rw [h]
          · intro h; rw [← h]
        have gs : ((s.size : Int) < (s.size : Int)) = False := eq_false (by omega)
        have gs2 : (s.size < s.size) = False := eq_false (by omega)
        have hz0 : (0 : Int) ≤ (z : Int) := by omega
        clear hV hR hp18 hd h1 h2 hok htk hall hval
        by_cases he : d = s
        · have ge : (!d.toList == s.toList) = false := by rw [he]; simp
          have HR2 := Lib.hid (show numR s.data.toList = ((z : Int), true) by rw [HR.out, if_pos (hq.2 he)])
          clear he hq HR
          go_wp2_with fail
          refine (CD.out _).mono ?_
          rintro en w3 ⟨rfl, b3⟩
          go_wp2_with fail
          go_ret2
          exact ⟨by rw [HR2.out]; rfl, hb.trans (b3.mono hb.size)⟩
        · have ge : (!d.toList == s.toList) = true := by rw [str_eq]; simp [he]
          have HR2 := Lib.hid (show numR s.data.toList = (0, false) by rw [HR.out, if_neg (fun h => he (hq.1 h))])
          clear he hq HR
          go_wp2_with fail
          refine (CD.out _).mono ?_
          rintro en w3 ⟨rfl, b3⟩
          go_wp2_with fail
          go_ret2
          exact ⟨by rw [HR2.out]; rfl, hb.trans (b3.mono hb.size)⟩

end Go.Proofs.YtahoopmiipmgpaaDoor
