/- The reference's IsAlignment. Conditions: none. -/
import Derived.Test.YtelkggafmnckoaaEvAl
namespace Go.Proofs.Ytelkggafmnckoaa
open Go Go.RowKit

/-- lo ≤ n ≤ hi. -/
def inB (n lo hi : Int) : Bool := decide (lo ≤ n) && decide (n ≤ hi)
set_option maxHeartbeats 400000 in
theorem spec_l00In_c (n lo hi : Int) (w : World) :
    Calls Try.prog 50 #[.int .i64 n, .int .i64 lo, .int .i64 hi] w fun e w' => e = .returned (.bool (inB n lo hi)) ∧ w = w' := by
  by_cases h : lo ≤ n
  · have g : decide (lo ≤ n) = true := by simpa using h
    go_enter Try.func50, Try.ntmps50
    go_wp2_with fail
    all_goals go_ret
    all_goals exact ⟨ret_bool (by simp [inB, *]), rfl⟩
  · have g : decide (lo ≤ n) = false := by simpa using h
    go_enter Try.func50, Try.ntmps50
    go_wp2_with fail
    all_goals go_ret
    all_goals exact ⟨ret_bool (by simp [inB, *]), rfl⟩

theorem isAl_false {a b : ByteArray} {xs : List AStep} {k i j : Nat} (h : k < xs.length) (hf : ¬ (xs[k].i = i ∧ xs[k].j = j) ∨ allowsB a b i j xs[k].op = false) : isAl a b (xs.drop k) i j = false := by
  rw [isAl_at a b xs k i j h]
  rcases hf with hf | hf
  · simp [hf]
  · simp [hf]
theorem isAl_true {a b : ByteArray} {xs : List AStep} {k i j : Nat} (h : k < xs.length) (h1 : xs[k].i = i ∧ xs[k].j = j) (hf : allowsB a b i j xs[k].op = true) : isAl a b (xs.drop k) i j = isAl a b (xs.drop (k + 1)) (i + passI xs[k].op) (j + passJ xs[k].op) := by
  rw [isAl_at a b xs k i j h]
  simp [h1, hf]

theorem allows_other {a b : ByteArray} {i j : Nat} {op : Int} (h : inB op 0 3 = false) : allowsB a b i j op = false := by
  have h' : op ≠ 0 ∧ op ≠ 1 ∧ op ≠ 2 ∧ op ≠ 3 := by
    simp [inB] at h; omega
  simp [allowsB, h'.1, h'.2.1, h'.2.2.1, h'.2.2.2]
theorem allows_zero {a b : ByteArray} {i j : Nat} (h1 : i < a.size) (h2 : j < b.size) : allowsB a b i j 0 = sameAt a b i j := by
  simp [allowsB, passI, passJ]; omega
theorem allows_one {a b : ByteArray} {i j : Nat} (h1 : i < a.size) (h2 : j < b.size) : allowsB a b i j 1 = !sameAt a b i j := by
  simp [allowsB, passI, passJ]; omega

set_option maxRecDepth 100000 in
set_option maxHeartbeats 4000000 in
theorem spec_IsAlignment_c {o : Bool} {e : TypeId} {xs : List AStep} {v : Value} {F : List Nat} (a b : ByteArray) (w : World) (h : (asteps e).rep o w xs [v] F) (hx : xs.length ≤ 1048576) (ha : a.size ≤ 1048576) (hb : b.size ≤ 1048576) :
    Calls Try.prog 17 #[.string a, .string b, v] w fun e w' => e = .returned (.bool (isAl a b xs 0 0)) ∧ Below w.heap.size w w' := by
  obtain ⟨A, c, rfl, hc1, hc2, hr⟩ := asteps_open h
  clear h
  go_enter Try.func17, Try.ntmps17
  go_wp2_with fail
  go_loopw [7, 8, 9] (fun p q n wr => ∃ (k i j : Nat), k ≤ xs.length ∧ i ≤ a.size ∧ j ≤ b.size ∧ n = .int .i64 k ∧ p = .int .i64 (i : Int) ∧ q = .int .i64 (j : Int) ∧ Hid (isAl a b xs 0 0 = isAl a b (xs.drop k) i j) ∧ Below w.heap.size w wr) (fun _ _ n _ => xs.length - (intOf n).toNat)
  case atStart => exact ⟨0, 0, 0, Nat.zero_le _, Nat.zero_le _, Nat.zero_le _, rfl, rfl, rfl, rfl, Below.refl _ _⟩
  case round =>
    obtain ⟨k, i, j, hk, hi, hj, rfl, rfl, rfl, hal, hbel⟩ := hrel
    have hbs := hbel.size
    by_cases hlt : k < xs.length
    · obtain ⟨b', off, rfl, hbb, _, h0, h1, h2, _, _, _⟩ := hr k hlt
      rw [← hbel.cell (p := ⟨b', _, none⟩) hbb] at h0 h1 h2
      clear hr
      by_cases hne : xs[k].i = i ∧ xs[k].j = j
      · have HNE := Lib.hid hne
        rw [hne.1] at h1
        rw [hne.2] at h2
        clear hne
        have g1 : ((i : Int) != (i : Int)) = false := by simp
        have g2 : ((j : Int) != (j : Int)) = false := by simp
        have FALSE : allowsB a b i j xs[k].op = false → Hid (isAl a b xs 0 0 = false) := fun hf => by
          show _ = _; rw [hal.out]; exact isAl_false hlt (.inr hf)
        have TRUE : allowsB a b i j xs[k].op = true → Hid (isAl a b xs 0 0 = isAl a b (xs.drop (k + 1)) (i + passI xs[k].op) (j + passJ xs[k].op)) := fun hf => by
          show _ = _; rw [hal.out]; exact isAl_true hlt HNE.out hf
        have HF := Lib.hid FALSE
        have HT := Lib.hid TRUE
        clear FALSE TRUE HNE hal
        generalize hop : xs[k].op = op at h0 HF HT
        clear hop
        have C := spec_l00In_c op 0 3
        by_cases hin : inB op 0 3 = true
        · rw [hin] at C
          have HC := Lib.hid C
          clear C
          have hin' : op = 0 ∨ op = 1 ∨ op = 2 ∨ op = 3 := by simp [inB] at hin; omega
          clear hin
          rcases hin' with rfl | rfl | rfl | rfl
          · -- the same bytes
            by_cases hia : i < a.size
            · have hia' : ¬ ((a.size : Int) ≤ (i : Int)) := by omega
              by_cases hjb : j < b.size
              · have hjb' : ¬ ((b.size : Int) ≤ (j : Int)) := by omega
                have HS := sameAt_eq hia hjb
                have HA := allows_zero (a := a) (b := b) hia hjb
                cases hs : sameAt a b i j
                · rw [hs] at HS HA
                  have T := HF.out HA
                  have gs := HS.symm
                  clear HF HT HA HS hs
                  go_wp2_with (first | (go_at_call 50; refine (HC.out _).mono ?_; rintro e w1 ⟨rfl, rfl⟩))
                  go_quiet (fail)
                  go_wp2_with fail
                  go_ret
                  exact ⟨ret_bool T.out.symm, below_drewN (hbel.alloc hbs _) _⟩
                · rw [hs] at HS HA
                  have T := HT.out HA
                  have gs := HS.symm
                  clear HF HT HA HS hs
                  go_wp2_with (first | (go_at_call 50; refine (HC.out _).mono ?_; rintro e w1 ⟨rfl, rfl⟩))
                  go_quiet (fail)
                  go_wp2_with fail
                  go_roundw
                  case rel => exact ⟨k + 1, i + 1, j + 1, by omega, by omega, by omega, by go_num, by go_num, by go_num, T, below_drewN (hbel.alloc hbs _) _⟩
                  case measure => simp [intOf]; omega
              · have hjb' : ((b.size : Int) ≤ (j : Int)) := by omega
                have T := HF.out (by simp [allowsB, passI, passJ]; omega)
                clear HF HT
                go_wp2_with (first | (go_at_call 50; refine (HC.out _).mono ?_; rintro e w1 ⟨rfl, rfl⟩))
                go_ret
                exact ⟨ret_bool T.out.symm, hbel.alloc hbs _⟩
            · have hia' : ((a.size : Int) ≤ (i : Int)) := by omega
              have T := HF.out (by simp [allowsB, passI, passJ]; omega)
              clear HF HT
              go_wp2_with (first | (go_at_call 50; refine (HC.out _).mono ?_; rintro e w1 ⟨rfl, rfl⟩))
              go_ret
              exact ⟨ret_bool T.out.symm, hbel.alloc hbs _⟩
          · -- other bytes
            by_cases hia : i < a.size
            · have hia' : ¬ ((a.size : Int) ≤ (i : Int)) := by omega
              by_cases hjb : j < b.size
              · have hjb' : ¬ ((b.size : Int) ≤ (j : Int)) := by omega
                have HS := sameAt_eq hia hjb
                have HA := allows_one (a := a) (b := b) hia hjb
                cases hs : sameAt a b i j
                · rw [hs] at HS HA
                  have T := HT.out HA
                  have gs := HS.symm
                  clear HF HT HA HS hs
                  go_wp2_with (first | (go_at_call 50; refine (HC.out _).mono ?_; rintro e w1 ⟨rfl, rfl⟩))
                  go_quiet (fail)
                  go_wp2_with fail
                  go_roundw
                  case rel => exact ⟨k + 1, i + 1, j + 1, by omega, by omega, by omega, by go_num, by go_num, by go_num, T, below_drewN (hbel.alloc hbs _) _⟩
                  case measure => simp [intOf]; omega
                · rw [hs] at HS HA
                  have T := HF.out HA
                  have gs := HS.symm
                  clear HF HT HA HS hs
                  go_wp2_with (first | (go_at_call 50; refine (HC.out _).mono ?_; rintro e w1 ⟨rfl, rfl⟩))
                  go_quiet (fail)
                  go_wp2_with fail
                  go_ret
                  exact ⟨ret_bool T.out.symm, below_drewN (hbel.alloc hbs _) _⟩
              · have hjb' : ((b.size : Int) ≤ (j : Int)) := by omega
                have T := HF.out (by simp [allowsB, passI, passJ]; omega)
                clear HF HT
                go_wp2_with (first | (go_at_call 50; refine (HC.out _).mono ?_; rintro e w1 ⟨rfl, rfl⟩))
                go_ret
                exact ⟨ret_bool T.out.symm, hbel.alloc hbs _⟩
            · have hia' : ((a.size : Int) ≤ (i : Int)) := by omega
              have T := HF.out (by simp [allowsB, passI, passJ]; omega)
              clear HF HT
              go_wp2_with (first | (go_at_call 50; refine (HC.out _).mono ?_; rintro e w1 ⟨rfl, rfl⟩))
              go_ret
              exact ⟨ret_bool T.out.symm, hbel.alloc hbs _⟩
          · -- a byte of the first text is deleted
            by_cases hia : i < a.size
            · have hia' : ¬ ((a.size : Int) ≤ (i : Int)) := by omega
              have T := HT.out (by simp [allowsB, passI, passJ]; omega)
              clear HF HT
              go_wp2_with (first | (go_at_call 50; refine (HC.out _).mono ?_; rintro e w1 ⟨rfl, rfl⟩))
              go_quiet (fail)
              go_wp2_with fail
              go_roundw
              case rel => exact ⟨k + 1, i + 1, j, by omega, by omega, by omega, by go_num, by go_num, rfl, T, below_drewN (hbel.alloc hbs _) _⟩
              case measure => simp [intOf]; omega
            · have hia' : ((a.size : Int) ≤ (i : Int)) := by omega
              have T := HF.out (by simp [allowsB, passI, passJ]; omega)
              clear HF HT
              go_wp2_with (first | (go_at_call 50; refine (HC.out _).mono ?_; rintro e w1 ⟨rfl, rfl⟩))
              go_ret
              exact ⟨ret_bool T.out.symm, hbel.alloc hbs _⟩
          · -- a byte of the second text is inserted
            by_cases hjb : j < b.size
            · have hjb' : ¬ ((b.size : Int) ≤ (j : Int)) := by omega
              have T := HT.out (by simp [allowsB, passI, passJ]; omega)
              clear HF HT
              go_wp2_with (first | (go_at_call 50; refine (HC.out _).mono ?_; rintro e w1 ⟨rfl, rfl⟩))
              go_quiet (fail)
              go_wp2_with fail
              go_roundw
              case rel => exact ⟨k + 1, i, j + 1, by omega, by omega, by omega, by go_num, rfl, by go_num, T, below_drewN (hbel.alloc hbs _) _⟩
              case measure => simp [intOf]; omega
            · have hjb' : ((b.size : Int) ≤ (j : Int)) := by omega
              have T := HF.out (by simp [allowsB, passI, passJ]; omega)
              clear HF HT
              go_wp2_with (first | (go_at_call 50; refine (HC.out _).mono ?_; rintro e w1 ⟨rfl, rfl⟩))
              go_ret
              exact ⟨ret_bool T.out.symm, hbel.alloc hbs _⟩
        · have hin' : inB op 0 3 = false := by simpa using hin
          rw [hin'] at C
          have HC := Lib.hid C
          clear C
          have T := HF.out (allows_other hin')
          clear HF HT hin hin'
          go_wp2_with (first | (go_at_call 50; refine (HC.out _).mono ?_; rintro e w1 ⟨rfl, rfl⟩))
          go_ret
          exact ⟨ret_bool T.out.symm, hbel.alloc hbs _⟩
      · have HF := Lib.hid (show isAl a b xs 0 0 = false by rw [hal.out]; exact isAl_false hlt (.inl hne))
        by_cases hi2 : xs[k].i = i
        · have g1 : (xs[k].i != (i : Int)) = false := by simp [hi2]
          have g2 : (xs[k].j != (j : Int)) = true := by simp; intro e; exact hne ⟨hi2, e⟩
          clear hne hi2
          go_wp2_with fail
          go_ret
          exact ⟨ret_bool HF.out.symm, hbel.alloc hbs _⟩
        · have g1 : (xs[k].i != (i : Int)) = true := by simp [hi2]
          clear hne hi2
          go_wp2_with fail
          go_ret
          exact ⟨ret_bool HF.out.symm, hbel.alloc hbs _⟩
    · obtain rfl : k = xs.length := by omega
      have HE : Hid (isAl a b xs 0 0 = ((i : Int) == (a.size : Int) && (j : Int) == (b.size : Int))) := by
        show _ = _
        rw [hal.out, List.drop_length]
        simp only [isAl]
        rw [Bool.eq_iff_iff]; simp; omega
      by_cases hia : i = a.size
      · have g1 : ((i : Int) == (a.size : Int)) = true := by simp [hia]
        clear hia
        go_wp2_with fail
        all_goals go_ret
        all_goals exact ⟨ret_bool (by rw [HE.out]; simp_all), hbel⟩
      · have g1 : ((i : Int) == (a.size : Int)) = false := by simp; omega
        clear hia
        go_wp2_with fail
        all_goals go_ret
        all_goals exact ⟨ret_bool (by rw [HE.out]; simp_all), hbel⟩
end Go.Proofs.Ytelkggafmnckoaa
