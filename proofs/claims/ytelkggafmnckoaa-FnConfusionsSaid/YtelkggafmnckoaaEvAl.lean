/- passes, allows, IsAlignment. Conditions: none. -/
import Derived.Test.YtelkggafmnckoaaEvEq
import Derived.Test.YtelkggafmnckoaaStrS
namespace Go.Proofs.Ytelkggafmnckoaa
open Go Go.RowKit

/-- How many bytes of the first and of the second text an operation passes. -/
def passI (op : Int) : Nat := if op = 3 then 0 else 1
def passJ (op : Int) : Nat := if op = 2 then 0 else 1
/-- The bytes at i and at j are there and are equal. -/
def sameAt (a b : ByteArray) (i j : Nat) : Bool := if h : i < a.size ∧ j < b.size then decide ((a[i]'h.1).toNat = (b[j]'h.2).toNat) else false
def allowsB (a b : ByteArray) (i j : Nat) (op : Int) : Bool :=
  decide (i + passI op ≤ a.size) && decide (j + passJ op ≤ b.size) && (if op = 0 then sameAt a b i j else if op = 1 then !sameAt a b i j else decide (op = 2 ∨ op = 3))
theorem sameAt_eq {a b : ByteArray} {i j : Nat} (h1 : i < a.size) (h2 : j < b.size) : sameAt a b i j = (((a[i]'h1).toNat : Int) == ((b[j]'h2).toNat : Int)) := by
  unfold sameAt
  rw [dif_pos ⟨h1, h2⟩, Bool.eq_iff_iff]
  simp
  omega

theorem ret_bool {a b : Bool} (h : a = b) : Ending.returned (.bool a) = .returned (.bool b) := by rw [h]

set_option maxHeartbeats 400000 in
theorem impl_passes_c (op : Int) (w : World) :
    Calls Try.prog 49 #[.int .i64 op] w fun e w' => e = .returned (.tuple #[.int .i64 (passI op : Int), .int .i64 (passJ op : Int)]) ∧ w = w' := by
  unfold passI passJ
  by_cases h2 : op = 2
  · subst h2
    go_enter Try.func49, Try.ntmps49
    go_wp2_with fail
    go_ret2
    exact ⟨rfl, rfl⟩
  · by_cases h3 : op = 3
    · subst h3
      go_enter Try.func49, Try.ntmps49
      go_wp2_with fail
      go_ret2
      exact ⟨rfl, rfl⟩
    · have g2 : (op == 2) = false := by simp [h2]
      have g3 : (op == 3) = false := by simp [h3]
      rw [if_neg h2, if_neg h3]
      clear h2 h3
      go_enter Try.func49, Try.ntmps49
      go_wp2_with fail
      go_ret2
      exact ⟨rfl, rfl⟩

def QuietBool (r : Bool) (w : World) (e : Ending) (w' : World) : Prop := e = .returned (.bool r) ∧ ∃ n, w' = w.drewN n
set_option maxRecDepth 100000 in
set_option maxHeartbeats 400000 in
theorem impl_allows_c (a b : ByteArray) (i j : Nat) (op : Int) (w : World) (ha : a.size ≤ 1048576) (hb : b.size ≤ 1048576) (hi : i ≤ a.size) (hj : j ≤ b.size) :
    Calls Try.prog 48 #[.string a, .string b, .int .i64 (i : Int), .int .i64 (j : Int), .int .i64 op] w (QuietBool (allowsB a b i j op) w) := by
  have p1 : passI op ≤ 1 := by unfold passI; split <;> omega
  have p2 : passJ op ≤ 1 := by unfold passJ; split <;> omega
  by_cases hA : i + passI op ≤ a.size
  · have gA : decide ((a.size : Int) < (i : Int) + (passI op : Int)) = false := by simp; omega
    by_cases hB : j + passJ op ≤ b.size
    · have gB : decide ((b.size : Int) < (j : Int) + (passJ op : Int)) = false := by simp; omega
      have HA : Hid (allowsB a b i j op = (if op = 0 then sameAt a b i j else if op = 1 then !sameAt a b i j else decide (op = 2 ∨ op = 3))) := by
        show allowsB a b i j op = _
        simp [allowsB, hA, hB]
      by_cases h0 : op = 0
      · subst h0
        have hil : i < a.size := hA
        have hjl : j < b.size := hB
        have HS := Lib.hid (sameAt_eq hil hjl)
        go_enter Try.func48, Try.ntmps48
        go_wp2_with (go_at_call 49; refine (impl_passes_c _ _).mono ?_; rintro e w1 ⟨rfl, rfl⟩)
        go_quiet (fail)
        go_wp2_with fail
        go_ret
        exact ⟨ret_bool (by rw [HA.out]; simp [HS.out]), _, rfl⟩
      · by_cases h1 : op = 1
        · subst h1
          have hil : i < a.size := hA
          have hjl : j < b.size := hB
          have HS := Lib.hid (sameAt_eq hil hjl)
          clear h0
          go_enter Try.func48, Try.ntmps48
          go_wp2_with (go_at_call 49; refine (impl_passes_c _ _).mono ?_; rintro e w1 ⟨rfl, rfl⟩)
          go_quiet (fail)
          go_wp2_with fail
          go_ret
          exact ⟨ret_bool (by rw [HA.out]; simp [HS.out, bne]), _, rfl⟩
        · have g0 : (op == 0) = false := by simp [h0]
          have g1 : (op == 1) = false := by simp [h1]
          have HF := Lib.hid (show (if op = 0 then sameAt a b i j else if op = 1 then !sameAt a b i j else decide (op = 2 ∨ op = 3)) = decide (op = 2 ∨ op = 3) by rw [if_neg h0, if_neg h1])
          clear h0 h1
          by_cases h2 : op = 2
          · subst h2
            go_enter Try.func48, Try.ntmps48
            go_wp2_with (go_at_call 49; refine (impl_passes_c _ _).mono ?_; rintro e w1 ⟨rfl, rfl⟩)
            go_ret
            exact ⟨ret_bool (by rw [HA.out, HF.out]; rfl), 0, rfl⟩
          · have g2 : (op == 2) = false := by simp [h2]
            have HG := Lib.hid (show decide (op = 2 ∨ op = 3) = (op == 3) by rw [Bool.eq_iff_iff]; simp [h2])
            clear h2
            go_enter Try.func48, Try.ntmps48
            go_wp2_with (go_at_call 49; refine (impl_passes_c _ _).mono ?_; rintro e w1 ⟨rfl, rfl⟩)
            all_goals go_ret
            all_goals exact ⟨ret_bool (by rw [HA.out, HF.out, HG.out]), 0, rfl⟩
    · have gB : decide ((b.size : Int) < (j : Int) + (passJ op : Int)) = true := by simp; omega
      have HA := Lib.hid (show allowsB a b i j op = false by simp [allowsB, hB])
      clear hB
      go_enter Try.func48, Try.ntmps48
      go_wp2_with (go_at_call 49; refine (impl_passes_c _ _).mono ?_; rintro e w1 ⟨rfl, rfl⟩)
      go_ret
      exact ⟨ret_bool HA.out.symm, 0, rfl⟩
  · have gA : decide ((a.size : Int) < (i : Int) + (passI op : Int)) = true := by simp; omega
    have HA := Lib.hid (show allowsB a b i j op = false by simp [allowsB, hA])
    clear hA
    go_enter Try.func48, Try.ntmps48
    go_wp2_with (go_at_call 49; refine (impl_passes_c _ _).mono ?_; rintro e w1 ⟨rfl, rfl⟩)
    go_ret
    exact ⟨ret_bool HA.out.symm, 0, rfl⟩

/-- Are these steps an alignment of what is left? -/
def isAl (a b : ByteArray) : List AStep → Nat → Nat → Bool
  | [], i, j => decide (i = a.size) && decide (j = b.size)
  | s :: r, i, j => decide (s.i = i ∧ s.j = j) && (allowsB a b i j s.op && isAl a b r (i + passI s.op) (j + passJ s.op))
theorem isAl_at (a b : ByteArray) (xs : List AStep) (k i j : Nat) (h : k < xs.length) :
    isAl a b (xs.drop k) i j = (decide (xs[k].i = i ∧ xs[k].j = j) && (allowsB a b i j xs[k].op && isAl a b (xs.drop (k + 1)) (i + passI xs[k].op) (j + passJ xs[k].op))) := by
  rw [List.drop_eq_getElem_cons h]; rfl
theorem allows_le {a b : ByteArray} {i j : Nat} {op : Int} (h : allowsB a b i j op = true) : i + passI op ≤ a.size ∧ j + passJ op ≤ b.size := by
  simp [allowsB] at h; exact h.1

set_option maxRecDepth 100000 in
set_option maxHeartbeats 1000000 in
theorem impl_IsAlignment_c {o : Bool} {e : TypeId} {xs : List AStep} {v : Value} {F : List Nat} (a b : ByteArray) (w : World) (h : (asteps e).rep o w xs [v] F) (hx : xs.length ≤ 1048576) (ha : a.size ≤ 1048576) (hb : b.size ≤ 1048576) :
    Calls Try.prog 16 #[.string a, .string b, v] w fun e w' => e = .returned (.bool (isAl a b xs 0 0)) ∧ Below w.heap.size w w' := by
  obtain ⟨A, c, rfl, hc1, hc2, hr⟩ := asteps_open h
  clear h
  go_enter Try.func16, Try.ntmps16
  go_wp2_with fail
  go_loopw [7, 8, 15] (fun p q n wr => ∃ (k i j : Nat), k ≤ xs.length ∧ i ≤ a.size ∧ j ≤ b.size ∧ n = .int .i64 k ∧ p = .int .i64 (i : Int) ∧ q = .int .i64 (j : Int) ∧ Hid (isAl a b xs 0 0 = isAl a b (xs.drop k) i j) ∧ Below w.heap.size w wr) (fun _ _ n _ => xs.length - (intOf n).toNat)
  case atStart => exact ⟨0, 0, 0, Nat.zero_le _, Nat.zero_le _, Nat.zero_le _, rfl, rfl, rfl, rfl, Below.refl _ _⟩
  case round =>
    obtain ⟨k, i, j, hk, hi, hj, rfl, rfl, rfl, hal, hbel⟩ := hrel
    have hbs := hbel.size
    by_cases hlt : k < xs.length
    · obtain ⟨b', off, rfl, hbb, _, h0, h1, h2, _, _, _⟩ := hr k hlt
      rw [← hbel.cell (p := ⟨b', _, none⟩) hbb] at h0 h1 h2
      have HT := Lib.hid (isAl_at a b xs k i j hlt)
      have p1 : passI xs[k].op ≤ 1 := by unfold passI; split <;> omega
      have p2 : passJ xs[k].op ≤ 1 := by unfold passJ; split <;> omega
      clear hr
      by_cases hne : xs[k].i = i ∧ xs[k].j = j
      · have HNE := Lib.hid hne
        have g1 : (xs[k].i != (i : Int)) = false := by simp [hne.1]
        have g2 : (xs[k].j != (j : Int)) = false := by simp [hne.2]
        clear hne
        generalize hal' : allowsB a b i j xs[k].op = r
        have HAL := Lib.hid hal'
        cases r
        · have C := impl_allows_c a b i j xs[k].op
          rw [hal'] at C
          have HC := Lib.hid C
          clear C hal'
          go_wp2_with (first | (go_at_call 48; refine (HC.out _ ha hb hi hj).mono ?_; rintro e w1 ⟨rfl, n, rfl⟩))
          go_ret
          exact ⟨ret_bool (by rw [hal.out, HT.out, HAL.out]; simp), below_drewN (hbel.alloc hbs _) n⟩
        · have C := impl_allows_c a b i j xs[k].op
          have hle := allows_le hal'
          rw [hal'] at C
          have HC := Lib.hid C
          clear C hal'
          go_wp2_with (first | (go_at_call 48; refine (HC.out _ ha hb hi hj).mono ?_; rintro e w1 ⟨rfl, n, rfl⟩) | (go_at_call 49; refine (impl_passes_c _ _).mono ?_; rintro e w1 ⟨rfl, rfl⟩))
          go_roundw
          case rel =>
            exact ⟨k + 1, i + passI xs[k].op, j + passJ xs[k].op, by omega, hle.1, hle.2, by go_num, by go_num, by go_num, (by show _ = _; rw [hal.out, HT.out, HAL.out]; simp [HNE.out]), below_drewN (hbel.alloc hbs _) n⟩
          case measure => simp [intOf]; omega
      · have HF := Lib.hid (show isAl a b (xs.drop k) i j = false by rw [HT.out]; simp [hne])
        by_cases hi2 : xs[k].i = i
        · have g1 : (xs[k].i != (i : Int)) = false := by simp [hi2]
          have g2 : (xs[k].j != (j : Int)) = true := by simp; intro e; exact hne ⟨hi2, e⟩
          clear hne hi2
          go_wp2_with fail
          go_ret
          exact ⟨ret_bool (by rw [hal.out, HF.out]), hbel.alloc hbs _⟩
        · have g1 : (xs[k].i != (i : Int)) = true := by simp [hi2]
          clear hne hi2
          go_wp2_with fail
          go_ret
          exact ⟨ret_bool (by rw [hal.out, HF.out]), hbel.alloc hbs _⟩
    · obtain rfl : k = xs.length := by omega
      have HE : Hid (isAl a b xs 0 0 = ((i : Int) == (a.size : Int) && (j : Int) == (b.size : Int))) := by
        show _ = _
        rw [hal.out, List.drop_length]
        simp only [isAl]
        rw [Bool.eq_iff_iff]; simp; omega
      by_cases hia : i = a.size
      · have g1 : ((i : Int) == (a.size : Int)) = true := by simp [hia]
        clear hia
        go_wp2_with fail
        all_goals go_ret
        all_goals exact ⟨ret_bool (by rw [HE.out]; simp_all), hbel⟩
      · have g1 : ((i : Int) == (a.size : Int)) = false := by simp; omega
        clear hia
        go_wp2_with fail
        all_goals go_ret
        all_goals exact ⟨ret_bool (by rw [HE.out]; simp_all), hbel⟩
end Go.Proofs.Ytelkggafmnckoaa
