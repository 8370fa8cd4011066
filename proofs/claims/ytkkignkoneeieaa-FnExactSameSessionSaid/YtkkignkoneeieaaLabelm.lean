/- Labels and boxes: which are valid, in the program and in the reference. Conditions: none. -/
import Derived.Test.YtkkignkoneeieaaLibm
import Derived.Test.YtkkignkoneeieaaRows
import Derived.Test.YtkkignkoneeieaaShelfHasm
namespace Go.Proofs.Ytkkignkoneeieaa
open Go Go.RowKit

theorem ret_boolL {a b : Bool} (h : a = b) : Ending.returned (.bool a) = .returned (.bool b) := by rw [h]
/-- A byte that a label may have. -/
def labelC (n : Int) : Bool := (decide (97 ≤ n) && decide (n ≤ 122)) || ((decide (48 ≤ n) && decide (n ≤ 57)) || decide (n = 43 ∨ n = 45 ∨ n = 42 ∨ n = 47 ∨ n = 61 ∨ n = 40 ∨ n = 41 ∨ n = 46 ∨ n = 44))
set_option maxHeartbeats 400000 in
theorem impl_isLetter_i (n : Int) (w : World) :
    Calls Try.prog 100 #[.int .u8 n] w fun e w' => e = .returned (.bool (decide (97 ≤ n) && decide (n ≤ 122))) ∧ w' = w := by
  by_cases h : 97 ≤ n
  · have g : decide (97 ≤ n) = true := by simpa using h
    go_enter Try.func100, Try.ntmps100
    go_wp2_with fail
    all_goals go_ret
    all_goals exact ⟨ret_boolL (by simp [*]), rfl⟩
  · have g : decide (97 ≤ n) = false := by simpa using h
    go_enter Try.func100, Try.ntmps100
    go_wp2_with fail
    all_goals go_ret
    all_goals exact ⟨ret_boolL (by simp [*]), rfl⟩
set_option maxHeartbeats 400000 in
theorem spec_l01Small_i (n : Int) (w : World) :
    Calls Try.prog 113 #[.int .u8 n] w fun e w' => e = .returned (.bool (decide (97 ≤ n) && decide (n ≤ 122))) ∧ w' = w := by
  by_cases h : 97 ≤ n
  · have g : decide (97 ≤ n) = true := by simpa using h
    go_enter Try.func113, Try.ntmps113
    go_wp2_with fail
    all_goals go_ret
    all_goals exact ⟨ret_boolL (by simp [*]), rfl⟩
  · have g : decide (97 ≤ n) = false := by simpa using h
    go_enter Try.func113, Try.ntmps113
    go_wp2_with fail
    all_goals go_ret
    all_goals exact ⟨ret_boolL (by simp [*]), rfl⟩
set_option maxHeartbeats 1000000 in
theorem spec_l11Label_c (n : Int) (w : World) :
    Calls Try.prog 120 #[.int .u8 n] w fun e w' => e = .returned (.bool (labelC n)) ∧ w' = w := by
  by_cases hs : n = 43 ∨ n = 45 ∨ n = 42 ∨ n = 47 ∨ n = 61 ∨ n = 40 ∨ n = 41 ∨ n = 46 ∨ n = 44
  · have hl : labelC n = true := by simp [labelC, hs]
    rw [hl]
    clear hl
    rcases hs with rfl | rfl | rfl | rfl | rfl | rfl | rfl | rfl | rfl
    all_goals
      go_enter Try.func120, Try.ntmps120
      go_wp2_with fail
      go_ret
      exact ⟨rfl, rfl⟩
  · have hl : labelC n = ((decide (97 ≤ n) && decide (n ≤ 122)) || (decide (48 ≤ n) && decide (n ≤ 57))) := by simp [labelC, hs]
    rw [hl]
    clear hl
    have C := spec_l01Small_i n
    generalize (decide (97 ≤ n) && decide (n ≤ 122)) = d at C ⊢
    have HC := Lib.hid C
    clear C
    have g1 : (n == 43) = false := by simp; omega
    have g2 : (n == 45) = false := by simp; omega
    have g3 : (n == 42) = false := by simp; omega
    have g4 : (n == 47) = false := by simp; omega
    have g5 : (n == 61) = false := by simp; omega
    have g6 : (n == 40) = false := by simp; omega
    have g7 : (n == 41) = false := by simp; omega
    have g8 : (n == 46) = false := by simp; omega
    have g9 : (n == 44) = false := by simp; omega
    clear hs
    cases d
    · by_cases h : 48 ≤ n
      · have g : decide (48 ≤ n) = true := by simpa using h
        go_enter Try.func120, Try.ntmps120
        go_wp2_with (go_at_call 113; refine (HC.out _).mono ?_; rintro e w1 ⟨rfl, rfl⟩)
        all_goals go_ret
        all_goals exact ⟨ret_boolL (by simp [*]), rfl⟩
      · have g : decide (48 ≤ n) = false := by simpa using h
        go_enter Try.func120, Try.ntmps120
        go_wp2_with (go_at_call 113; refine (HC.out _).mono ?_; rintro e w1 ⟨rfl, rfl⟩)
        all_goals go_ret
        all_goals exact ⟨ret_boolL (by simp [*]), rfl⟩
    · go_enter Try.func120, Try.ntmps120
      go_wp2_with (go_at_call 113; refine (HC.out _).mono ?_; rintro e w1 ⟨rfl, rfl⟩)
      all_goals go_ret
      all_goals exact ⟨rfl, rfl⟩
/-- Is a text a label? -/
def labelB (s : ByteArray) : Bool := decide (s.size = 1) && labelC ((s.data[0]?.getD 0).toNat : Int)
theorem one_byte {s : ByteArray} (h : s.size = 1) : ∃ c, s = ⟨#[c]⟩ := by
  obtain ⟨⟨l⟩⟩ := s
  simp only [ByteArray.size] at h
  match l, h with
  | [c], _ => exact ⟨c, rfl⟩
theorem has_label : ∀ c : UInt8, ((decide (97 ≤ (c.toNat : Int)) && decide ((c.toNat : Int) ≤ 122)) || decide (0 ≤ Lib.indexByte [48, 49, 50, 51, 52, 53, 54, 55, 56, 57, 43, 45, 42, 47, 61, 40, 41, 46, 44] c)) = labelC (c.toNat : Int) := by
  have h : ∀ n : Fin 256, ((decide (97 ≤ ((UInt8.ofNat n.val).toNat : Int)) && decide (((UInt8.ofNat n.val).toNat : Int) ≤ 122)) || decide (0 ≤ Lib.indexByte [48, 49, 50, 51, 52, 53, 54, 55, 56, 57, 43, 45, 42, 47, 61, 40, 41, 46, 44] (UInt8.ofNat n.val))) = labelC ((UInt8.ofNat n.val).toNat : Int) := by decide +kernel
  intro c
  have := h ⟨c.toNat, UInt8.toNat_lt c⟩
  simpa using this
set_option maxHeartbeats 400000 in
theorem spec_IsLabel_c (s : ByteArray) (w : World) (hs : s.size ≤ 1048576) :
    Calls Try.prog 111 #[.string s] w fun e w' => e = .returned (.bool (labelB s)) ∧ w' = w := by
  by_cases h : s.size = 1
  · obtain ⟨c, rfl⟩ := one_byte h
    have hl : labelB ⟨#[c]⟩ = labelC (c.toNat : Int) := by simp [labelB, ByteArray.size]
    rw [hl]
    have HC := Lib.hid (spec_l11Label_c (c.toNat : Int))
    clear hl
    go_enter Try.func111, Try.ntmps111
    go_wp2_with fail
    refine (HC.out _).mono ?_
    rintro e w1 ⟨rfl, rfl⟩
    go_wp2_with fail
    go_ret
    exact ⟨rfl, rfl⟩
  · have hl : labelB s = false := by simp [labelB, h]
    rw [hl]
    have g : ((s.size : Int) == 1) = false := by rw [beq_eq_false_iff_ne]; omega
    clear hl h
    go_enter Try.func111, Try.ntmps111
    go_wp2_with fail
    go_ret
    exact ⟨rfl, rfl⟩
set_option maxHeartbeats 400000 in
theorem impl_IsLabel_c (s : ByteArray) (w : World) (hs : s.size ≤ 1048576) :
    Calls Try.prog 98 #[.string s] w fun e w' => e = .returned (.bool (labelB s)) ∧ w' = w := by
  by_cases h : s.size = 1
  · obtain ⟨c, rfl⟩ := one_byte h
    have hl : labelB ⟨#[c]⟩ = labelC (c.toNat : Int) := by simp [labelB, ByteArray.size]
    have hh := has_label c
    rw [hl, ← hh]
    have C1 := impl_isLetter_i (c.toNat : Int)
    have C2 := strings_Contains_one ⟨#[48, 49, 50, 51, 52, 53, 54, 55, 56, 57, 43, 45, 42, 47, 61, 40, 41, 46, 44]⟩ c
    generalize (decide (97 ≤ (c.toNat : Int)) && decide ((c.toNat : Int) ≤ 122)) = d at C1 ⊢
    simp only [show (ByteArray.mk #[48, 49, 50, 51, 52, 53, 54, 55, 56, 57, 43, 45, 42, 47, 61, 40, 41, 46, 44]).data.toList = [48, 49, 50, 51, 52, 53, 54, 55, 56, 57, 43, 45, 42, 47, 61, 40, 41, 46, 44] from rfl] at C2
    generalize decide (0 ≤ Lib.indexByte [48, 49, 50, 51, 52, 53, 54, 55, 56, 57, 43, 45, 42, 47, 61, 40, 41, 46, 44] c) = b at C2 ⊢
    have H1 := Lib.hid C1
    have H2 := Lib.hid C2
    clear hl hh C1 C2
    cases d
    all_goals
      go_enter Try.func98, Try.ntmps98
      go_wp2_with (first | (go_at_call 100; refine (H1.out _).mono ?_; rintro e w1 ⟨rfl, rfl⟩) | (go_at_call 116; refine (H2.out _).mono ?_; rintro e w1 ⟨rfl, rfl⟩))
      go_ret
      exact ⟨rfl, rfl⟩
  · have hl : labelB s = false := by simp [labelB, h]
    rw [hl]
    have g : ((s.size : Int) == 1) = false := by rw [beq_eq_false_iff_ne]; omega
    clear hl h
    go_enter Try.func98, Try.ntmps98
    go_wp2_with fail
    go_ret
    exact ⟨rfl, rfl⟩
end Go.Proofs.Ytkkignkoneeieaa
