/- Labels and boxes: which are valid, in the program and in the reference. Conditions: none. -/
import Derived.Test.YtkfadfddhbpngaaGreatLibz
import Derived.Test.YtkfadfddhbpngaaGreatRows
import Derived.Test.YtkfadfddhbpngaaGreatEqStrz
namespace Go.Proofs.YtkfadfddhbpngaaGreat
open Go Go.RowKit

theorem ret_boolL {a b : Bool} (h : a = b) : Ending.returned (.bool a) = .returned (.bool b) := by rw [h]
/-- A byte that a label may have. -/
def labelC (n : Int) : Bool := (decide (97 ≤ n) && decide (n ≤ 122)) || ((decide (48 ≤ n) && decide (n ≤ 57)) || decide (n = 43 ∨ n = 45 ∨ n = 42 ∨ n = 47 ∨ n = 61 ∨ n = 40 ∨ n = 41 ∨ n = 46 ∨ n = 44))
set_option maxHeartbeats 400000 in
theorem impl_isLetter_i (n : Int) (w : World) :
    Calls Tryz.prog 203 #[.int .u8 n] w fun e w' => e = .returned (.bool (decide (97 ≤ n) && decide (n ≤ 122))) ∧ w' = w := by
  by_cases h : 97 ≤ n
  · have g : decide (97 ≤ n) = true := by simpa using h
    go_enter Tryz.func203, Tryz.ntmps203
    go_wp2_with fail
    all_goals go_ret
    all_goals exact ⟨ret_boolL (by simp [*]), rfl⟩
  · have g : decide (97 ≤ n) = false := by simpa using h
    go_enter Tryz.func203, Tryz.ntmps203
    go_wp2_with fail
    all_goals go_ret
    all_goals exact ⟨ret_boolL (by simp [*]), rfl⟩
set_option maxHeartbeats 400000 in
theorem spec_l01Small_i (n : Int) (w : World) :
    Calls Tryz.prog 212 #[.int .u8 n] w fun e w' => e = .returned (.bool (decide (97 ≤ n) && decide (n ≤ 122))) ∧ w' = w := by
  by_cases h : 97 ≤ n
  · have g : decide (97 ≤ n) = true := by simpa using h
    go_enter Tryz.func212, Tryz.ntmps212
    go_wp2_with fail
    all_goals go_ret
    all_goals exact ⟨ret_boolL (by simp [*]), rfl⟩
  · have g : decide (97 ≤ n) = false := by simpa using h
    go_enter Tryz.func212, Tryz.ntmps212
    go_wp2_with fail
    all_goals go_ret
    all_goals exact ⟨ret_boolL (by simp [*]), rfl⟩
set_option maxHeartbeats 1000000 in
theorem spec_l11Label_c (n : Int) (w : World) :
    Calls Tryz.prog 234 #[.int .u8 n] w fun e w' => e = .returned (.bool (labelC n)) ∧ w' = w := by
  by_cases hs : n = 43 ∨ n = 45 ∨ n = 42 ∨ n = 47 ∨ n = 61 ∨ n = 40 ∨ n = 41 ∨ n = 46 ∨ n = 44
  · have hl : labelC n = true := by simp [labelC, hs]
    rw [hl]
    clear hl
    rcases hs with rfl | rfl | rfl | rfl | rfl | rfl | rfl | rfl | rfl
    all_goals
      go_enter Tryz.func234, Tryz.ntmps234
      go_wp2_with fail
      go_ret
      exact ⟨rfl, rfl⟩
  · have hl : labelC n = ((decide (97 ≤ n) && decide (n ≤ 122)) || (decide (48 ≤ n) && decide (n ≤ 57))) := by simp [labelC, hs]
    rw [hl]
    clear hl
    have C := spec_l01Small_i n
    generalize (decide (97 ≤ n) && decide (n ≤ 122)) = d at C ⊢
    have HC := Lib.hid C
    clear C
    have g1 : (n == 43) = false := by simp; omega
    have g2 : (n == 45) = false := by simp; omega
    have g3 : (n == 42) = false := by simp; omega
    have g4 : (n == 47) = false := by simp; omega
    have g5 : (n == 61) = false := by simp; omega
    have g6 : (n == 40) = false := by simp; omega
    have g7 : (n == 41) = false := by simp; omega
    have g8 : (n == 46) = false := by simp; omega
    have g9 : (n == 44) = false := by simp; omega
    clear hs
    cases d
    · by_cases h : 48 ≤ n
      · have g : decide (48 ≤ n) = true := by simpa using h
        go_enter Tryz.func234, Tryz.ntmps234
        go_wp2_with (go_at_call 212; refine (HC.out _).mono ?_; rintro e w1 ⟨rfl, rfl⟩)
        all_goals go_ret
        all_goals exact ⟨ret_boolL (by simp [*]), rfl⟩
      · have g : decide (48 ≤ n) = false := by simpa using h
        go_enter Tryz.func234, Tryz.ntmps234
        go_wp2_with (go_at_call 212; refine (HC.out _).mono ?_; rintro e w1 ⟨rfl, rfl⟩)
        all_goals go_ret
        all_goals exact ⟨ret_boolL (by simp [*]), rfl⟩
    · go_enter Tryz.func234, Tryz.ntmps234
      go_wp2_with (go_at_call 212; refine (HC.out _).mono ?_; rintro e w1 ⟨rfl, rfl⟩)
      all_goals go_ret
      all_goals exact ⟨rfl, rfl⟩
/-- Is a text a label? -/
def labelB (s : ByteArray) : Bool := decide (s.size = 1) && labelC ((s.data[0]?.getD 0).toNat : Int)
theorem one_byte {s : ByteArray} (h : s.size = 1) : ∃ c, s = ⟨#[c]⟩ := by
  obtain ⟨⟨l⟩⟩ := s
  simp only [ByteArray.size] at h
  match l, h with
  | [c], _ => exact ⟨c, rfl⟩
theorem has_label : ∀ c : UInt8, ((decide (97 ≤ (c.toNat : Int)) && decide ((c.toNat : Int) ≤ 122)) || decide (0 ≤ Lib.indexByte [48, 49, 50, 51, 52, 53, 54, 55, 56, 57, 43, 45, 42, 47, 61, 40, 41, 46, 44] c)) = labelC (c.toNat : Int) := by
  have h : ∀ n : Fin 256, ((decide (97 ≤ ((UInt8.ofNat n.val).toNat : Int)) && decide (((UInt8.ofNat n.val).toNat : Int) ≤ 122)) || decide (0 ≤ Lib.indexByte [48, 49, 50, 51, 52, 53, 54, 55, 56, 57, 43, 45, 42, 47, 61, 40, 41, 46, 44] (UInt8.ofNat n.val))) = labelC ((UInt8.ofNat n.val).toNat : Int) := by decide +kernel
  intro c
  have := h ⟨c.toNat, UInt8.toNat_lt c⟩
  simpa using this
set_option maxHeartbeats 400000 in
theorem spec_IsLabel_c (s : ByteArray) (w : World) (hs : s.size ≤ 1048576) :
    Calls Tryz.prog 210 #[.string s] w fun e w' => e = .returned (.bool (labelB s)) ∧ w' = w := by
  by_cases h : s.size = 1
  · obtain ⟨c, rfl⟩ := one_byte h
    have hl : labelB ⟨#[c]⟩ = labelC (c.toNat : Int) := by simp [labelB, ByteArray.size]
    rw [hl]
    have HC := Lib.hid (spec_l11Label_c (c.toNat : Int))
    clear hl
    go_enter Tryz.func210, Tryz.ntmps210
    go_wp2_with fail
    refine (HC.out _).mono ?_
    rintro e w1 ⟨rfl, rfl⟩
    go_wp2_with fail
    go_ret
    exact ⟨rfl, rfl⟩
  · have hl : labelB s = false := by simp [labelB, h]
    rw [hl]
    have g : ((s.size : Int) == 1) = false := by rw [beq_eq_false_iff_ne]; omega
    clear hl h
    go_enter Tryz.func210, Tryz.ntmps210
    go_wp2_with fail
    go_ret
    exact ⟨rfl, rfl⟩
set_option maxHeartbeats 400000 in
theorem impl_IsLabel_c (s : ByteArray) (w : World) (hs : s.size ≤ 1048576) :
    Calls Tryz.prog 216 #[.string s] w fun e w' => e = .returned (.bool (labelB s)) ∧ w' = w := by
  by_cases h : s.size = 1
  · obtain ⟨c, rfl⟩ := one_byte h
    have hl : labelB ⟨#[c]⟩ = labelC (c.toNat : Int) := by simp [labelB, ByteArray.size]
    have hh := has_label c
    rw [hl, ← hh]
    have C1 := impl_isLetter_i (c.toNat : Int)
    have C2 := strings_Contains_one ⟨#[48, 49, 50, 51, 52, 53, 54, 55, 56, 57, 43, 45, 42, 47, 61, 40, 41, 46, 44]⟩ c
    generalize (decide (97 ≤ (c.toNat : Int)) && decide ((c.toNat : Int) ≤ 122)) = d at C1 ⊢
    generalize decide (0 ≤ Lib.indexByte [48, 49, 50, 51, 52, 53, 54, 55, 56, 57, 43, 45, 42, 47, 61, 40, 41, 46, 44] c) = b at C2 ⊢
    have H1 := Lib.hid C1
    have H2 := Lib.hid C2
    clear hl hh C1 C2
    cases d
    all_goals
      go_enter Tryz.func216, Tryz.ntmps216
      go_wp2_with (first | (go_at_call 203; refine (H1.out _).mono ?_; rintro e w1 ⟨rfl, rfl⟩) | (go_at_call 237; refine (H2.out _).mono ?_; rintro e w1 ⟨rfl, rfl⟩))
      go_ret
      exact ⟨rfl, rfl⟩
  · have hl : labelB s = false := by simp [labelB, h]
    rw [hl]
    have g : ((s.size : Int) == 1) = false := by rw [beq_eq_false_iff_ne]; omega
    clear hl h
    go_enter Tryz.func216, Tryz.ntmps216
    go_wp2_with fail
    go_ret
    exact ⟨rfl, rfl⟩
end Go.Proofs.YtkfadfddhbpngaaGreat
