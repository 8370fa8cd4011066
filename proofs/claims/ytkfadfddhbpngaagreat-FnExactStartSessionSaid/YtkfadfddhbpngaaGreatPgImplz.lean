/- The program's pages, their small functions. Conditions: none. -/
import Derived.Test.YtkfadfddhbpngaaGreatSlOpsz
import Derived.Test.YtkfadfddhbpngaaGreatTyStepz
namespace Go.Proofs.YtkfadfddhbpngaaGreat
open Go Go.RowKit

theorem letterB_iff (c : UInt8) : letterB c = true ↔ 97 ≤ (c.toNat : Int) ∧ (c.toNat : Int) ≤ 122 := by unfold letterB; simp; omega
theorem inR_iff (n a b : Int) : inRP n a b = true ↔ a ≤ n ∧ n ≤ b := by unfold inRP; simp
theorem impl_isLetter_c (c : UInt8) (w : World) : Calls Tryz.prog 203 #[.int .u8 (c.toNat : Int)] w fun e w' => e = .returned (.bool (letterB c)) ∧ w = w' := by
  go_enter Tryz.func203, Tryz.ntmps203
  go_wp2_with fail
  all_goals go_ret
  all_goals refine ⟨ret_boolF ?_, rfl⟩
  all_goals rw [Bool.eq_iff_iff, letterB_iff]; simp; try omega
theorem spec_l01Small_c (c : UInt8) (w : World) : Calls Tryz.prog 212 #[.int .u8 (c.toNat : Int)] w fun e w' => e = .returned (.bool (letterB c)) ∧ w = w' := by
  go_enter Tryz.func212, Tryz.ntmps212
  go_wp2_with fail
  all_goals go_ret
  all_goals refine ⟨ret_boolF ?_, rfl⟩
  all_goals rw [Bool.eq_iff_iff, letterB_iff]; simp; try omega
theorem spec_l00In_c (n a b : Int) (w : World) : Calls Tryz.prog 111 #[.int .i64 n, .int .i64 a, .int .i64 b] w fun e w' => e = .returned (.bool (inRP n a b)) ∧ w = w' := by
  go_enter Tryz.func111, Tryz.ntmps111
  go_wp2_with fail
  all_goals go_ret
  all_goals refine ⟨ret_boolF ?_, rfl⟩
  all_goals rw [Bool.eq_iff_iff, inR_iff]; simp; try omega

theorem isWordB_of {s : ByteArray} (h : s.data.toList.all letterB = true) : isWordB s = (decide (1 ≤ s.size) && decide (s.size ≤ 10)) := by simp [isWordB, h]
theorem isWordB_no {s : ByteArray} (h : s.data.toList.all letterB = false) : isWordB s = false := by simp [isWordB, h]
set_option maxRecDepth 100000 in
set_option maxHeartbeats 400000 in
theorem impl_IsWord_c (s : ByteArray) (hs : s.size ≤ 1048576) (w : World) : Calls Tryz.prog 147 #[.string s] w fun e w' => e = .returned (.bool (isWordB s)) ∧ Below w.heap.size w w' := by
  obtain ⟨c, w1, hcv, hb1, hc1, hc2, hcell⟩ := bytes_of_string (P := Tryz.prog) (src := 9) (dst := 255) (e := 5) s w Tryz.underlying9 Tryz.underlying255 Tryz.underlying5 (by omega)
  go_enter Tryz.func147, Tryz.ntmps147
  go_wp2_with fail
  go_loopw [8] (fun i wr => ∃ k : Nat, k ≤ s.size ∧ i = .int .i64 k ∧ Hid ((s.data.toList.take k).all letterB = true) ∧ wr = w1) (fun i _ => s.size - (intOf i).toNat)
  case atStart => exact ⟨0, Nat.zero_le _, rfl, rfl, rfl⟩
  case round =>
    obtain ⟨k, hk, rfl, hall, rfl⟩ := hrel
    by_cases hlt : k < s.size
    · have h0 := hcell k hlt
      have C := impl_isLetter_c s[k]
      have hst := all_take (p := letterB) hlt
      rw [hall.out, Bool.true_and] at hst
      clear hcell hcv
      cases hl : letterB s[k]
      · rw [hl] at C
        have HC := Lib.hid C
        have HN := Lib.hid (isWordB_no (all_stop hlt hl))
        clear C hl hst
        go_wp2_with (go_at_call 203; refine (HC.out _).mono ?_; rintro e w2 ⟨rfl, rfl⟩)
        go_ret
        exact ⟨ret_boolF HN.out.symm, hb1⟩
      · rw [hl] at C hst
        have HC := Lib.hid C
        have HS := Lib.hid hst
        clear C hl hst
        go_wp2_with (go_at_call 203; refine (HC.out _).mono ?_; rintro e w2 ⟨rfl, rfl⟩)
        go_roundw
        case rel => exact ⟨k + 1, by omega, by go_num, HS.out, by first | trivial | rfl⟩
        case measure => simp [intOf]; omega
    · obtain rfl : k = s.size := by omega
      have HW := Lib.hid (isWordB_of (all_whole hall.out))
      clear hcell hcv
      go_wp2_with fail
      all_goals go_ret
      all_goals refine ⟨ret_boolF ?_, hb1⟩
      all_goals rw [HW.out, Bool.eq_iff_iff]; simp; try omega
end Go.Proofs.YtkfadfddhbpngaaGreat
