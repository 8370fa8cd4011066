/- Pages: words and lines that are valid, in the program and in the reference. Conditions: none. -/
import Derived.Test.YtkkignkoneeieaaPgImplm
namespace Go.Proofs.Ytkkignkoneeieaa
open Go Go.RowKit

set_option maxRecDepth 100000 in
set_option maxHeartbeats 400000 in
theorem spec_IsWord_c (s : ByteArray) (hs : s.size ≤ 1048576) (w : World) : Calls Try.prog 91 #[.string s] w fun e w' => e = .returned (.bool (isWordB s)) ∧ w = w' := by
  go_enter Try.func91, Try.ntmps91
  go_wp2_with fail
  go_loop [3] (fun i => ∃ k : Nat, k ≤ s.size ∧ i = .int .i64 k ∧ Hid ((s.data.toList.take k).all letterB = true)) (fun i => s.size - (intOf i).toNat)
  case atStart => exact ⟨0, Nat.zero_le _, rfl, rfl⟩
  case round =>
    obtain ⟨k, hk, rfl, hall⟩ := hrel
    by_cases hlt : k < s.size
    · have C := spec_l01Small_c s[k]
      have hst := all_take (p := letterB) hlt
      rw [hall.out, Bool.true_and] at hst
      cases hl : letterB s[k]
      · rw [hl] at C
        have HC := Lib.hid C
        have HN := Lib.hid (isWordB_no (all_stop hlt hl))
        clear C hl hst
        go_wp2_with (go_at_call 113; refine (HC.out _).mono ?_; rintro e w2 ⟨rfl, rfl⟩)
        go_ret
        exact ⟨ret_boolF HN.out.symm, rfl⟩
      · rw [hl] at C hst
        have HC := Lib.hid C
        have HS := Lib.hid hst
        clear C hl hst
        go_wp2_with (go_at_call 113; refine (HC.out _).mono ?_; rintro e w2 ⟨rfl, rfl⟩)
        go_round
        case rel => exact ⟨k + 1, by omega, by go_num, HS.out⟩
        case measure => simp [intOf]; omega
    · obtain rfl : k = s.size := by omega
      have HW := Lib.hid (isWordB_of (all_whole hall.out))
      go_wp2_with (go_at_call 55; refine (spec_l00In_c _ _ _ _).mono ?_; rintro e w2 ⟨rfl, rfl⟩)
      go_ret
      refine ⟨ret_boolF ?_, rfl⟩
      rw [HW.out, Bool.eq_iff_iff, inR_iff]; simp; omega

/-- Lists of strings, each at most so long. -/
theorem take_all_step {α : Type} {p : α → Bool} {xs : List α} {k : Nat} (h : k < xs.length) : (xs.take (k + 1)).all p = ((xs.take k).all p && p xs[k]) := by
  rw [List.take_succ_eq_append_getElem h, List.all_append]; simp
theorem all_no {α : Type} {p : α → Bool} {xs : List α} {k : Nat} (h : k < xs.length) (hp : p xs[k] = false) : xs.all p = false := by
  rw [List.all_eq_false]; exact ⟨xs[k], List.getElem_mem h, by simp [hp]⟩
theorem all_yes {α : Type} {p : α → Bool} {xs : List α} (h : (xs.take xs.length).all p = true) : xs.all p = true := by rwa [List.take_length] at h

/-- All strings of all lines are at most so long. -/
def LineBytes (ls : List PLine) : Prop := ∀ l ∈ ls, ∀ s ∈ l, s.size ≤ 1048576

theorem linesOkB_of {ls : List PLine} (h : ls.all lineOkB = true) : linesOkB ls = (decide (1 ≤ ls.length) && decide (ls.length ≤ 20)) := by simp [linesOkB, h]
theorem linesOkB_no {ls : List PLine} (h : ls.all lineOkB = false) : linesOkB ls = false := by simp [linesOkB, h]

end Go.Proofs.Ytkkignkoneeieaa
