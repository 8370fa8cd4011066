/- The program's pages, their small functions. Conditions: none. -/
import Derived.Test.YtkfadfddhbpngaaGreatSlOpsv
import Derived.Test.YtkfadfddhbpngaaGreatTyPagev
import Derived.Test.YtkfadfddhbpngaaGreatPgMathv
namespace Go.Proofs.YtkfadfddhbpngaaGreat
open Go Go.RowKit

theorem letterB_iff (c : UInt8) : letterB c = true ↔ 97 ≤ (c.toNat : Int) ∧ (c.toNat : Int) ≤ 122 := by unfold letterB; simp; omega
theorem impl_isLetter_c (c : UInt8) (w : World) : Calls Tryz.prog 203 #[.int .u8 (c.toNat : Int)] w fun e w' => e = .returned (.bool (letterB c)) ∧ w = w' := by
 go_enter Tryz.func203, Tryz.ntmps203
 go_wp2_with fail
 all_goals go_ret
 all_goals refine ⟨ret_boolF ?_, rfl⟩
 all_goals rw [Bool.eq_iff_iff, letterB_iff]; simp; try omega
theorem isWordB_of {s : ByteArray} (h : s.data.toList.all letterB = true) : isWordB s = (decide (1 ≤ s.size) && decide (s.size ≤ 10)) := by simp [isWordB, h]
theorem isWordB_no {s : ByteArray} (h : s.data.toList.all letterB = false) : isWordB s = false := by simp [isWordB, h]
set_option maxRecDepth 100000 in
set_option maxHeartbeats 400000 in
theorem impl_IsWord_c (s : ByteArray) (hs : s.size ≤ 1048576) (w : World) : Calls Tryz.prog 147 #[.string s] w fun e w' => e = .returned (.bool (isWordB s)) ∧ Below w.heap.size w w' := by
 obtain ⟨c, w1, hcv, hb1, hc1, hc2, hcell⟩ := bytes_of_string (P := Tryz.prog) (src := 9) (dst := 255) (e := 5) s w Tryz.underlying9 Tryz.underlying255 Tryz.underlying5 (by omega)
 go_enter Tryz.func147, Tryz.ntmps147
 go_wp2_with fail
 go_loopw [8] (fun i wr => ∃ k : Nat, k ≤ s.size ∧ i = .int .i64 k ∧ Hid ((s.data.toList.take k).all letterB = true) ∧ wr = w1) (fun i _ => s.size - (intOf i).toNat)
 case atStart => exact ⟨0, Nat.zero_le _, rfl, rfl, rfl⟩
 case round =>
  obtain ⟨k, hk, rfl, hall, rfl⟩ := hrel
  by_cases hlt : k < s.size
  · have h0 := hcell k hlt
    have C := impl_isLetter_c s[k]
    have hst := all_take (p := letterB) hlt
    rw [hall.out, Bool.true_and] at hst
    clear hcell hcv
    cases hl : letterB s[k]
    · rw [hl] at C
      have HC := Lib.hid C
      have HN := Lib.hid (isWordB_no (all_stop hlt hl))
      clear C hl hst
      go_wp2_with (go_at_call 203; refine (HC.out _).mono ?_; rintro e w2 ⟨rfl, rfl⟩)
      go_ret
      exact ⟨ret_boolF HN.out.symm, hb1⟩
    · rw [hl] at C hst
      have HC := Lib.hid C
      have HS := Lib.hid hst
      clear C hl hst
      go_wp2_with (go_at_call 203; refine (HC.out _).mono ?_; rintro e w2 ⟨rfl, rfl⟩)
      go_roundw
      case rel => exact ⟨k + 1, by omega, by go_num, HS.out, by first | trivial | rfl⟩
      case measure => simp [intOf]; omega
  · obtain rfl : k = s.size := by omega
    have HW := Lib.hid (isWordB_of (all_whole hall.out))
    clear hcell hcv
    go_wp2_with fail
    all_goals go_ret
    all_goals refine ⟨ret_boolF ?_, hb1⟩
    all_goals rw [HW.out, Bool.eq_iff_iff]; simp; try omega
end Go.Proofs.YtkfadfddhbpngaaGreat
namespace Go.Proofs.YtkfadfddhbpngaaGreat
open Go Go.RowKit

/-- All strings of all lines are at most so long. -/
def LineBytes (ls : List PLine) : Prop := ∀ l ∈ ls, ∀ s ∈ l, s.size ≤ 1048576

end Go.Proofs.YtkfadfddhbpngaaGreat
namespace Go.Proofs.YtkfadfddhbpngaaGreat
open Go Go.RowKit

theorem repL_weak {α : Type} {T : Ty α} {o o' : Bool} {w : World} (hT : ∀ {a : α} {cs : List Value} {F : List Nat}, T.rep o w a cs F → T.rep o' w a cs F) : ∀ {xs : List α} {cs : List Value} {F : List Nat}, repL T o w xs cs F → repL T o' w xs cs F
 | [], _, _, h => h
 | _ :: _, _, _, ⟨c1, c2, F1, F2, e1, e2, h1, h2⟩ => ⟨c1, c2, F1, F2, e1, e2, hT h1, repL_weak hT h2⟩
theorem CellsAt.below {w w' : World} {A : Option Addr} {ec : List Value} (h : CellsAt w A ec) (hb : Below w.heap.size w w') : CellsAt w' A ec := fun hp => by
 obtain ⟨b, off, h1, h2⟩ := h hp
 refine ⟨b, off, h1, fun j u hu => ?_⟩
 have h3 := h2 j u hu
 exact (hb.cell (p := ⟨b, off + j, none⟩) (World.block_lt_of_cell? w _ h3)).trans h3
theorem CellsAt.alloc {w : World} {A : Option Addr} {ec : List Value} (h : CellsAt w A ec) (x : Obj) : CellsAt (w.alloc x) A ec := h.below ((Below.refl _ _).alloc (Nat.le_refl _) x)
theorem CellsAt.drew {w : World} {A : Option Addr} {ec : List Value} (h : CellsAt w A ec) : CellsAt w.drew A ec := h
/-- A fresh list behind another one. -/
theorem fresh_app {B : Nat} {w : World} {F G : List Nat} (hF : Fresh B F) (hlt : ∀ b ∈ F, b < w.heap.size) (hG : Fresh w.heap.size G) (hB : B ≤ w.heap.size) : Fresh B (F ++ G) :=
 ⟨List.nodup_append.2 ⟨hF.1, hG.1, fun x h1 y h2 e => by subst e; have := hlt x h1; have := hG.2 x h2; omega⟩, fun x hx => by
  rcases List.mem_append.1 hx with h | h
  · exact hF.2 x h
  · have := hG.2 x h; omega⟩
end Go.Proofs.YtkfadfddhbpngaaGreat
