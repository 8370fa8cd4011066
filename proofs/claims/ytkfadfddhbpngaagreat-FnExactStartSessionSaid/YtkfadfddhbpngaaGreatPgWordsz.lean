/- Pages: words and lines that are valid, in the program and in the reference. Conditions: none. -/
import Derived.Test.YtkfadfddhbpngaaGreatPgImplz
namespace Go.Proofs.YtkfadfddhbpngaaGreat
open Go Go.RowKit

set_option maxRecDepth 100000 in
set_option maxHeartbeats 400000 in
theorem spec_IsWord_c (s : ByteArray) (hs : s.size ≤ 1048576) (w : World) : Calls Tryz.prog 173 #[.string s] w fun e w' => e = .returned (.bool (isWordB s)) ∧ w = w' := by
  go_enter Tryz.func173, Tryz.ntmps173
  go_wp2_with fail
  go_loop [3] (fun i => ∃ k : Nat, k ≤ s.size ∧ i = .int .i64 k ∧ Hid ((s.data.toList.take k).all letterB = true)) (fun i => s.size - (intOf i).toNat)
  case atStart => exact ⟨0, Nat.zero_le _, rfl, rfl⟩
  case round =>
    obtain ⟨k, hk, rfl, hall⟩ := hrel
    by_cases hlt : k < s.size
    · have C := spec_l01Small_c s[k]
      have hst := all_take (p := letterB) hlt
      rw [hall.out, Bool.true_and] at hst
      cases hl : letterB s[k]
      · rw [hl] at C
        have HC := Lib.hid C
        have HN := Lib.hid (isWordB_no (all_stop hlt hl))
        clear C hl hst
        go_wp2_with (go_at_call 212; refine (HC.out _).mono ?_; rintro e w2 ⟨rfl, rfl⟩)
        go_ret
        exact ⟨ret_boolF HN.out.symm, rfl⟩
      · rw [hl] at C hst
        have HC := Lib.hid C
        have HS := Lib.hid hst
        clear C hl hst
        go_wp2_with (go_at_call 212; refine (HC.out _).mono ?_; rintro e w2 ⟨rfl, rfl⟩)
        go_round
        case rel => exact ⟨k + 1, by omega, by go_num, HS.out⟩
        case measure => simp [intOf]; omega
    · obtain rfl : k = s.size := by omega
      have HW := Lib.hid (isWordB_of (all_whole hall.out))
      go_wp2_with (go_at_call 111; refine (spec_l00In_c _ _ _ _).mono ?_; rintro e w2 ⟨rfl, rfl⟩)
      go_ret
      refine ⟨ret_boolF ?_, rfl⟩
      rw [HW.out, Bool.eq_iff_iff, inR_iff]; simp; omega

end Go.Proofs.YtkfadfddhbpngaaGreat
namespace Go.Proofs.YtkfadfddhbpngaaGreat
open Go Go.RowKit

theorem repL_weak {α : Type} {T : Ty α} {o o' : Bool} {w : World} (hT : ∀ {a : α} {cs : List Value} {F : List Nat}, T.rep o w a cs F → T.rep o' w a cs F) : ∀ {xs : List α} {cs : List Value} {F : List Nat}, repL T o w xs cs F → repL T o' w xs cs F
  | [], _, _, h => h
  | _ :: _, _, _, ⟨c1, c2, F1, F2, e1, e2, h1, h2⟩ => ⟨c1, c2, F1, F2, e1, e2, hT h1, repL_weak hT h2⟩
/-- What an append reads of a slice. -/
theorem slice_src {α : Type} {T : Ty α} {e : TypeId} {o : Bool} {w : World} {xs : List α} {A : Option Addr} {n c : Nat} {F : List Nat} (h : (T.slice e).rep o w xs [.slice A n c] F) : ∃ ec G, repL T o w xs ec G ∧ CellsAt w A ec ∧ (∀ b ∈ G, b ∈ F) := by
  obtain ⟨A', c', ec, F0, F1, hv, rfl, hl, hc, hr, hlt, ha, _⟩ := h
  simp only [List.cons.injEq, and_true, Value.slice.injEq] at hv
  obtain ⟨rfl, rfl, rfl⟩ := hv
  refine ⟨ec, F1, hr, fun hp => ?_, fun b hb => by simp [hb]⟩
  have hl2 := repL_len hr
  have h0 : 0 < xs.length := by
    rcases Nat.eq_zero_or_pos xs.length with h | h
    · rw [h, Nat.zero_mul] at hl2; omega
    · exact h
  obtain ⟨b, off, h1, _, h2⟩ := ha h0
  exact ⟨b, off, h1, h2⟩
theorem CellsAt.below {w w' : World} {A : Option Addr} {ec : List Value} (h : CellsAt w A ec) (hb : Below w.heap.size w w') : CellsAt w' A ec := fun hp => by
  obtain ⟨b, off, h1, h2⟩ := h hp
  refine ⟨b, off, h1, fun j u hu => ?_⟩
  have h3 := h2 j u hu
  exact (hb.cell (p := ⟨b, off + j, none⟩) (World.block_lt_of_cell? w _ h3)).trans h3
theorem CellsAt.alloc {w : World} {A : Option Addr} {ec : List Value} (h : CellsAt w A ec) (x : Obj) : CellsAt (w.alloc x) A ec := h.below ((Below.refl _ _).alloc (Nat.le_refl _) x)
theorem CellsAt.drew {w : World} {A : Option Addr} {ec : List Value} (h : CellsAt w A ec) : CellsAt w.drew A ec := h
theorem empty_is {α : Type} (T : Ty α) (e : TypeId) (w : World) : (T.slice e).rep true (w.alloc (.cells #[] e)) [] [.slice (some ⟨w.heap.size, 0, none⟩) 0 0] [w.heap.size] := slice_of_row (xs := []) (Row.new w _ _) ⟨rfl, rfl⟩ (by simp [maxLen])
/-- A fresh list behind another one. -/
theorem fresh_app {B : Nat} {w : World} {F G : List Nat} (hF : Fresh B F) (hlt : ∀ b ∈ F, b < w.heap.size) (hG : Fresh w.heap.size G) (hB : B ≤ w.heap.size) : Fresh B (F ++ G) :=
  ⟨List.nodup_append.2 ⟨hF.1, hG.1, fun x h1 y h2 e => by subst e; have := hlt x h1; have := hG.2 x h2; omega⟩, fun x hx => by
    rcases List.mem_append.1 hx with h | h
    · exact hF.2 x h
    · have := hG.2 x h; omega⟩
end Go.Proofs.YtkfadfddhbpngaaGreat
