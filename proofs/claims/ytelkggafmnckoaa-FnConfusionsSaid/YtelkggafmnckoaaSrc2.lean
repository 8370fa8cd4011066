/- A word that a law draws. Conditions: none. -/
import Derived.Test.YtelkggafmnckoaaSrc
namespace Go.Proofs.Ytelkggafmnckoaa
open Go Go.RowKit

theorem SrcIs.alloc {B g m : Nat} {code : List UInt8} {w : World} (h : SrcIs B g code m w) (x : Obj) : SrcIs B g code m (w.alloc x) := h.below ((Below.refl _ _).alloc (Nat.le_refl _) x)
def drawnWords : List ByteArray := [⟨#[97]⟩, ⟨#[98]⟩, ⟨#[99]⟩, ⟨#[97, 98]⟩, ⟨#[105, 110, 107]⟩]
theorem drawnWords_small : ∀ s ∈ drawnWords, s.size ≤ 3 := by decide
theorem bsize (a b : ByteArray) : (a ++ b).size = a.size + b.size := by simp
set_option maxRecDepth 100000 in
set_option maxHeartbeats 2000000 in
theorem spec_l25Word_c {B g m : Nat} {code : List UInt8} (w : World) (h : SrcIs B g code m w) (hm : m ≤ 900000) :
    Calls Try.prog 64 #[.pointer (some ⟨g, 0, none⟩)] w fun e w' => (∃ t : ByteArray, t.size ≤ 60 ∧ e = .returned (.string t)) ∧ SrcIs B g code (m + 12) w' ∧ Only [g] w w' := by
  have H1 := Lib.hid (src_pick_c w h (by omega) 9 (by omega))
  clear h
  go_enter Try.func64, Try.ntmps64
  go_wp2_with fail
  refine H1.out.mono ?_
  rintro e w1 ⟨⟨r, r0, r1, rfl⟩, S1, O1⟩
  obtain ⟨k0, rfl⟩ := Int.eq_ofNat_of_zero_le r0
  have hk0 : k0 ≤ 8 := by omega
  clear r1 r0 H1
  go_wp2_with fail
  go_loopw [3, 4] (fun t i wr => ∃ (k : Nat) (b : ByteArray), i = .int .i64 k ∧ k ≤ 8 ∧ t = .string b ∧ b.size + 3 * k ≤ 24 ∧ SrcIs B g code (m + 9 - k) wr ∧ Only [g] w wr) (fun _ i _ => (intOf i).toNat)
  case atStart => exact ⟨k0, _, rfl, hk0, rfl, by have h0 : ByteArray.size ⟨#[]⟩ = 0 := rfl; omega, S1.more (by omega), O1⟩
  case round =>
    obtain ⟨k, b, rfl, hk, rfl, hb, S, O⟩ := hrel
    by_cases hlt : 0 < k
    · have g1 : (0 : Int) < (k : Int) := by omega
      have kw : IntKind.i64.wrap ((k : Int) - 1) = (k : Int) - 1 := IntWalk.i64_in _ (by omega)
      have hbz : b.size ≤ 24 := by omega
      have hl : (strs 9).rep true (wr.alloc (.cells (drawnWords.map Value.string).toArray 9)) drawnWords [.slice (some ⟨wr.heap.size, 0, none⟩) 5 5] [wr.heap.size] :=
        slice_of_row (xs := drawnWords) (Row.new wr _ _) (repL_strs _ (fun s hs => by have := drawnWords_small s hs; unfold maxLen; omega)) (by decide)
      have hgl := S.lt
      have H := Lib.hid (src_text_c _ (S.alloc (.cells (drawnWords.map Value.string).toArray 9)) (by omega) hl (by simp; omega) (by decide) (by decide))
      have OA : Only [g] w (wr.alloc (.cells (drawnWords.map Value.string).toArray 9)) := O.trans (Only.of_below ((Below.refl _ _).alloc (Nat.le_refl _) _))
      clear hl
      go_wp2_with fail
      refine H.out.mono ?_
      rintro e w2 ⟨⟨t, ht, rfl⟩, S2, O2⟩
      have htz := drawnWords_small t ht
      go_wp2_with fail
      go_roundw
      case rel => exact ⟨k - 1, _, by go_num, by omega, rfl, by rw [bsize]; omega, S2.more (by omega), OA.trans O2⟩
      case measure => simp [intOf]; omega
    · obtain rfl : k = 0 := by omega
      have H := Lib.hid (src_one_c wr S (by omega) 24 (by omega))
      go_wp2_with fail
      refine H.out.mono ?_
      rintro e w2 ⟨⟨q, rfl⟩, S2, O2⟩
      cases q
      · go_wp2_with fail
        go_ret
        exact ⟨⟨b, by omega, rfl⟩, S2.more (by omega), O.trans O2⟩
      · have H3 := Lib.hid (src_pick_c w2 S2 (by omega) 2 (by omega))
        go_wp2_with fail
        refine H3.out.mono ?_
        rintro e w3 ⟨⟨r, r0, r1, rfl⟩, S3, O3⟩
        obtain ⟨k1, rfl⟩ := Int.eq_ofNat_of_zero_le r0
        have kw2 : IntKind.i64.wrap (40 + (k1 : Int)) = 40 + (k1 : Int) := IntWalk.i64_in _ (by omega)
        have hk1 : k1 ≤ 1 := by omega
        clear r1 r0 H3 H
        go_wp2_with fail
        go_loopw [3, 5] (fun t i wx => ∃ (k : Nat) (b : ByteArray), i = .int .i64 k ∧ k ≤ 41 ∧ t = .string b ∧ b.size + k ≤ 41 ∧ wx = w3) (fun _ i _ => (intOf i).toNat)
        case atStart => exact ⟨40 + k1, _, by go_num, by omega, rfl, by have h0 : ByteArray.size ⟨#[]⟩ = 0 := rfl; omega, rfl⟩
        case round =>
          obtain ⟨k, b2, rfl, hk2, rfl, hb2, rfl⟩ := hrel
          by_cases hlt2 : 0 < k
          · have g1 : (0 : Int) < (k : Int) := by omega
            have kw : IntKind.i64.wrap ((k : Int) - 1) = (k : Int) - 1 := IntWalk.i64_in _ (by omega)
            have hbz : b2.size ≤ 41 := by omega
            go_wp2_with fail
            go_roundw
            case rel => exact ⟨k - 1, _, by go_num, by omega, rfl, by rw [bsize]; have h0 : ByteArray.size ⟨#[122]⟩ = 1 := rfl; omega, trivial⟩
            case measure => simp [intOf]; omega
          · obtain rfl : k = 0 := by omega
            go_wp2_with fail
            go_ret
            exact ⟨⟨b2, by omega, rfl⟩, S3.more (by omega), (O.trans O2).trans O3⟩
end Go.Proofs.Ytelkggafmnckoaa
