/- The laws' own helpers over numbers. Conditions: none. -/
import Derived.Test.YtnmciooolocjdaaIntS
namespace Go.Proofs.Ytnmciooolocjdaa
open Go Go.RowKit

set_option maxRecDepth 100000 in
set_option maxHeartbeats 400000 in
theorem f6ints_c {oa ob : Bool} {ea eb : TypeId} {xs ys : List Int} {v u : Value} {F G : List Nat} (w : World) (h : (nums ea).rep oa w xs [v] F) (h' : (nums eb).rep ob w ys [u] G) (hx : xs.length ≤ 1048576) (hy : ys.length ≤ 1048576) :
    Calls Try.prog 8 #[v, u] w fun e w' => e = .returned (.bool (decide (xs = ys))) ∧ Below w.heap.size w w' := by
  obtain ⟨A, c, rfl, hc1, hc2, hr⟩ := nums_open h
  obtain ⟨B, d, rfl, hd1, hd2, hs⟩ := nums_open h'
  clear h h'
  by_cases hl : xs.length = ys.length
  · have hne : ((xs.length : Int) != (ys.length : Int)) = false := by simp [hl]
    have HL := Lib.hid hl
    clear hl
    go_enter Try.func8, Try.ntmps8
    go_wp2_with fail
    go_loopw [5] (fun i wr => ∃ k : Nat, k ≤ xs.length ∧ i = .int .i64 k ∧ (∀ j (hj : j < xs.length) (hj' : j < ys.length), j < k → xs[j] = ys[j]) ∧ Below w.heap.size w wr) (fun i _ => xs.length - (intOf i).toNat)
    case atStart => exact ⟨0, Nat.zero_le _, rfl, fun _ _ _ h => by omega, Below.refl _ _⟩
    case round =>
      obtain ⟨k, hk, rfl, hall, hb⟩ := hrel
      have hbs := hb.size
      by_cases hlt : k < xs.length
      · have hlt' : k < ys.length := by have := HL.out; omega
        obtain ⟨b, off, rfl, hbb, _, h0, _⟩ := hr k hlt
        obtain ⟨b', off', rfl, hbb', _, h0', _⟩ := hs k hlt'
        rw [← hb.cell (p := ⟨b, _, none⟩) hbb] at h0
        rw [← hb.cell (p := ⟨b', _, none⟩) hbb'] at h0'
        have HA := Lib.hid hall
        clear hr hs hall
        by_cases heq : xs[k] = ys[k]
        · have hq : (xs[k] != ys[k]) = false := by rw [heq]; simp
          have HE := Lib.hid heq
          clear heq
          go_wp2_with fail
          go_quiet (fail)
          go_wp2_with fail
          go_roundw
          case rel =>
            refine ⟨k + 1, by omega, by go_num, fun j hj hj' hjk => ?_, below_drewN hb nq⟩
            by_cases e : j = k
            · subst e; exact HE.out
            · exact HA.out j hj hj' (by omega)
          case measure => simp [intOf]; omega
        · have hq : (xs[k] != ys[k]) = true := by rw [bne_iff_ne]; exact heq
          have hne : ¬ xs = ys := fun e => by subst e; exact heq rfl
          have HE := Lib.hid hne
          clear heq hne
          go_wp2_with fail
          go_quiet (fail)
          go_wp2_with fail
          go_ret
          exact ⟨by simp [HE.out], below_drewN hb nq⟩
      · obtain rfl : k = xs.length := by omega
        have heq : xs = ys := List.ext_getElem HL.out (fun j h1 h2 => hall j h1 h2 h1)
        clear hall
        go_wp2_with fail
        go_ret
        exact ⟨by simp [heq], hb⟩
  · have hne : ((xs.length : Int) != (ys.length : Int)) = true := by rw [bne_iff_ne]; omega
    have hxy : ¬ xs = ys := fun e => hl (by rw [e])
    have HL := Lib.hid hxy
    clear hl hxy
    go_enter Try.func8, Try.ntmps8
    go_wp2_with fail
    go_ret
    exact ⟨by simp [HL.out], Below.refl _ _⟩
end Go.Proofs.Ytnmciooolocjdaa
