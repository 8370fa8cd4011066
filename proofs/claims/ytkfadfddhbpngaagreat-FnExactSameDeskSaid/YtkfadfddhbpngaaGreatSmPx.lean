/- The reference's own comparisons behind pointers. Conditions: none. -/
import Derived.Test.YtkfadfddhbpngaaGreatSmSx
namespace Go.Proofs.YtkfadfddhbpngaaGreat
open Go Go.RowKit

set_option maxRecDepth 100000 in
set_option maxHeartbeats 2000000 in
theorem spec_l16Same_c {oa ob : Bool} {ea eb : TypeId} {xs ys : List PEntry} {v u : Value} {F G : List Nat} {g f g' f' : Nat} (w : World) (c0 : w.cell? ⟨g, f, none⟩ = some v) (c1 : w.cell? ⟨g', f', none⟩ = some u) (h : (pEntrys ea).rep oa w xs [v] F) (h' : (pEntrys eb).rep ob w ys [u] G) (hx : xs.length ≤ 1048576) (hy : ys.length ≤ 1048576) :
 Calls Tryz.prog 77 #[.pointer (some ⟨g, f, none⟩), .pointer (some ⟨g', f', none⟩)] w (GivesB (decide (xs = ys)) w) := by
 obtain ⟨A, c, rfl, hc1, hc2, hr⟩ := pEntrys_open h
 obtain ⟨B, d, rfl, hd1, hd2, hs⟩ := pEntrys_open h'
 clear h h'
 by_cases hl : xs.length = ys.length
 · have hne : ((xs.length : Int) != (ys.length : Int)) = false := by simp [hl]
   have HL := Lib.hid hl
   clear hl
   go_enter Tryz.func77, Tryz.ntmps77
   go_wp2_with fail
   go_quiet (fail)
   go_wp2_with fail
   go_loopw [5] (fun i wr => ∃ k : Nat, k ≤ xs.length ∧ i = .int .i64 k ∧ (∀ j (hj : j < xs.length) (hj' : j < ys.length), j < k → xs[j] = ys[j]) ∧ ∃ m, wr = w.drewN m) (fun i _ => xs.length - (intOf i).toNat)
   case atStart => exact ⟨0, Nat.zero_le _, rfl, fun _ _ _ h => by omega, _, by first | rfl | exact World.drewN_drewN _ _ _ | exact (show (w.drewN 1).drewN _ = _ from World.drewN_drewN _ _ _) | exact (show ((w.drewN m).drewN 1) = _ from World.drewN_drewN _ _ _)⟩
   case round =>
    obtain ⟨k, hk, rfl, hall, m, rfl⟩ := hrel
    by_cases hlt : k < xs.length
    · have hlt' : k < ys.length := by have := HL.out; omega
      obtain ⟨b, off, rfl, hbb, _, h0, h1, _⟩ := hr k hlt
      obtain ⟨b', off', rfl, hbb', _, g0, g1, _⟩ := hs k hlt'
      have HA := Lib.hid hall
      clear hr hs hall
      have hm : Tryz.prog.eqGuardType Tryz.prog.depth 183 = false := by kernel_rfl
      by_cases hkk : xs[k] = ys[k]
      · have hq := fun w => Entry_neq xs[k] ys[k] w
        simp only [decide_eq_true hkk, Bool.not_true] at hq
        have HK := Lib.hid hkk
        clear hkk
        go_wp2_with fail
        go_quiet (fail)
        go_wp2_with fail
        go_roundw
        case rel =>
         refine ⟨k + 1, by omega, by go_num, fun j hj hj' hjk => ?_, _, by first | rfl | exact World.drewN_drewN _ _ _ | exact (show (w.drewN 1).drewN _ = _ from World.drewN_drewN _ _ _) | exact (show ((w.drewN m).drewN 1) = _ from World.drewN_drewN _ _ _)⟩
         by_cases e : j = k
         · subst e; exact HK.out
         · exact HA.out j hj hj' (by omega)
        case measure => simp [intOf]; omega
      · have hq := fun w => Entry_neq xs[k] ys[k] w
        simp only [decide_eq_false hkk, Bool.not_false] at hq
        have HK := Lib.hid hkk
        clear hkk
        go_wp2_with fail
        go_quiet (fail)
        go_wp2_with fail
        go_ret
        have hne : ¬ xs = ys := fun e => by subst e; exact HK.out rfl
        exact ⟨by simp [hne], _, by first | rfl | exact World.drewN_drewN _ _ _ | exact (show (w.drewN 1).drewN _ = _ from World.drewN_drewN _ _ _) | exact (show ((w.drewN m).drewN 1) = _ from World.drewN_drewN _ _ _)⟩
    · obtain rfl : k = xs.length := by omega
      have heq : xs = ys := List.ext_getElem HL.out (fun j h1 h2 => hall j h1 h2 h1)
      clear hall
      go_wp2_with fail
      go_ret
      exact ⟨by simp [heq], _, rfl⟩
 · have hne : ((xs.length : Int) != (ys.length : Int)) = true := by rw [bne_iff_ne]; omega
   have hxy : ¬ xs = ys := fun e => hl (by rw [e])
   have HL := Lib.hid hxy
   clear hl hxy
   go_enter Tryz.func77, Tryz.ntmps77
   go_wp2_with fail
   go_quiet (fail)
   go_wp2_with fail
   go_ret
   exact ⟨by simp [HL.out], _, by first | rfl | exact World.drewN_drewN _ _ _ | exact (show (w.drewN 1).drewN _ = _ from World.drewN_drewN _ _ _) | exact (show ((w.drewN m).drewN 1) = _ from World.drewN_drewN _ _ _)⟩
set_option maxRecDepth 100000 in
set_option maxHeartbeats 2000000 in
theorem spec_l02SameStroke_c {oa ob : Bool} {ea eb : TypeId} {xs ys : List PPoint} {v u : Value} {F G : List Nat} {g f g' f' : Nat} (w : World) (c0 : w.cell? ⟨g, f, none⟩ = some v) (c1 : w.cell? ⟨g', f', none⟩ = some u) (h : (pPoints ea).rep oa w xs [v] F) (h' : (pPoints eb).rep ob w ys [u] G) (hx : xs.length ≤ 1048576) (hy : ys.length ≤ 1048576) :
 Calls Tryz.prog 80 #[.pointer (some ⟨g, f, none⟩), .pointer (some ⟨g', f', none⟩)] w (GivesB (decide (xs = ys)) w) := by
 obtain ⟨A, c, rfl, hc1, hc2, hr⟩ := pPoints_open h
 obtain ⟨B, d, rfl, hd1, hd2, hs⟩ := pPoints_open h'
 clear h h'
 by_cases hl : xs.length = ys.length
 · have hne : ((xs.length : Int) != (ys.length : Int)) = false := by simp [hl]
   have HL := Lib.hid hl
   clear hl
   go_enter Tryz.func80, Tryz.ntmps80
   go_wp2_with fail
   go_quiet (fail)
   go_wp2_with fail
   go_loopw [5] (fun i wr => ∃ k : Nat, k ≤ xs.length ∧ i = .int .i64 k ∧ (∀ j (hj : j < xs.length) (hj' : j < ys.length), j < k → xs[j] = ys[j]) ∧ ∃ m, wr = w.drewN m) (fun i _ => xs.length - (intOf i).toNat)
   case atStart => exact ⟨0, Nat.zero_le _, rfl, fun _ _ _ h => by omega, _, by first | rfl | exact World.drewN_drewN _ _ _ | exact (show (w.drewN 1).drewN _ = _ from World.drewN_drewN _ _ _) | exact (show ((w.drewN m).drewN 1) = _ from World.drewN_drewN _ _ _)⟩
   case round =>
    obtain ⟨k, hk, rfl, hall, m, rfl⟩ := hrel
    by_cases hlt : k < xs.length
    · have hlt' : k < ys.length := by have := HL.out; omega
      obtain ⟨b, off, rfl, hbb, _, h0, h1, h2, _⟩ := hr k hlt
      obtain ⟨b', off', rfl, hbb', _, g0, g1, g2, _⟩ := hs k hlt'
      have HA := Lib.hid hall
      clear hr hs hall
      have hm : Tryz.prog.eqGuardType Tryz.prog.depth 155 = false := by kernel_rfl
      by_cases hkk : xs[k] = ys[k]
      · have hq := fun w => Point_neq xs[k] ys[k] w
        simp only [decide_eq_true hkk, Bool.not_true] at hq
        have HK := Lib.hid hkk
        clear hkk
        go_wp2_with fail
        go_quiet (fail)
        go_wp2_with fail
        go_roundw
        case rel =>
         refine ⟨k + 1, by omega, by go_num, fun j hj hj' hjk => ?_, _, by first | rfl | exact World.drewN_drewN _ _ _ | exact (show (w.drewN 1).drewN _ = _ from World.drewN_drewN _ _ _) | exact (show ((w.drewN m).drewN 1) = _ from World.drewN_drewN _ _ _)⟩
         by_cases e : j = k
         · subst e; exact HK.out
         · exact HA.out j hj hj' (by omega)
        case measure => simp [intOf]; omega
      · have hq := fun w => Point_neq xs[k] ys[k] w
        simp only [decide_eq_false hkk, Bool.not_false] at hq
        have HK := Lib.hid hkk
        clear hkk
        go_wp2_with fail
        go_quiet (fail)
        go_wp2_with fail
        go_ret
        have hne : ¬ xs = ys := fun e => by subst e; exact HK.out rfl
        exact ⟨by simp [hne], _, by first | rfl | exact World.drewN_drewN _ _ _ | exact (show (w.drewN 1).drewN _ = _ from World.drewN_drewN _ _ _) | exact (show ((w.drewN m).drewN 1) = _ from World.drewN_drewN _ _ _)⟩
    · obtain rfl : k = xs.length := by omega
      have heq : xs = ys := List.ext_getElem HL.out (fun j h1 h2 => hall j h1 h2 h1)
      clear hall
      go_wp2_with fail
      go_ret
      exact ⟨by simp [heq], _, rfl⟩
 · have hne : ((xs.length : Int) != (ys.length : Int)) = true := by rw [bne_iff_ne]; omega
   have hxy : ¬ xs = ys := fun e => hl (by rw [e])
   have HL := Lib.hid hxy
   clear hl hxy
   go_enter Tryz.func80, Tryz.ntmps80
   go_wp2_with fail
   go_quiet (fail)
   go_wp2_with fail
   go_ret
   exact ⟨by simp [HL.out], _, by first | rfl | exact World.drewN_drewN _ _ _ | exact (show (w.drewN 1).drewN _ = _ from World.drewN_drewN _ _ _) | exact (show ((w.drewN m).drewN 1) = _ from World.drewN_drewN _ _ _)⟩
set_option maxRecDepth 100000 in
set_option maxHeartbeats 2000000 in
theorem spec_l18Same_c {oa ob : Bool} {ea eb : TypeId} {n m' : Int} {xs ys : List PBigram} {v u : Value} {F G : List Nat} {g f g' f' : Nat} (w : World) (n0 : w.cell? ⟨g, f, none⟩ = some (.int .i64 n)) (n1 : w.cell? ⟨g', f', none⟩ = some (.int .i64 m')) (c0 : w.cell? ⟨g, f + 1, none⟩ = some v) (c1 : w.cell? ⟨g', f' + 1, none⟩ = some u) (h : (pBigrams ea).rep oa w xs [v] F) (h' : (pBigrams eb).rep ob w ys [u] G) (hx : xs.length ≤ 1048576) (hy : ys.length ≤ 1048576) :
 Calls Tryz.prog 78 #[.pointer (some ⟨g, f, none⟩), .pointer (some ⟨g', f', none⟩)] w (GivesB (decide (n = m') && decide (xs = ys)) w) := by
 obtain ⟨A, c, rfl, hc1, hc2, hr⟩ := pBigrams_open h
 obtain ⟨B, d, rfl, hd1, hd2, hs⟩ := pBigrams_open h'
 clear h h'
 by_cases nm : n = m'
 case neg =>
  have gn : (n != m') = true := by rw [bne_iff_ne]; exact nm
  have NM := Lib.hid nm
  clear nm
  go_enter Tryz.func78, Tryz.ntmps78
  go_wp2_with fail
  go_quiet (fail)
  go_wp2_with fail
  go_ret
  exact ⟨by simp [NM.out], _, by first | rfl | exact World.drewN_drewN _ _ _ | exact (show (w.drewN 1).drewN _ = _ from World.drewN_drewN _ _ _) | exact (show ((w.drewN m).drewN 1) = _ from World.drewN_drewN _ _ _)⟩
 have gn : (n != m') = false := by simp [nm]
 by_cases hl : xs.length = ys.length
 · have hne : ((xs.length : Int) != (ys.length : Int)) = false := by simp [hl]
   have HL := Lib.hid hl
   clear hl
   go_enter Tryz.func78, Tryz.ntmps78
   go_wp2_with fail
   go_quiet (fail)
   go_wp2_with fail
   go_loopw [5] (fun i wr => ∃ k : Nat, k ≤ xs.length ∧ i = .int .i64 k ∧ (∀ j (hj : j < xs.length) (hj' : j < ys.length), j < k → xs[j] = ys[j]) ∧ ∃ m, wr = w.drewN m) (fun i _ => xs.length - (intOf i).toNat)
   case atStart => exact ⟨0, Nat.zero_le _, rfl, fun _ _ _ h => by omega, _, by first | rfl | exact World.drewN_drewN _ _ _ | exact (show (w.drewN 1).drewN _ = _ from World.drewN_drewN _ _ _) | exact (show ((w.drewN m).drewN 1) = _ from World.drewN_drewN _ _ _)⟩
   case round =>
    obtain ⟨k, hk, rfl, hall, m, rfl⟩ := hrel
    by_cases hlt : k < xs.length
    · have hlt' : k < ys.length := by have := HL.out; omega
      obtain ⟨b, off, rfl, hbb, _, h0, h1, h2, _⟩ := hr k hlt
      obtain ⟨b', off', rfl, hbb', _, g0, g1, g2, _⟩ := hs k hlt'
      have HA := Lib.hid hall
      clear hr hs hall
      have hm : Tryz.prog.eqGuardType Tryz.prog.depth 186 = false := by kernel_rfl
      by_cases hkk : xs[k] = ys[k]
      · have hq := fun w => Bigram_neq xs[k] ys[k] w
        simp only [decide_eq_true hkk, Bool.not_true] at hq
        have HK := Lib.hid hkk
        clear hkk
        go_wp2_with fail
        go_quiet (fail)
        go_wp2_with fail
        go_roundw
        case rel =>
         refine ⟨k + 1, by omega, by go_num, fun j hj hj' hjk => ?_, _, by first | rfl | exact World.drewN_drewN _ _ _ | exact (show (w.drewN 1).drewN _ = _ from World.drewN_drewN _ _ _) | exact (show ((w.drewN m).drewN 1) = _ from World.drewN_drewN _ _ _)⟩
         by_cases e : j = k
         · subst e; exact HK.out
         · exact HA.out j hj hj' (by omega)
        case measure => simp [intOf]; omega
      · have hq := fun w => Bigram_neq xs[k] ys[k] w
        simp only [decide_eq_false hkk, Bool.not_false] at hq
        have HK := Lib.hid hkk
        clear hkk
        go_wp2_with fail
        go_quiet (fail)
        go_wp2_with fail
        go_ret
        have hne : ¬ xs = ys := fun e => by subst e; exact HK.out rfl
        exact ⟨by simp [hne, nm], _, by first | rfl | exact World.drewN_drewN _ _ _ | exact (show (w.drewN 1).drewN _ = _ from World.drewN_drewN _ _ _) | exact (show ((w.drewN m).drewN 1) = _ from World.drewN_drewN _ _ _)⟩
    · obtain rfl : k = xs.length := by omega
      have heq : xs = ys := List.ext_getElem HL.out (fun j h1 h2 => hall j h1 h2 h1)
      clear hall
      go_wp2_with fail
      go_ret
      exact ⟨by simp [heq, nm], _, rfl⟩
 · have hne : ((xs.length : Int) != (ys.length : Int)) = true := by rw [bne_iff_ne]; omega
   have hxy : ¬ xs = ys := fun e => hl (by rw [e])
   have HL := Lib.hid hxy
   clear hl hxy
   go_enter Tryz.func78, Tryz.ntmps78
   go_wp2_with fail
   go_quiet (fail)
   go_wp2_with fail
   go_ret
   exact ⟨by simp [HL.out, nm], _, by first | rfl | exact World.drewN_drewN _ _ _ | exact (show (w.drewN 1).drewN _ = _ from World.drewN_drewN _ _ _) | exact (show ((w.drewN m).drewN 1) = _ from World.drewN_drewN _ _ _)⟩
end Go.Proofs.YtkfadfddhbpngaaGreat
