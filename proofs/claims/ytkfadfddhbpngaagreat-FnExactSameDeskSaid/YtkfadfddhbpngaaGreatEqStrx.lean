/- Lists of strings are equal. Conditions: none. -/
import Derived.Test.YtkfadfddhbpngaaGreatStrSx
import Derived.Laws.StructEq
import Derived.Test.YtkfadfddhbpngaaGreatTyInkx
import Derived.Test.YtkfadfddhbpngaaGreatTyPointx
import Derived.Test.YtkfadfddhbpngaaGreatLibx
import Derived.Test.YtkfadfddhbpngaaGreatRows
namespace Go.Proofs.YtkfadfddhbpngaaGreat
open Go Go.RowKit

/-- A truth value, and nothing but draws. -/
def GivesB (b : Bool) (w : World) (e : Ending) (w' : World) : Prop := e = .returned (.bool b) ∧ ∃ n, w' = w.drewN n
set_option maxRecDepth 100000 in
set_option maxHeartbeats 1000000 in
theorem Equal_Str_c {oa ob : Bool} {ea eb : TypeId} {xs ys : List ByteArray} {v u : Value} {F G : List Nat} (w : World) (h : (strs ea).rep oa w xs [v] F) (h' : (strs eb).rep ob w ys [u] G) (hx : xs.length ≤ 1048576) (hy : ys.length ≤ 1048576) :
 Calls Tryz.prog 93 #[v, u] w (GivesB (decide (xs = ys)) w) := by
 obtain ⟨A, c, rfl, hc1, hc2, hr⟩ := strs_open h
 obtain ⟨B, d, rfl, hd1, hd2, hs⟩ := strs_open h'
 clear h h'
 by_cases hl : xs.length = ys.length
 · have hne : ((xs.length : Int) != (ys.length : Int)) = false := by simp [hl]
   have HL := Lib.hid hl
   clear hl
   go_enter Tryz.func93, Tryz.ntmps93
   go_wp2_with fail
   go_loopw [13] (fun i wr => ∃ k : Nat, k ≤ xs.length ∧ i = .int .i64 k ∧ (∀ j (hj : j < xs.length) (hj' : j < ys.length), j < k → xs[j] = ys[j]) ∧ ∃ m, wr = w.drewN m) (fun i _ => xs.length - (intOf i).toNat)
   case atStart => exact ⟨0, Nat.zero_le _, rfl, fun _ _ _ h => by omega, 0, rfl⟩
   case round =>
    obtain ⟨k, hk, rfl, hall, m, rfl⟩ := hrel
    by_cases hlt : k < xs.length
    · have hlt' : k < ys.length := by have := HL.out; omega
      obtain ⟨b, off, rfl, hbb, _, h0, _⟩ := hr k hlt
      obtain ⟨b', off', rfl, hbb', _, h0', _⟩ := hs k hlt'
      have HA := Lib.hid hall
      clear hr hs hall
      go_wp2_with fail
      go_quiet (fail)
      go_wp2_with fail
      · go_ret
        have hne : ¬ xs = ys := fun e => by
         subst e
         exact str_ne (by assumption) rfl
        exact ⟨by simp [hne], _, by first | rfl | exact World.drewN_drewN _ _ _⟩
      · go_roundw
        case rel =>
         refine ⟨k + 1, by omega, by go_num, fun j hj hj' hjk => ?_, _, by first | rfl | exact World.drewN_drewN _ _ _⟩
         by_cases e : j = k
         · subst e; exact str_ne_true (by assumption)
         · exact HA.out j hj hj' (by omega)
        case measure => simp [intOf]; omega
    · obtain rfl : k = xs.length := by omega
      have heq : xs = ys := List.ext_getElem HL.out (fun j h1 h2 => hall j h1 h2 h1)
      clear hall
      go_wp2_with fail
      go_ret
      exact ⟨by simp [heq], _, rfl⟩
 · have hne : ((xs.length : Int) != (ys.length : Int)) = true := by rw [bne_iff_ne]; omega
   have hxy : ¬ xs = ys := fun e => hl (by rw [e])
   have HL := Lib.hid hxy
   clear hl hxy
   go_enter Tryz.func93, Tryz.ntmps93
   go_wp2_with fail
   go_ret
   exact ⟨by simp [HL.out], 0, rfl⟩

set_option maxRecDepth 100000 in
set_option maxHeartbeats 1000000 in
theorem spec_l26SameWords_c {oa ob : Bool} {ea eb : TypeId} {xs ys : List ByteArray} {v u : Value} {F G : List Nat} (w : World) (h : (strs ea).rep oa w xs [v] F) (h' : (strs eb).rep ob w ys [u] G) (hx : xs.length ≤ 1048576) (hy : ys.length ≤ 1048576) :
 Calls Tryz.prog 81 #[v, u] w (GivesB (decide (xs = ys)) w) := by
 obtain ⟨A, c, rfl, hc1, hc2, hr⟩ := strs_open h
 obtain ⟨B, d, rfl, hd1, hd2, hs⟩ := strs_open h'
 clear h h'
 by_cases hl : xs.length = ys.length
 · have hne : ((xs.length : Int) != (ys.length : Int)) = false := by simp [hl]
   have HL := Lib.hid hl
   clear hl
   go_enter Tryz.func81, Tryz.ntmps81
   go_wp2_with fail
   go_loopw [5] (fun i wr => ∃ k : Nat, k ≤ xs.length ∧ i = .int .i64 k ∧ (∀ j (hj : j < xs.length) (hj' : j < ys.length), j < k → xs[j] = ys[j]) ∧ ∃ m, wr = w.drewN m) (fun i _ => xs.length - (intOf i).toNat)
   case atStart => exact ⟨0, Nat.zero_le _, rfl, fun _ _ _ h => by omega, 0, rfl⟩
   case round =>
    obtain ⟨k, hk, rfl, hall, m, rfl⟩ := hrel
    by_cases hlt : k < xs.length
    · have hlt' : k < ys.length := by have := HL.out; omega
      obtain ⟨b, off, rfl, hbb, _, h0, _⟩ := hr k hlt
      obtain ⟨b', off', rfl, hbb', _, h0', _⟩ := hs k hlt'
      have HA := Lib.hid hall
      clear hr hs hall
      go_wp2_with fail
      go_quiet (fail)
      go_wp2_with fail
      · go_ret
        have hne : ¬ xs = ys := fun e => by
         subst e
         exact str_ne (by assumption) rfl
        exact ⟨by simp [hne], _, by first | rfl | exact World.drewN_drewN _ _ _⟩
      · go_roundw
        case rel =>
         refine ⟨k + 1, by omega, by go_num, fun j hj hj' hjk => ?_, _, by first | rfl | exact World.drewN_drewN _ _ _⟩
         by_cases e : j = k
         · subst e; exact str_ne_true (by assumption)
         · exact HA.out j hj hj' (by omega)
        case measure => simp [intOf]; omega
    · obtain rfl : k = xs.length := by omega
      have heq : xs = ys := List.ext_getElem HL.out (fun j h1 h2 => hall j h1 h2 h1)
      clear hall
      go_wp2_with fail
      go_ret
      exact ⟨by simp [heq], _, rfl⟩
 · have hne : ((xs.length : Int) != (ys.length : Int)) = true := by rw [bne_iff_ne]; omega
   have hxy : ¬ xs = ys := fun e => hl (by rw [e])
   have HL := Lib.hid hxy
   clear hl hxy
   go_enter Tryz.func81, Tryz.ntmps81
   go_wp2_with fail
   go_ret
   exact ⟨by simp [HL.out], 0, rfl⟩

end Go.Proofs.YtkfadfddhbpngaaGreat
namespace Go.Proofs.YtkfadfddhbpngaaGreat
open Go Go.RowKit

/-- A point out of a list. -/
def pt (s : PStroke) (k : Nat) : PPoint := s.getD k ⟨0, 0, 0⟩
end Go.Proofs.YtkfadfddhbpngaaGreat
