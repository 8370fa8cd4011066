/- StepCost. Conditions: none. -/
import Derived.Test.YtelkggafmnckoaaRows
import Derived.Test.YtelkggafmnckoaaEvTypes
import Derived.Test.YtelkggafmnckoaaMark
namespace Go.Proofs.Ytelkggafmnckoaa
open Go Go.RowKit

def cost : List AStep → Int
  | [] => 0
  | s :: r => (if s.op = 0 then 0 else 1) + cost r
theorem cost_app (xs : List AStep) (s : AStep) : cost (xs ++ [s]) = cost xs + (if s.op = 0 then 0 else 1) := by
  induction xs with
  | nil => simp [cost]
  | cons a r ih => simp [cost, ih]; omega
theorem cost_take (xs : List AStep) (k : Nat) (h : k < xs.length) : cost (xs.take (k+1)) = cost (xs.take k) + (if xs[k].op = 0 then 0 else 1) := by
  rw [List.take_succ_eq_append_getElem h, cost_app]
theorem cost_le (xs : List AStep) : 0 ≤ cost xs ∧ cost xs ≤ xs.length := by
  induction xs with
  | nil => simp [cost]
  | cons a r ih => simp only [cost, List.length_cons]; split <;> omega

set_option maxHeartbeats 400000 in
theorem impl_StepCost_c {o : Bool} {e : TypeId} {xs : List AStep} {v : Value} {F : List Nat} (w : World) (h : (asteps e).rep o w xs [v] F) (hx : xs.length ≤ 1048576) :
    Calls Try.prog 18 #[v] w fun e w' => e = .returned (.int .i64 (cost xs)) ∧ Below w.heap.size w w' := by
  obtain ⟨A, c, rfl, hc1, hc2, hr⟩ := asteps_open h
  go_enter Try.func18, Try.ntmps18
  go_wp2_with fail
  go_loopw [3, 8] (fun c i wr => ∃ k : Nat, k ≤ xs.length ∧ i = .int .i64 k ∧ c = .int .i64 (cost (xs.take k)) ∧ Below w.heap.size w wr) (fun _ i _ => xs.length - (intOf i).toNat)
  case atStart => exact ⟨0, Nat.zero_le _, rfl, rfl, Below.refl _ _⟩
  case round =>
    obtain ⟨k, hk, rfl, rfl, hb⟩ := hrel
    have hl := cost_le (xs.take k)
    have hl2 : (xs.take k).length ≤ k := List.length_take_le _ _
    by_cases hlt : k < xs.length
    · obtain ⟨b, off, rfl, hbb, _, h0, h1, h2, _, _, _⟩ := hr k hlt
      rw [← hb.cell (p := ⟨b, _, none⟩) hbb] at h0 h1 h2
      have H := Lib.hid (cost_take xs k hlt)
      have hbs := hb.size
      clear hr h
      go_wp2_with fail
      all_goals
        go_roundw
        case rel => exact ⟨k + 1, by omega, by go_num, by rw [H.out]; simp_all; try omega, by exact hb.alloc hbs _⟩
        case measure => simp [intOf]; omega
    · obtain rfl : k = xs.length := by omega
      go_wp2_with fail
      go_ret
      exact ⟨ret_int (by rw [List.take_length]), hb⟩

set_option maxHeartbeats 400000 in
theorem spec_StepCost_c {o : Bool} {e : TypeId} {xs : List AStep} {v : Value} {F : List Nat} (w : World) (h : (asteps e).rep o w xs [v] F) (hx : xs.length ≤ 1048576) :
    Calls Try.prog 19 #[v] w fun e w' => e = .returned (.int .i64 (cost xs)) ∧ Below w.heap.size w w' := by
  obtain ⟨A, c, rfl, hc1, hc2, hr⟩ := asteps_open h
  go_enter Try.func19, Try.ntmps19
  go_wp2_with fail
  go_loopw [3, 4] (fun c i wr => ∃ k : Nat, k ≤ xs.length ∧ i = .int .i64 k ∧ c = .int .i64 (cost (xs.take k)) ∧ Below w.heap.size w wr) (fun _ i _ => xs.length - (intOf i).toNat)
  case atStart => exact ⟨0, Nat.zero_le _, rfl, rfl, Below.refl _ _⟩
  case round =>
    obtain ⟨k, hk, rfl, rfl, hb⟩ := hrel
    have hl := cost_le (xs.take k)
    have hl2 : (xs.take k).length ≤ k := List.length_take_le _ _
    by_cases hlt : k < xs.length
    · obtain ⟨b, off, rfl, hbb, _, h0, h1, h2, _, _, _⟩ := hr k hlt
      rw [← hb.cell (p := ⟨b, _, none⟩) hbb] at h0 h1 h2
      have H := Lib.hid (cost_take xs k hlt)
      have hbs := hb.size
      clear hr h
      go_wp2_with fail
      all_goals
        go_roundw
        case rel => exact ⟨k + 1, by omega, by go_num, by rw [H.out]; simp_all; try omega, hb⟩
        case measure => simp [intOf]; omega
    · obtain rfl : k = xs.length := by omega
      go_wp2_with fail
      go_ret
      exact ⟨ret_int (by rw [List.take_length]), hb⟩

end Go.Proofs.Ytelkggafmnckoaa
