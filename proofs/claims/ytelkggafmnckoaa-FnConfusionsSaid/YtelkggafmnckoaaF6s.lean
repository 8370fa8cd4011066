/- The laws' own comparison of steps. Conditions: none. -/
import Derived.Test.YtelkggafmnckoaaEvEq
import Derived.Laws.StructEq
namespace Go.Proofs.Ytelkggafmnckoaa
open Go Go.RowKit

theorem astep_neq (s t : AStep) (w : World) : (binOp .neq 67 (.agg #[.int .i64 s.op, .int .i64 s.i, .int .i64 s.j]) (.agg #[.int .i64 t.op, .int .i64 t.i, .int .i64 t.j])).run Try.prog w = .ok (.bool (!decide (s = t))) w := by
  have hS : Try.prog.underlying 67 = some (.struct (Try.prog.fieldsOf 67)) := by kernel_rfl
  have hp : Try.prog.stoodInHeld 67 = false := by kernel_rfl
  rw [run_neq_struct, show (10000 : Nat) = 9999 + 1 from rfl, run_equalIn_agg w 9999 67 _ _ hS hp]
  simp only [Program.fieldsOf, Try.underlying67]
  go_simp
  obtain ⟨a, b, c⟩ := s
  obtain ⟨a', b', c'⟩ := t
  simp only [AStep.mk.injEq]
  by_cases h1 : a = a' <;> by_cases h2 : b = b' <;> by_cases h3 : c = c' <;> simp [h1, h2, h3]
set_option maxRecDepth 100000 in
set_option maxHeartbeats 1000000 in
theorem f6steps_c {oa ob : Bool} {ea eb : TypeId} {xs ys : List AStep} {v u : Value} {F G : List Nat} (w : World) (h : (asteps ea).rep oa w xs [v] F) (h' : (asteps eb).rep ob w ys [u] G) (hx : xs.length ≤ 1048576) (hy : ys.length ≤ 1048576) :
    Calls Try.prog 15 #[v, u] w fun e w' => e = .returned (.bool (decide (xs = ys))) ∧ ∃ n, w' = w.drewN n := by
  obtain ⟨A, c, rfl, hc1, hc2, hr⟩ := asteps_open h
  obtain ⟨B, d, rfl, hd1, hd2, hs⟩ := asteps_open h'
  clear h h'
  by_cases hl : xs.length = ys.length
  · have hne : ((xs.length : Int) != (ys.length : Int)) = false := by simp [hl]
    have HL := Lib.hid hl
    clear hl
    go_enter Try.func15, Try.ntmps15
    go_wp2_with fail
    go_loopw [5] (fun i wr => ∃ k : Nat, k ≤ xs.length ∧ i = .int .i64 k ∧ (∀ j (hj : j < xs.length) (hj' : j < ys.length), j < k → xs[j] = ys[j]) ∧ ∃ m, wr = w.drewN m) (fun i _ => xs.length - (intOf i).toNat)
    case atStart => exact ⟨0, Nat.zero_le _, rfl, fun _ _ _ h => by omega, 0, rfl⟩
    case round =>
      obtain ⟨k, hk, rfl, hall, m, rfl⟩ := hrel
      by_cases hlt : k < xs.length
      · have hlt' : k < ys.length := by have := HL.out; omega
        obtain ⟨b, off, rfl, hbb, _, h0, h1, h2, _⟩ := hr k hlt
        obtain ⟨b', off', rfl, hbb', _, g0, g1, g2, _⟩ := hs k hlt'
        have HA := Lib.hid hall
        clear hr hs hall
        have hm : Try.prog.eqGuardType Try.prog.depth 67 = false := by kernel_rfl
        by_cases hkk : xs[k] = ys[k]
        · have hq := fun w => astep_neq xs[k] ys[k] w
          simp only [decide_eq_true hkk, Bool.not_true] at hq
          have HK := Lib.hid hkk
          clear hkk
          go_wp2_with fail
          go_quiet (fail)
          go_wp2_with fail
          go_roundw
          case rel =>
            refine ⟨k + 1, by omega, by go_num, fun j hj hj' hjk => ?_, _, by first | rfl | exact World.drewN_drewN _ _ _⟩
            by_cases e : j = k
            · subst e; exact HK.out
            · exact HA.out j hj hj' (by omega)
          case measure => simp [intOf]; omega
        · have hq := fun w => astep_neq xs[k] ys[k] w
          simp only [decide_eq_false hkk, Bool.not_false] at hq
          have HK := Lib.hid hkk
          clear hkk
          go_wp2_with fail
          go_quiet (fail)
          go_wp2_with fail
          go_ret
          have hne : ¬ xs = ys := fun e => by subst e; exact HK.out rfl
          exact ⟨by simp [hne], _, by first | rfl | exact World.drewN_drewN _ _ _⟩
      · obtain rfl : k = xs.length := by omega
        have heq : xs = ys := List.ext_getElem HL.out (fun j h1 h2 => hall j h1 h2 h1)
        clear hall
        go_wp2_with fail
        go_ret
        exact ⟨by simp [heq], _, rfl⟩
  · have hne : ((xs.length : Int) != (ys.length : Int)) = true := by rw [bne_iff_ne]; omega
    have hxy : ¬ xs = ys := fun e => hl (by rw [e])
    have HL := Lib.hid hxy
    clear hl hxy
    go_enter Try.func15, Try.ntmps15
    go_wp2_with fail
    go_ret
    exact ⟨by simp [HL.out], 0, rfl⟩
end Go.Proofs.Ytelkggafmnckoaa
