/- eqAlignStepS. Conditions: none. -/
import Derived.Test.YtjdpmokhhfkplaaEvTo
import Derived.StillTailTactics
import Derived.BigQuiet
import Derived.Deep.QuietTactic
namespace Go.Proofs.Ytjdpmokhhfkplaa
open Go Go.RowKit

set_option maxHeartbeats 400000 in
theorem eqAlignStep_c (s t : AStep) (w : World) :
    Calls Try.prog 65 #[.agg #[.int .i64 s.op, .int .i64 s.i, .int .i64 s.j], .agg #[.int .i64 t.op, .int .i64 t.i, .int .i64 t.j]] w fun e w' => e = .returned (.bool (decide (s = t))) ∧ Below w.heap.size w w' := by
  have e : decide (s = t) = decide (s.op = t.op ∧ s.i = t.i ∧ s.j = t.j) := by apply decide_eq_decide.2; cases s; cases t; simp
  rw [e]
  clear e
  go_enter Try.func65, Try.ntmps65
  go_wp2_with fail
  all_goals go_ret
  all_goals refine ⟨?_, ((Below.refl _ _).alloc (Nat.le_refl _) _).alloc (by simp) _⟩
  all_goals simp_all

def eqSteps : List AStep → List AStep → Bool := fun a b => decide (a = b)
theorem eq_split {α : Type} {a b : List α} (hl : a.length = b.length) : a = b ↔ ∀ k (h : k < a.length), a[k] = b[k] := by
  constructor
  · rintro rfl k h; rfl
  · intro h; exact List.ext_getElem hl (fun k h1 h2 => h k h1)

set_option maxRecDepth 100000 in
set_option maxHeartbeats 400000 in
theorem eqAlignStepS_c {oa ob : Bool} {ea eb : TypeId} {xs ys : List AStep} {v u : Value} {F G : List Nat} (w : World) (h : (asteps ea).rep oa w xs [v] F) (h' : (asteps eb).rep ob w ys [u] G) (hx : xs.length ≤ 1048576) (hy : ys.length ≤ 1048576) :
    Calls Try.prog 26 #[v, u] w fun e w' => e = .returned (.bool (decide (xs = ys))) ∧ Below w.heap.size w w' := by
  obtain ⟨A, c, rfl, hc1, hc2, hr⟩ := asteps_open h
  obtain ⟨B, d, rfl, hd1, hd2, hs⟩ := asteps_open h'
  clear h h'
  by_cases hl : xs.length = ys.length
  · have hne : ((xs.length : Int) != (ys.length : Int)) = false := by simp [hl]
    have HL := Lib.hid hl
    clear hl
    go_enter Try.func26, Try.ntmps26
    go_wp2_with fail
    go_loopw [5] (fun i wr => ∃ k : Nat, k ≤ xs.length ∧ i = .int .i64 k ∧ (∀ j (hj : j < xs.length) (hj' : j < ys.length), j < k → xs[j] = ys[j]) ∧ Below w.heap.size w wr) (fun i _ => xs.length - (intOf i).toNat)
    case atStart => exact ⟨0, Nat.zero_le _, rfl, fun _ _ _ h => by omega, Below.refl _ _⟩
    case round =>
      obtain ⟨k, hk, rfl, hall, hb⟩ := hrel
      have hbs := hb.size
      by_cases hlt : k < xs.length
      · have hlt' : k < ys.length := by have := HL.out; omega
        obtain ⟨b, off, rfl, hbb, _, h0, h1, h2, _, _, _⟩ := hr k hlt
        obtain ⟨b', off', rfl, hbb', _, h0', h1', h2', _, _, _⟩ := hs k hlt'
        rw [← hb.cell (p := ⟨b, _, none⟩) hbb] at h0 h1 h2
        rw [← hb.cell (p := ⟨b', _, none⟩) hbb'] at h0' h1' h2'
        have HA := Lib.hid hall
        clear hr hs hall
        go_wp2_with fail
        go_still_tail 8, (by kernel_rfl)
        go_wp2_with (go_at_call 65; refine (eqAlignStep_c xs[k] ys[k] _).mono ?_; rintro e w1 ⟨rfl, hb1⟩)
        · go_ret
          have hne : ¬ xs = ys := fun e => by subst e; simp_all
          exact ⟨by simp [hne], hb.drew.trans (hb1.mono hbs)⟩
        · go_roundw
          case rel =>
            refine ⟨k + 1, by omega, by go_num, fun j hj hj' hjk => ?_, hb.drew.trans (hb1.mono hbs)⟩
            by_cases e : j = k
            · subst e; simp_all
            · exact HA.out j hj hj' (by omega)
          case measure => simp [intOf]; omega
      · obtain rfl : k = xs.length := by omega
        have heq : xs = ys := List.ext_getElem HL.out (fun j h1 h2 => hall j h1 h2 h1)
        clear hall
        go_wp2_with fail
        go_ret
        exact ⟨by simp [heq], hb⟩
  · have hne : ((xs.length : Int) != (ys.length : Int)) = true := by rw [bne_iff_ne]; omega
    have hxy : ¬ xs = ys := fun e => hl (by rw [e])
    have HL := Lib.hid hxy
    clear hl hxy
    go_enter Try.func26, Try.ntmps26
    go_wp2_with fail
    go_ret
    exact ⟨by simp [HL.out], Below.refl _ _⟩
end Go.Proofs.Ytjdpmokhhfkplaa
