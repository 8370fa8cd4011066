/- Pages: how many words a line has. Conditions: none. -/
import Derived.Test.YtnlfbobjopmfgaaPgTo
namespace Go.Proofs.Ytnlfbobjopmfgaa
open Go Go.RowKit

set_option maxRecDepth 100000 in
set_option maxHeartbeats 1000000 in
theorem impl_countWords_c {el es : TypeId} {o : Bool} {p : PPage} {v : Value} {F : List Nat} (n : Int) (hn : I64 n) (w : World) (h : PageIs el es o w p v F) (hl : p.lines.length ≤ 1048576) :
    Calls Try.prog 84 #[v, .int .i64 n] w fun e w' => e = .returned (.int .i64 (countW p n)) ∧ Below w.heap.size w w' := by
  obtain ⟨a, b, c, F1, F2, F3, rfl, rfl, h1, h2, h3⟩ := h
  obtain ⟨A, c1, rfl, hc1, hc2, hr⟩ := pLines_open h1
  have W := impl_within_c n 0 ((p.lines.length : Int) - 1)
  have kw : IntKind.i64.wrap ((p.lines.length : Int) - 1) = (p.lines.length : Int) - 1 := IntWalk.i64_in _ (by omega)
  have al : ∀ x, Below w.heap.size w (w.alloc x) := fun x => (Below.refl _ _).alloc (Nat.le_refl _) x
  obtain ⟨A2, k2, rfl⟩ := slice_len h2
  obtain ⟨A3, k3, rfl⟩ := slice_len h3
  clear h1 h2 h3
  cases hin : inR n 0 ((p.lines.length : Int) - 1)
  · have hc : countW p n = -1 := by
      unfold countW; rw [if_neg]; intro hx; simp [inR, hx.1, hx.2] at hin
    rw [hc]
    simp only [hin] at W
    have HW := Lib.hid W
    clear W hin hr
    go_enter Try.func84, Try.ntmps84
    go_wp2_with fail
    refine (HW.out _).mono ?_
    rintro e w1 ⟨rfl, rfl⟩
    go_wp2_with fail
    go_ret
    exact ⟨rfl, al _⟩
  · have hin' := hin
    simp only [inR, Bool.and_eq_true, decide_eq_true_eq] at hin'
    obtain ⟨g1, g2⟩ := hin'
    obtain ⟨k, rfl⟩ := Int.eq_ofNat_of_zero_le g1
    have hk : k < p.lines.length := by omega
    obtain ⟨b', off, u, Fk, rfl, hb, _, hrk, _, h0⟩ := hr k hk
    have hc : countW p (k : Int) = (p.lines[k].length : Int) := by
      unfold countW; rw [if_pos ⟨g1, g2⟩, lineAt_nat hk]
    rw [hc]
    obtain ⟨A', c', rfl⟩ := slice_len hrk
    simp only [hin] at W
    have HW := Lib.hid W
    have k1 : (k : Int) < (p.lines.length : Int) := by omega
    clear W hin hr hrk hc
    go_enter Try.func84, Try.ntmps84
    go_wp2_with fail
    refine (HW.out _).mono ?_
    rintro e w1 ⟨rfl, rfl⟩
    go_wp2_with fail
    go_ret
    exact ⟨rfl, al _⟩
set_option maxRecDepth 100000 in
set_option maxHeartbeats 1000000 in
theorem spec_l27Size_c {el : TypeId} {o : Bool} {p : PPage} {a b c : Value} {F1 : List Nat} {gp : Nat} (n : Int) (hn : I64 n) (w : World) (hg : Row w gp 25 [a, b, c]) (h1 : (pLines el).rep o w p.lines [a] F1) (hl : p.lines.length ≤ 1048576) :
    Calls Try.prog 82 #[.pointer (some ⟨gp, 0, none⟩), .int .i64 n] w fun e w' => e = .returned (.int .i64 (countW p n)) ∧ w = w' := by
  obtain ⟨A, c1, rfl, hc1, hc2, hr⟩ := pLines_open h1
  have W := spec_l00In_c n 0 ((p.lines.length : Int) - 1)
  have kw : IntKind.i64.wrap ((p.lines.length : Int) - 1) = (p.lines.length : Int) - 1 := IntWalk.i64_in _ (by omega)
  have q0 := hg.cell' (i := 0) rfl
  have gl := hg.lt
  clear h1 hg
  cases hin : inR n 0 ((p.lines.length : Int) - 1)
  · have hc : countW p n = -1 := by
      unfold countW; rw [if_neg]; intro hx; simp [inR, hx.1, hx.2] at hin
    rw [hc]
    simp only [hin] at W
    have HW := Lib.hid W
    clear W hin hr
    go_enter Try.func82, Try.ntmps82
    go_wp2_with fail
    refine (HW.out _).mono ?_
    rintro e w1 ⟨rfl, rfl⟩
    go_wp2_with fail
    go_ret
    exact ⟨rfl, rfl⟩
  · have hin' := hin
    simp only [inR, Bool.and_eq_true, decide_eq_true_eq] at hin'
    obtain ⟨g1, g2⟩ := hin'
    obtain ⟨k, rfl⟩ := Int.eq_ofNat_of_zero_le g1
    have hk : k < p.lines.length := by omega
    obtain ⟨b', off, u, Fk, rfl, hb, _, hrk, _, h0⟩ := hr k hk
    have hc : countW p (k : Int) = (p.lines[k].length : Int) := by
      unfold countW; rw [if_pos ⟨g1, g2⟩, lineAt_nat hk]
    rw [hc]
    obtain ⟨A', c', rfl⟩ := slice_len hrk
    simp only [hin] at W
    have HW := Lib.hid W
    have k1 : (k : Int) < (p.lines.length : Int) := by omega
    clear W hin hr hrk hc
    go_enter Try.func82, Try.ntmps82
    go_wp2_with fail
    refine (HW.out _).mono ?_
    rintro e w1 ⟨rfl, rfl⟩
    go_wp2_with fail
    go_ret
    exact ⟨rfl, rfl⟩
end Go.Proofs.Ytnlfbobjopmfgaa
