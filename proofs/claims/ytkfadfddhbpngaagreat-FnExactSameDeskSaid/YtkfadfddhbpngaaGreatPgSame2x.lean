/- Pages: two pages are equal, in the reference. Conditions: none. -/
import Derived.Test.YtkfadfddhbpngaaGreatPgSamex
import Derived.Test.YtkfadfddhbpngaaGreatPgDox
import Derived.Deep.RegionWith
namespace Go.Proofs.YtkfadfddhbpngaaGreat
open Go Go.RowKit

theorem quietB {P : Program} {f : FuncId} {args : Array Value} {w : World} {m x : Nat} {b : Bool} (h : Calls P f args (w.drewN (m + x)) (GivesB b (w.drewN (m + x)))) : Calls P f args (w.drewN (m + x)) fun e w'' => e = .returned (.bool b) ∧ ∃ n, w'' = w.drewN (m + n) :=
 h.mono fun _ _ ⟨he, k, hk⟩ => ⟨he, x + k, by rw [hk, World.drewN_drewN, Nat.add_assoc]⟩
set_option maxRecDepth 100000 in
set_option maxHeartbeats 4000000 in
theorem spec_l27SameF_c {el es el' es' : TypeId} {o o' : Bool} {p q : PPage} {a b c a' b' c' : Value} {F1 F2 F3 F1' F2' F3' : List Nat} {gp gq f f' : Nat} (w : World) (p0 : w.cell? ⟨gp, f, none⟩ = some a) (p1 : w.cell? ⟨gp, f + 1, none⟩ = some b) (p2 : w.cell? ⟨gp, f + 2, none⟩ = some c) (q0 : w.cell? ⟨gq, f', none⟩ = some a') (q1 : w.cell? ⟨gq, f' + 1, none⟩ = some b') (q2 : w.cell? ⟨gq, f' + 2, none⟩ = some c')
 (h1 : (pLines el).rep o w p.lines [a] F1) (h2 : (pSteps es).rep o w p.done [b] F2) (h3 : (pSteps es).rep o w p.undone [c] F3) (g1 : (pLines el').rep o' w q.lines [a'] F1') (g2 : (pSteps es').rep o' w q.done [b'] F2') (g3 : (pSteps es').rep o' w q.undone [c'] F3') (hp : PSmall p) (hq : PSmall q) :
 Calls Tryz.prog 30 #[.pointer (some ⟨gp, f, none⟩), .pointer (some ⟨gq, f', none⟩)] w (GivesB (decide (p = q)) w) := by
 rw [page_eq]
 generalize hD : (decide (p.lines = q.lines) && (decide (p.done = q.done) && decide (p.undone = q.undone))) = D
 have HD := Lib.hid hD
 clear hD
 have C2 := fun (w' : World) (hw : w'.heap = w.heap) => spec_l27SameSteps_c w' (ty_heap h2 hw) (ty_heap g2 hw) hp.d hq.d
 have C3 := fun (w' : World) (hw : w'.heap = w.heap) => spec_l27SameSteps_c w' (ty_heap h3 hw) (ty_heap g3 hw) hp.u hq.u
 obtain ⟨A1, k1, rfl, _, _, hr⟩ := pLines_open h1
 obtain ⟨B1, l1, rfl, _, _, hs⟩ := pLines_open g1
 obtain ⟨A2, k2, rfl⟩ := slice_len h2
 obtain ⟨A3, k3, rfl⟩ := slice_len h3
 obtain ⟨B2, l2, rfl⟩ := slice_len g2
 obtain ⟨B3, l3, rfl⟩ := slice_len g3
 have hx := hp.l
 have hy := hq.l
 clear h1 h2 h3 g1 g2 g3
 by_cases hl : p.lines.length = q.lines.length
 · have hne : ((p.lines.length : Int) != (q.lines.length : Int)) = false := by simp [hl]
   have HL := Lib.hid hl
   clear hl
   go_enter Tryz.func30, Tryz.ntmps30
   go_wp2_with fail
   go_quiet (fail)
   obtain ⟨n0, rfl⟩ : ∃ n : Nat, n = nq := ⟨_, rfl⟩
   go_wp2_with fail
   go_loopw [5] (fun i wr => ∃ k : Nat, k ≤ p.lines.length ∧ i = .int .i64 k ∧ (∀ j (hj : j < p.lines.length) (hj' : j < q.lines.length), j < k → p.lines[j] = q.lines[j]) ∧ ∃ m, wr = w.drewN m) (fun i _ => p.lines.length - (intOf i).toNat)
   case atStart => exact ⟨0, Nat.zero_le _, rfl, fun _ _ _ h => by omega, _, rfl⟩
   case round =>
    obtain ⟨k, hk, rfl, hall, m, rfl⟩ := hrel
    by_cases hlt : k < p.lines.length
    · have hlt' : k < q.lines.length := by have := HL.out; omega
      obtain ⟨b, off, v1, G1, rfl, hbb, _, R1, _, h0⟩ := hr k hlt
      obtain ⟨b', off', v2, G2, rfl, hbb', _, R2, _, g0⟩ := hs k hlt'
      have L1 := hp.w _ (List.getElem_mem hlt)
      have L2 := hq.w _ (List.getElem_mem hlt')
      have C := fun (w' : World) (hw : w'.heap = w.heap) => spec_l26SameWords_c w' (ty_heap R1 hw) (ty_heap R2 hw) L1 L2
      have HA := Lib.hid hall
      have gk1 : (k : Int) < (p.lines.length : Int) := by omega
      have gk2 : (k : Int) < (q.lines.length : Int) := by omega
      clear hr hs hall R1 R2 C2 C3
      by_cases hkk : p.lines[k] = q.lines[k]
      · simp only [decide_eq_true hkk] at C
        have HC := Lib.hid C
        have HK := Lib.hid hkk
        clear C hkk
        go_wp2_with fail
        go_quiet ((go_at_call 81; exact quietB (HC.out _ rfl)))
        go_wp2_with fail
        go_roundw
        case rel =>
         refine ⟨k + 1, by omega, by go_num, fun j hj hj' hjk => ?_, _, by first | rfl | exact World.drewN_drewN _ _ _⟩
         by_cases e : j = k
         · subst e; exact HK.out
         · exact HA.out j hj hj' (by omega)
        case measure => simp [intOf]; omega
      · simp only [decide_eq_false hkk] at C
        have HC := Lib.hid C
        have HK := Lib.hid hkk
        clear C hkk
        go_wp2_with fail
        go_quiet ((go_at_call 81; exact quietB (HC.out _ rfl)))
        go_wp2_with fail
        go_ret
        have hne : ¬ p.lines = q.lines := fun e => HK.out (by simp [e])
        exact ⟨by rw [← HD.out]; simp [hne], _, by first | rfl | exact World.drewN_drewN _ _ _⟩
    · obtain rfl : k = p.lines.length := by omega
      have heq : p.lines = q.lines := List.ext_getElem HL.out (fun j h1 h2 => hall j h1 h2 h1)
      have HE := HD.out
      rw [decide_eq_true heq] at HE
      clear HD
      clear hall hr hs heq
      generalize decide (p.done = q.done) = d2 at HE C2
      generalize decide (p.undone = q.undone) = d3 at HE C3
      have HD := Lib.hid HE
      clear HE
      have H2 := Lib.hid C2
      have H3 := Lib.hid C3
      clear C2 C3
      cases d2
      · go_wp2_with fail
        go_quiet ((go_at_call 82; exact quietB (H2.out _ rfl)))
        go_wp2_with fail
        go_ret
        exact ⟨by rw [← HD.out]; rfl, _, by first | rfl | exact World.drewN_drewN _ _ _⟩
      · go_wp2_with fail
        go_quiet (first | (go_at_call_of 82 (Value.slice A2 p.done.length k2); exact quietB (H2.out _ rfl)) | (go_at_call_of 82 (Value.slice A3 p.undone.length k3); exact quietB (H3.out _ rfl)))
        go_wp2_with fail
        go_ret
        exact ⟨by rw [← HD.out]; simp, _, by first | rfl | exact World.drewN_drewN _ _ _⟩
 · have hne : ((p.lines.length : Int) != (q.lines.length : Int)) = true := by rw [bne_iff_ne]; omega
   have hxy : ¬ p.lines = q.lines := fun e => hl (by rw [e])
   have HL := Lib.hid hxy
   clear hl hxy C2 C3 hr hs
   go_enter Tryz.func30, Tryz.ntmps30
   go_wp2_with fail
   go_quiet (fail)
   go_wp2_with fail
   go_ret
   exact ⟨by rw [← HD.out]; simp [HL.out], _, by first | rfl | exact World.drewN_drewN _ _ _⟩
end Go.Proofs.YtkfadfddhbpngaaGreat
