/- The program's alignment: its walk. Conditions: none. -/
import Derived.Test.YtelkggafmnckoaaEvAlign
namespace Go.Proofs.Ytelkggafmnckoaa
open Go Go.RowKit

theorem tab_cells {w1 wq : World} {eo ei : TypeId} {a b : ByteArray} {g : Nat} {G : Nat → Nat} (h : Tab w1 eo ei a b g 0 G) (hb : Below w1.heap.size w1 wq) {x y : Nat} (hx : x ≤ a.size) (hy : y ≤ b.size) :
    wq.cell? ⟨g, x, none⟩ = some (.slice (some ⟨G x, 0, none⟩) (b.size + 1) (b.size + 1)) ∧ wq.cell? ⟨G x, y, none⟩ = some (.int .i64 (D a b x y : Int)) := by
  obtain ⟨h1, _⟩ := h.2 x (Nat.zero_le _) hx
  exact ⟨(hb.cell (p := ⟨g, x, none⟩) h.1.lt).trans (h.1.cell' (orow_get hx (Nat.zero_le _))), (hb.cell (p := ⟨G x, y, none⟩) h1.lt).trans (h1.cell' (ints_get (f := fun y => (D a b x y : Int)) (by omega)))⟩

theorem Try.infoAS : (Try.prog.info? 67).map (fun i => (i.zero, i.size, i.bytes)) = some (some (.agg #[.int .i64 0, .int .i64 0, .int .i64 0]), astep.size, 24) := by kernel_rfl
/-- What alignments return. -/
def GivesSteps (e : TypeId) (xs : List AStep) (w : World) (en : Ending) (w' : World) : Prop :=
  ∃ u F, en = .returned u ∧ (asteps e).rep true w' xs [u] F ∧ Fresh w.heap.size F ∧ Below w.heap.size w w'

theorem below_only {B : Nat} {a b c : World} {F : List Nat} (h : Below B a b) (ho : Only F b c) (hF : ∀ x ∈ F, B ≤ x) (hB : B ≤ b.heap.size) : Below B a c := h.trans (ho.below hB hF)

set_option maxRecDepth 100000 in
set_option maxHeartbeats 400000 in
theorem impl_alignment_c (a b : ByteArray) (w : World) (ha : a.size ≤ 1048576) (hb : b.size ≤ 1048576) :
    Calls Try.prog 43 #[.string a, .string b] w (GivesSteps 67 (align a b) w) := by
  have CA := impl_allows_c a b
  have HCA := Lib.hid CA
  clear CA
  go_enter Try.func43, Try.ntmps43
  go_wp2_with fail
  refine (impl_distances_c a b _ ha hb).mono ?_
  rintro e w1 ⟨g, G, rfl, ht, hb1⟩
  have HT := Lib.hid ht
  have hs1 := hb1.size
  clear ht
  go_wp2_with fail
  go_loopw [6, 7, 8] (fun sv p q wr => ∃ (f i j : Nat) (xs : List AStep) (F : List Nat) (u : Value), u = sv ∧ i ≤ a.size ∧ j ≤ b.size ∧ (a.size - i) + (b.size - j) ≤ f ∧ p = .int .i64 (i : Int) ∧ q = .int .i64 (j : Int) ∧ (asteps 67).rep true wr xs [u] F ∧ Fresh w1.heap.size F ∧ Hid (xs.length + f = a.size + b.size) ∧ Hid (xs ++ alignFrom a b f i j = align a b) ∧ Below w1.heap.size w1 wr) (fun _ p q _ => (a.size - (intOf p).toNat) + (b.size - (intOf q).toNat))
  case atStart =>
    exact ⟨a.size + b.size, 0, 0, [], [], _, rfl, Nat.zero_le _, Nat.zero_le _, by omega, rfl, rfl, slice_nil _ _ _ _, Fresh.nil _, (by show _ = _; simp), (by show _ = _; simp [align]), Below.refl _ _⟩
  case round =>
    obtain ⟨f, i, j, xs, F, u, rfl, hi, hj, hf, rfl, rfl, hrep, hfr, hlen, hal, hbw⟩ := hrel
    have hbs := hbw.size
    by_cases hgo : i < a.size ∨ j < b.size
    · obtain ⟨f', rfl⟩ : ∃ f', f = f' + 1 := ⟨f - 1, by omega⟩
      have hop := opAt_le a b i j
      have HFIT := Lib.hid (fits_opAt hi hj hgo)
      have HAL : Hid (xs ++ (⟨opAt a b i j, i, j⟩ :: alignFrom a b f' (i + passI (opAt a b i j)) (j + passJ (opAt a b i j))) = align a b) := by
        show _ = _; rw [← alignFrom_step hgo]; exact hal.out
      have HREP := Lib.hid hrep
      have HFR := Lib.hid hfr
      clear hal hrep hfr
      have hcases : i < a.size ∨ (¬ i < a.size ∧ j < b.size) := by omega
      clear hgo
      obtain ⟨wo, rfl⟩ : ∃ wo : World, wo = wr := ⟨_, rfl⟩
      rcases hcases with hil | ⟨hil, hjl⟩
      · go_wp2_with fail
        go_loopw [6, 7, 8, 9] (fun sv pi pj p wq => ∃ o : Nat, u = sv ∧ pi = .int .i64 (i : Int) ∧ pj = .int .i64 (j : Int) ∧ o ≤ opAt a b i j ∧ p = .int .i64 (o : Int) ∧ Hid (wq.heap = wo.heap) ∧ Below w1.heap.size w1 wq) (fun _ _ _ p _ => 4 - (intOf p).toNat)
        case atStart => exact ⟨0, rfl, rfl, rfl, Nat.zero_le _, rfl, rfl, hbw⟩
        case round =>
          obtain ⟨o, rfl, rfl, rfl, ho, rfl, hheap, hbq⟩ := hrel
          have ho3 : (o : Int) ≤ 3 := by omega
          have pp := pass_pos o
          have hA := HCA.out i j o
          by_cases hal1 : allowsB a b i j o = true
          · have hle := allows_le hal1
            rw [hal1] at hA
            have HA := Lib.hid hA
            obtain ⟨c1, c2⟩ := tab_cells HT.out hbq hi hj
            obtain ⟨c3, c4⟩ := tab_cells HT.out hbq (x := i + passI o) (y := j + passJ o) hle.1 hle.2
            have d1 := D_le a b i j
            have d2 := D_le a b (i + passI o) (j + passJ o)
            obtain ⟨hle1, hle2⟩ := hle
            have HALO := Lib.hid hal1
            clear hA hal1
            go_wp2_with (first | (go_at_call 48; refine (HA.out _ ha hb hi hj).mono ?_; rintro e w2 ⟨rfl, n, rfl⟩) | (go_at_call 49; refine (impl_passes_c _ _).mono ?_; rintro e w2 ⟨rfl, rfl⟩))
            obtain ⟨wp, HW⟩ : ∃ wp, Hid (wp = wr.drewN n) := ⟨_, rfl⟩
            rw [show wr.drewN n = wp from HW.out.symm]
            have ec : ∀ p, wp.cell? p = wr.cell? p := fun p => by rw [HW.out]; rfl
            rw [← ec] at c1 c2 c3 c4
            have hbp : Below w1.heap.size w1 wp := by rw [HW.out]; exact below_drewN hbq n
            have hhp : Hid (wp.heap = wo.heap) := by show _ = _; rw [HW.out]; exact hheap.out
            clear ec HW hbq hheap HA HCA
            have hm : (if (1 : Int) < (o : Int) then (1 : Int) else (o : Int)) = (opCost o : Int) := by unfold opCost; split <;> split <;> omega
            have hc1 : opCost o ≤ 1 := by unfold opCost; split <;> omega
            have e1 : IntKind.i64.wrap ((i : Int) + (passI (o : Int) : Int)) = (i : Int) + (passI (o : Int) : Int) := IntWalk.i64_in _ (by omega)
            have e2 : ((i : Int) + (passI (o : Int) : Int)).toNat = i + passI (o : Int) := by omega
            have e3 : (0 : Int) ≤ (i : Int) + (passI (o : Int) : Int) := by omega
            have e4 : (i : Int) + (passI (o : Int) : Int) < (a.size : Int) + 1 := by omega
            have e5 : (i : Int) < (a.size : Int) + 1 := by omega
            have f1 : IntKind.i64.wrap ((j : Int) + (passJ (o : Int) : Int)) = (j : Int) + (passJ (o : Int) : Int) := IntWalk.i64_in _ (by omega)
            have f2 : ((j : Int) + (passJ (o : Int) : Int)).toNat = j + passJ (o : Int) := by omega
            have f3 : (0 : Int) ≤ (j : Int) + (passJ (o : Int) : Int) := by omega
            have f4 : (j : Int) + (passJ (o : Int) : Int) < (b.size : Int) + 1 := by omega
            have f5 : (j : Int) < (b.size : Int) + 1 := by omega
            have g1 : IntKind.i64.wrap ((D a b (i + passI (o : Int)) (j + passJ (o : Int)) : Int) + (opCost o : Int)) = (D a b (i + passI (o : Int)) (j + passJ (o : Int)) : Int) + (opCost o : Int) := IntWalk.i64_in _ (by omega)
            by_cases hfit : D a b (i + passI (o : Int)) (j + passJ (o : Int)) + opCost o = D a b i j
            · have g2 : ((D a b (i + passI (o : Int)) (j + passJ (o : Int)) : Int) + (opCost o : Int) == (D a b i j : Int)) = true := by rw [beq_iff_eq]; omega
              have hoe : o = opAt a b i j := by
                have : ¬ o < opAt a b i j := fun h => not_fits h ⟨HALO.out, hfit⟩
                omega
              have HO := Lib.hid hoe
              clear hfit hoe
              go_quiet (fail)
              clear e1 e2 e3 e4 e5 f1 f2 f3 f4 f5 g1 hm
              have RP : (astep.slice 67).rep true wp xs [u] F := Ty.kept _ HREP.out (fun b _ => by rw [hhp.out])
              have HL := hlen.out
              have hok : ∀ s ∈ [(⟨(o : Int), (i : Int), (j : Int)⟩ : AStep)], astepOk s := by
                intro s hs
                simp only [List.mem_singleton] at hs
                subst hs
                exact ⟨⟨by dsimp only; omega, by dsimp only; omega⟩, ⟨by dsimp only; omega, by dsimp only; omega⟩, ⟨by dsimp only; omega, by dsimp only; omega⟩⟩
              have HOK := Lib.hid hok
              have HRP := Lib.hid RP
              have hxl : xs.length ≤ 2097152 := by omega
              clear HL hok RP
              go_wp2_with (at_builtin; refine wpList_append_rep (T := astep) (e := 67) (ys := [⟨(o : Int), (i : Int), (j : Int)⟩]) rfl (.tmp 63) (.tmp 68) rfl Try.underlying28 Try.infoAS rfl (by decide) rfl ((HRP.out.drewN _).alloc _) rfl (repL_astep _ HOK.out) (cellsAt_new _ _ _) (by simp) (by rw [List.append_nil]; exact HFR.out.1) (by simp only [List.length_singleton, maxLen]; omega) (by simp only [List.length_singleton]; omega) ?_; intro v2 w2 F2 r2 o2 q2)
              have hps := hbp.size
              have hbz : Below w1.heap.size w1 ((wp.drewN nq).alloc (.cells #[.int .i64 (o : Int), .int .i64 (i : Int), .int .i64 (j : Int)] 67)) := (below_drewN hbp nq).alloc (by simpa using hps) _
              go_roundw
              case rel =>
                refine ⟨f', i + passI (o : Int), j + passJ (o : Int), xs ++ [({ op := (o : Int), i := (i : Int), j := (j : Int) } : AStep)], F2, v2, rfl, hle1, hle2, by omega, by go_num, by go_num, r2, q2 _ (by rw [List.append_nil]; exact HFR.out) hbz.size, ?_, ?_, below_only hbz o2 HFR.out.2 hbz.size⟩
                · have h := hlen.out
                  show _ = _
                  simp only [List.length_append, List.length_singleton]; omega
                · have h := HAL.out
                  rw [← HO.out] at h
                  show _ = _
                  rw [List.append_assoc]
                  exact h
              case measure => simp [intOf]; omega
            · have g2 : ((D a b (i + passI (o : Int)) (j + passJ (o : Int)) : Int) + (opCost o : Int) == (D a b i j : Int)) = false := by rw [beq_eq_false_iff_ne]; omega
              have hlt : o < opAt a b i j := by
                have : o ≠ opAt a b i j := fun e => hfit (by have := HFIT.out.2; rw [← e] at this; exact this)
                omega
              clear hfit
              go_quiet (fail)
              clear e1 e2 e3 e4 e5 f1 f2 f3 f4 f5 g1 hm
              go_wp2_with fail
              go_roundw
              case rel => exact ⟨o + 1, rfl, rfl, rfl, by omega, by go_num, hhp, below_drewN hbp _⟩
              case measure => simp [intOf]; omega
          · have hal0 : allowsB a b i j o = false := by simpa using hal1
            rw [hal0] at hA
            have HA := Lib.hid hA
            have hlt : o < opAt a b i j := by
              have : o ≠ opAt a b i j := fun e => hal1 (by have := HFIT.out.1; rw [← e] at this; exact this)
              omega
            clear hA hal1 hal0 HCA
            go_wp2_with (first | (go_at_call 48; refine (HA.out _ ha hb hi hj).mono ?_; rintro e w2 ⟨rfl, n, rfl⟩))
            go_roundw
            case rel => exact ⟨o + 1, rfl, rfl, rfl, by omega, by go_num, hheap, below_drewN hbq _⟩
            case measure => simp [intOf]; omega
      · go_wp2_with fail
        go_loopw [6, 7, 8, 9] (fun sv pi pj p wq => ∃ o : Nat, u = sv ∧ pi = .int .i64 (i : Int) ∧ pj = .int .i64 (j : Int) ∧ o ≤ opAt a b i j ∧ p = .int .i64 (o : Int) ∧ Hid (wq.heap = wo.heap) ∧ Below w1.heap.size w1 wq) (fun _ _ _ p _ => 4 - (intOf p).toNat)
        case atStart => exact ⟨0, rfl, rfl, rfl, Nat.zero_le _, rfl, rfl, hbw⟩
        case round =>
          obtain ⟨o, rfl, rfl, rfl, ho, rfl, hheap, hbq⟩ := hrel
          have ho3 : (o : Int) ≤ 3 := by omega
          have pp := pass_pos o
          have hA := HCA.out i j o
          by_cases hal1 : allowsB a b i j o = true
          · have hle := allows_le hal1
            rw [hal1] at hA
            have HA := Lib.hid hA
            obtain ⟨c1, c2⟩ := tab_cells HT.out hbq hi hj
            obtain ⟨c3, c4⟩ := tab_cells HT.out hbq (x := i + passI o) (y := j + passJ o) hle.1 hle.2
            have d1 := D_le a b i j
            have d2 := D_le a b (i + passI o) (j + passJ o)
            obtain ⟨hle1, hle2⟩ := hle
            have HALO := Lib.hid hal1
            clear hA hal1
            go_wp2_with (first | (go_at_call 48; refine (HA.out _ ha hb hi hj).mono ?_; rintro e w2 ⟨rfl, n, rfl⟩) | (go_at_call 49; refine (impl_passes_c _ _).mono ?_; rintro e w2 ⟨rfl, rfl⟩))
            obtain ⟨wp, HW⟩ : ∃ wp, Hid (wp = wr.drewN n) := ⟨_, rfl⟩
            rw [show wr.drewN n = wp from HW.out.symm]
            have ec : ∀ p, wp.cell? p = wr.cell? p := fun p => by rw [HW.out]; rfl
            rw [← ec] at c1 c2 c3 c4
            have hbp : Below w1.heap.size w1 wp := by rw [HW.out]; exact below_drewN hbq n
            have hhp : Hid (wp.heap = wo.heap) := by show _ = _; rw [HW.out]; exact hheap.out
            clear ec HW hbq hheap HA HCA
            have hm : (if (1 : Int) < (o : Int) then (1 : Int) else (o : Int)) = (opCost o : Int) := by unfold opCost; split <;> split <;> omega
            have hc1 : opCost o ≤ 1 := by unfold opCost; split <;> omega
            have e1 : IntKind.i64.wrap ((i : Int) + (passI (o : Int) : Int)) = (i : Int) + (passI (o : Int) : Int) := IntWalk.i64_in _ (by omega)
            have e2 : ((i : Int) + (passI (o : Int) : Int)).toNat = i + passI (o : Int) := by omega
            have e3 : (0 : Int) ≤ (i : Int) + (passI (o : Int) : Int) := by omega
            have e4 : (i : Int) + (passI (o : Int) : Int) < (a.size : Int) + 1 := by omega
            have e5 : (i : Int) < (a.size : Int) + 1 := by omega
            have f1 : IntKind.i64.wrap ((j : Int) + (passJ (o : Int) : Int)) = (j : Int) + (passJ (o : Int) : Int) := IntWalk.i64_in _ (by omega)
            have f2 : ((j : Int) + (passJ (o : Int) : Int)).toNat = j + passJ (o : Int) := by omega
            have f3 : (0 : Int) ≤ (j : Int) + (passJ (o : Int) : Int) := by omega
            have f4 : (j : Int) + (passJ (o : Int) : Int) < (b.size : Int) + 1 := by omega
            have f5 : (j : Int) < (b.size : Int) + 1 := by omega
            have g1 : IntKind.i64.wrap ((D a b (i + passI (o : Int)) (j + passJ (o : Int)) : Int) + (opCost o : Int)) = (D a b (i + passI (o : Int)) (j + passJ (o : Int)) : Int) + (opCost o : Int) := IntWalk.i64_in _ (by omega)
            by_cases hfit : D a b (i + passI (o : Int)) (j + passJ (o : Int)) + opCost o = D a b i j
            · have g2 : ((D a b (i + passI (o : Int)) (j + passJ (o : Int)) : Int) + (opCost o : Int) == (D a b i j : Int)) = true := by rw [beq_iff_eq]; omega
              have hoe : o = opAt a b i j := by
                have : ¬ o < opAt a b i j := fun h => not_fits h ⟨HALO.out, hfit⟩
                omega
              have HO := Lib.hid hoe
              clear hfit hoe
              go_quiet (fail)
              clear e1 e2 e3 e4 e5 f1 f2 f3 f4 f5 g1 hm
              have RP : (astep.slice 67).rep true wp xs [u] F := Ty.kept _ HREP.out (fun b _ => by rw [hhp.out])
              have HL := hlen.out
              have hok : ∀ s ∈ [(⟨(o : Int), (i : Int), (j : Int)⟩ : AStep)], astepOk s := by
                intro s hs
                simp only [List.mem_singleton] at hs
                subst hs
                exact ⟨⟨by dsimp only; omega, by dsimp only; omega⟩, ⟨by dsimp only; omega, by dsimp only; omega⟩, ⟨by dsimp only; omega, by dsimp only; omega⟩⟩
              have HOK := Lib.hid hok
              have HRP := Lib.hid RP
              have hxl : xs.length ≤ 2097152 := by omega
              clear HL hok RP
              go_wp2_with (at_builtin; refine wpList_append_rep (T := astep) (e := 67) (ys := [⟨(o : Int), (i : Int), (j : Int)⟩]) rfl (.tmp 63) (.tmp 68) rfl Try.underlying28 Try.infoAS rfl (by decide) rfl ((HRP.out.drewN _).alloc _) rfl (repL_astep _ HOK.out) (cellsAt_new _ _ _) (by simp) (by rw [List.append_nil]; exact HFR.out.1) (by simp only [List.length_singleton, maxLen]; omega) (by simp only [List.length_singleton]; omega) ?_; intro v2 w2 F2 r2 o2 q2)
              have hps := hbp.size
              have hbz : Below w1.heap.size w1 ((wp.drewN nq).alloc (.cells #[.int .i64 (o : Int), .int .i64 (i : Int), .int .i64 (j : Int)] 67)) := (below_drewN hbp nq).alloc (by simpa using hps) _
              go_roundw
              case rel =>
                refine ⟨f', i + passI (o : Int), j + passJ (o : Int), xs ++ [({ op := (o : Int), i := (i : Int), j := (j : Int) } : AStep)], F2, v2, rfl, hle1, hle2, by omega, by go_num, by go_num, r2, q2 _ (by rw [List.append_nil]; exact HFR.out) hbz.size, ?_, ?_, below_only hbz o2 HFR.out.2 hbz.size⟩
                · have h := hlen.out
                  show _ = _
                  simp only [List.length_append, List.length_singleton]; omega
                · have h := HAL.out
                  rw [← HO.out] at h
                  show _ = _
                  rw [List.append_assoc]
                  exact h
              case measure => simp [intOf]; omega
            · have g2 : ((D a b (i + passI (o : Int)) (j + passJ (o : Int)) : Int) + (opCost o : Int) == (D a b i j : Int)) = false := by rw [beq_eq_false_iff_ne]; omega
              have hlt : o < opAt a b i j := by
                have : o ≠ opAt a b i j := fun e => hfit (by have := HFIT.out.2; rw [← e] at this; exact this)
                omega
              clear hfit
              go_quiet (fail)
              clear e1 e2 e3 e4 e5 f1 f2 f3 f4 f5 g1 hm
              go_wp2_with fail
              go_roundw
              case rel => exact ⟨o + 1, rfl, rfl, rfl, by omega, by go_num, hhp, below_drewN hbp _⟩
              case measure => simp [intOf]; omega
          · have hal0 : allowsB a b i j o = false := by simpa using hal1
            rw [hal0] at hA
            have HA := Lib.hid hA
            have hlt : o < opAt a b i j := by
              have : o ≠ opAt a b i j := fun e => hal1 (by have := HFIT.out.1; rw [← e] at this; exact this)
              omega
            clear hA hal1 hal0 HCA
            go_wp2_with (first | (go_at_call 48; refine (HA.out _ ha hb hi hj).mono ?_; rintro e w2 ⟨rfl, n, rfl⟩))
            go_roundw
            case rel => exact ⟨o + 1, rfl, rfl, rfl, by omega, by go_num, hheap, below_drewN hbq _⟩
            case measure => simp [intOf]; omega
    · obtain rfl : i = a.size := by omega
      obtain rfl : j = b.size := by omega
      have hfin : Hid (xs = align a b) := by
        show _ = _
        have h := hal.out
        rw [alignFrom_end, List.append_nil] at h
        exact h
      have HREP := Lib.hid hrep
      clear hal hrep hgo
      go_wp2_with fail
      go_ret
      exact ⟨u, F, rfl, by rw [← hfin.out]; exact HREP.out, hfr.mono hs1, hb1.trans (hbw.mono hs1)⟩
end Go.Proofs.Ytelkggafmnckoaa
