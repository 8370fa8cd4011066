/- The reference's alignment: its walk. Conditions: none. -/
import Derived.Test.YtelkggafmnckoaaEvAlign2
namespace Go.Proofs.Ytelkggafmnckoaa
open Go Go.RowKit

theorem cellsAt_at {g : Nat} (w : World) (e : TypeId) (cs : List Value) (h : g = w.heap.size) : CellsAt (w.alloc (.cells cs.toArray e)) (some ⟨g, 0, none⟩) cs := by
  subst h; exact cellsAt_new _ _ _

theorem size_aa (w : World) (x : Obj) (n : Nat) : ((w.alloc x).drewN n).heap.size = w.heap.size + 1 := by simp
theorem size_asa (w : World) (x : Obj) (n : Nat) (p : Addr) (u : Value) : (((w.alloc x).drewN n).setCell p u).heap.size = w.heap.size + 1 := by simp
theorem below_aa (w : World) (x y : Obj) (n : Nat) : Below w.heap.size w (((w.alloc x).drewN n).alloc y) :=
  (below_drewN ((Below.refl _ _).alloc (Nat.le_refl _) x) n).alloc (by rw [size_aa]; omega) y
theorem below_asa (w : World) (x y : Obj) (n : Nat) {p : Addr} (hp : w.heap.size ≤ p.block) (u : Value) : Below w.heap.size w ((((w.alloc x).drewN n).setCell p u).alloc y) :=
  ((below_drewN ((Below.refl _ _).alloc (Nat.le_refl _) x) n).setCell hp u).alloc (by rw [size_asa]; omega) y

set_option maxRecDepth 100000 in
set_option maxHeartbeats 8000000 in
theorem spec_l25Steps_c (a b : ByteArray) (w : World) (ha : a.size ≤ 1048576) (hb : b.size ≤ 1048576) :
    Calls Try.prog 44 #[.string a, .string b] w (GivesSteps 67 (align a b) w) := by
  go_enter Try.func44, Try.ntmps44
  go_wp2_with fail
  refine (spec_l25Table_c a b _ ha hb).mono ?_
  rintro e w1 ⟨g, G, rfl, ht, hb1⟩
  have HT := Lib.hid ht
  have hs1 := hb1.size
  clear ht
  go_wp2_with fail
  go_loopw [6, 7, 8] (fun sv p q wr => ∃ (f i j : Nat) (xs : List AStep) (F : List Nat) (u : Value), u = sv ∧ i ≤ a.size ∧ j ≤ b.size ∧ (a.size - i) + (b.size - j) ≤ f ∧ p = .int .i64 (i : Int) ∧ q = .int .i64 (j : Int) ∧ (asteps 67).rep true wr xs [u] F ∧ Fresh w1.heap.size F ∧ Hid (xs.length + f = a.size + b.size) ∧ Hid (xs ++ alignFrom a b f i j = align a b) ∧ Below w1.heap.size w1 wr) (fun _ p q _ => (a.size - (intOf p).toNat) + (b.size - (intOf q).toNat))
  case atStart =>
    refine ⟨a.size + b.size, 0, 0, [], [w1.heap.size], _, rfl, Nat.zero_le _, Nat.zero_le _, by omega, rfl, rfl, slice_of_row (xs := []) (Row.new w1 _ #[]) ⟨rfl, rfl⟩ (by simp), ⟨by simp, by simp⟩, (by show _ = _; simp), (by show _ = _; simp [align]), (Below.refl _ _).alloc (Nat.le_refl _) _⟩
  case round =>
    obtain ⟨f, i, j, xs, F, u, rfl, hi, hj, hf, rfl, rfl, hrep, hfr, hlen, hal, hbw⟩ := hrel
    have hbs := hbw.size
    by_cases hgo : i < a.size ∨ j < b.size
    · obtain ⟨f', rfl⟩ : ∃ f', f = f' + 1 := ⟨f - 1, by omega⟩
      have HFIT := Lib.hid (fits_opAt hi hj hgo)
      have HAL : Hid (xs ++ (⟨opAt a b i j, i, j⟩ :: alignFrom a b f' (i + passI (opAt a b i j)) (j + passJ (opAt a b i j))) = align a b) := by
        show _ = _; rw [← alignFrom_step hgo]; exact hal.out
      have HREP := Lib.hid hrep
      have HFR := Lib.hid hfr
      have hxl : xs.length ≤ 2097152 := by have := hlen.out; omega
      have d0 := D_le a b i j
      have d1 := D_le a b (i + 1) (j + 1)
      have d2 := D_le a b (i + 1) j
      have hok : ∀ o : Int, 0 ≤ o → o ≤ 3 → ∀ s ∈ [({ op := o, i := (i : Int), j := (j : Int) } : AStep)], astepOk s := by
        intro o h1 h2 s hs
        simp only [List.mem_singleton] at hs
        subst hs
        exact ⟨⟨by dsimp only; omega, by dsimp only; omega⟩, ⟨by dsimp only; omega, by dsimp only; omega⟩, ⟨by dsimp only; omega, by dsimp only; omega⟩⟩
      have HOK := Lib.hid hok
      have e1 : IntKind.i64.wrap ((i : Int) + 1) = (i : Int) + 1 := IntWalk.i64_in _ (by omega)
      have e2 : ((i : Int) + 1).toNat = i + 1 := by omega
      have e3 : (0 : Int) ≤ (i : Int) + 1 := by omega
      have e5 : (i : Int) < (a.size : Int) + 1 := by omega
      have f1 : IntKind.i64.wrap ((j : Int) + 1) = (j : Int) + 1 := IntWalk.i64_in _ (by omega)
      have f2 : ((j : Int) + 1).toNat = j + 1 := by omega
      have f3 : (0 : Int) ≤ (j : Int) + 1 := by omega
      have f5 : (j : Int) < (b.size : Int) + 1 := by omega
      have g1 : IntKind.i64.wrap ((D a b (i + 1) (j + 1) : Int) + 1) = (D a b (i + 1) (j + 1) : Int) + 1 := IntWalk.i64_in _ (by omega)
      have g2 : IntKind.i64.wrap ((D a b (i + 1) j : Int) + 1) = (D a b (i + 1) j : Int) + 1 := IntWalk.i64_in _ (by omega)
      obtain ⟨c1, c2⟩ := tab_cells HT.out hbw hi hj
      have hgw : g < wr.heap.size := by have := HT.out.1.lt; omega
      have hGi : G i < wr.heap.size := by have := (HT.out.2 i (Nat.zero_le _) hi).1.lt; omega
      clear hal hrep hfr hok
      obtain ⟨wo, rfl⟩ : ∃ wo : World, wo = wr := ⟨_, rfl⟩
      by_cases hil : i < a.size
      · have hil' : (i : Int) < (a.size : Int) := by omega
        have hGi1 : G (i + 1) < wo.heap.size := by have := (HT.out.2 (i + 1) (Nat.zero_le _) hil).1.lt; omega
        obtain ⟨c3, c4⟩ := tab_cells HT.out hbw (x := i + 1) (y := j) hil hj
        by_cases hjl : j < b.size
        · have hjl' : (j : Int) < (b.size : Int) := by omega
          obtain ⟨_, c5⟩ := tab_cells HT.out hbw (x := i + 1) (y := j + 1) hil hjl
          have HS := sameAt_eq hil hjl
          cases hs : sameAt a b i j
          · rw [hs] at HS
            have gs := HS.symm
            have gs' : ((a[i].toNat : Int) != (b[j].toNat : Int)) = true := by rw [bne, gs]; rfl
            clear HS
            by_cases hd : D a b (i + 1) (j + 1) + 1 = D a b i j
            · have t2 : ((D a b i j : Int) == (D a b (i + 1) (j + 1) : Int) + 1) = true := by rw [beq_iff_eq]; omega
              have HO := Lib.hid (show opAt a b i j = 1 by unfold opAt; rw [hs, if_neg (by decide), if_pos ⟨hil, hjl, hd⟩])
              clear hs hd hgo
              go_wp2_with fail
              go_quiet (fail)
              obtain ⟨n1, rfl⟩ : ∃ n1 : Nat, n1 = nq := ⟨_, rfl⟩
              go_wp2_with fail
              go_quiet (fail)
              obtain ⟨n2, rfl⟩ : ∃ n2 : Nat, n2 = nq := ⟨_, rfl⟩
              clear e1 e2 e3 e5 f1 f2 f3 f5 g1 g2
              go_wp2_with (at_builtin; refine wpList_append_rep (T := astep) (e := 67) (ys := [({ op := 1, i := (i : Int), j := (j : Int) } : AStep)]) rfl (.tmp 145) (.tmp 147) rfl Try.underlying28 Try.infoAS rfl (by decide) rfl (Ty.rep.below HREP.out (below_asa _ _ _ _ (Nat.le_refl _) _)) rfl (repL_astep _ (HOK.out 1 (by omega) (by omega))) (cellsAt_at _ _ _ (size_asa _ _ _ _ _).symm) (by simp) (by rw [List.append_nil]; exact HFR.out.1) (by simp only [List.length_singleton, maxLen]; omega) (by simp only [List.length_singleton]; omega) ?_; intro v2 w2 F2 r2 o2 q2)
              have hbz : Below w1.heap.size w1 (((((wo.alloc (.cells #[.int .i64 0, .int .i64 (i : Int), .int .i64 (j : Int)] 67)).drewN (n1 + n2)).setCell ⟨wo.heap.size, 0, none⟩ (.int .i64 1)).alloc (.cells #[.int .i64 1, .int .i64 (i : Int), .int .i64 (j : Int)] 67))) := hbw.trans ((below_asa _ _ _ _ (Nat.le_refl _) _).mono hbs)
              go_roundw
              case rel =>
                refine ⟨f', i + passI ((1 : Nat) : Int), j + passJ ((1 : Nat) : Int), xs ++ [({ op := ((1 : Nat) : Int), i := (i : Int), j := (j : Int) } : AStep)], F2, v2, rfl, ?_, ?_, ?_, by go_num, by go_num, r2, q2 _ (by rw [List.append_nil]; exact HFR.out) hbz.size, ?_, ?_, below_only hbz o2 HFR.out.2 hbz.size⟩
                · show i + 1 ≤ _; omega
                · show j + 1 ≤ _; omega
                · show a.size - (i + 1) + (b.size - (j + 1)) ≤ _; omega
                · have h := hlen.out
                  show _ = _
                  simp only [List.length_append, List.length_singleton]; omega
                · have h := HAL.out
                  rw [HO.out] at h
                  show _ = _
                  rw [List.append_assoc]
                  exact h
              case measure => simp only [intOf]; omega
            · have t2 : ((D a b i j : Int) == (D a b (i + 1) (j + 1) : Int) + 1) = false := by rw [beq_eq_false_iff_ne]; omega
              by_cases hd2 : D a b (i + 1) j + 1 = D a b i j
              · have t3 : ((D a b i j : Int) == (D a b (i + 1) j : Int) + 1) = true := by rw [beq_iff_eq]; omega
                have HO := Lib.hid (show opAt a b i j = 2 by unfold opAt; rw [hs, if_neg (by decide), if_neg (fun h => hd h.2.2), if_pos ⟨hil, hd2⟩])
                clear hs hd hd2 hgo
                go_wp2_with fail
                go_quiet (fail)
                obtain ⟨n1, rfl⟩ : ∃ n1 : Nat, n1 = nq := ⟨_, rfl⟩
                go_wp2_with fail
                go_quiet (fail)
                obtain ⟨n2, rfl⟩ : ∃ n2 : Nat, n2 = nq := ⟨_, rfl⟩
                go_wp2_with fail
                go_quiet (fail)
                obtain ⟨n3, rfl⟩ : ∃ n3 : Nat, n3 = nq := ⟨_, rfl⟩
                clear e1 e2 e3 e5 f1 f2 f3 f5 g1 g2
                go_wp2_with (at_builtin; refine wpList_append_rep (T := astep) (e := 67) (ys := [({ op := 2, i := (i : Int), j := (j : Int) } : AStep)]) rfl (.tmp 145) (.tmp 147) rfl Try.underlying28 Try.infoAS rfl (by decide) rfl (Ty.rep.below HREP.out (below_asa _ _ _ _ (Nat.le_refl _) _)) rfl (repL_astep _ (HOK.out 2 (by omega) (by omega))) (cellsAt_at _ _ _ (size_asa _ _ _ _ _).symm) (by simp) (by rw [List.append_nil]; exact HFR.out.1) (by simp only [List.length_singleton, maxLen]; omega) (by simp only [List.length_singleton]; omega) ?_; intro v2 w2 F2 r2 o2 q2)
                have hbz : Below w1.heap.size w1 (((((wo.alloc (.cells #[.int .i64 0, .int .i64 (i : Int), .int .i64 (j : Int)] 67)).drewN (n1 + n2 + n3)).setCell ⟨wo.heap.size, 0, none⟩ (.int .i64 2)).alloc (.cells #[.int .i64 2, .int .i64 (i : Int), .int .i64 (j : Int)] 67))) := hbw.trans ((below_asa _ _ _ _ (Nat.le_refl _) _).mono hbs)
                go_roundw
                case rel =>
                  refine ⟨f', i + passI ((2 : Nat) : Int), j + passJ ((2 : Nat) : Int), xs ++ [({ op := ((2 : Nat) : Int), i := (i : Int), j := (j : Int) } : AStep)], F2, v2, rfl, ?_, ?_, ?_, by go_num, by go_num, r2, q2 _ (by rw [List.append_nil]; exact HFR.out) hbz.size, ?_, ?_, below_only hbz o2 HFR.out.2 hbz.size⟩
                  · show i + 1 ≤ _; omega
                  · show j + 0 ≤ _; omega
                  · show a.size - (i + 1) + (b.size - (j + 0)) ≤ _; omega
                  · have h := hlen.out
                    show _ = _
                    simp only [List.length_append, List.length_singleton]; omega
                  · have h := HAL.out
                    rw [HO.out] at h
                    show _ = _
                    rw [List.append_assoc]
                    exact h
                case measure => simp only [intOf]; omega
              · have t3 : ((D a b i j : Int) == (D a b (i + 1) j : Int) + 1) = false := by rw [beq_eq_false_iff_ne]; omega
                have HO := Lib.hid (show opAt a b i j = 3 by unfold opAt; rw [hs, if_neg (by decide), if_neg (fun h => hd h.2.2), if_neg (fun h => hd2 h.2)])
                clear hs hd hd2 hgo
                go_wp2_with fail
                go_quiet (fail)
                obtain ⟨n1, rfl⟩ : ∃ n1 : Nat, n1 = nq := ⟨_, rfl⟩
                go_wp2_with fail
                go_quiet (fail)
                obtain ⟨n2, rfl⟩ : ∃ n2 : Nat, n2 = nq := ⟨_, rfl⟩
                go_wp2_with fail
                go_quiet (fail)
                obtain ⟨n3, rfl⟩ : ∃ n3 : Nat, n3 = nq := ⟨_, rfl⟩
                clear e1 e2 e3 e5 f1 f2 f3 f5 g1 g2
                go_wp2_with (at_builtin; refine wpList_append_rep (T := astep) (e := 67) (ys := [({ op := 3, i := (i : Int), j := (j : Int) } : AStep)]) rfl (.tmp 145) (.tmp 147) rfl Try.underlying28 Try.infoAS rfl (by decide) rfl (Ty.rep.below HREP.out (below_asa _ _ _ _ (Nat.le_refl _) _)) rfl (repL_astep _ (HOK.out 3 (by omega) (by omega))) (cellsAt_at _ _ _ (size_asa _ _ _ _ _).symm) (by simp) (by rw [List.append_nil]; exact HFR.out.1) (by simp only [List.length_singleton, maxLen]; omega) (by simp only [List.length_singleton]; omega) ?_; intro v2 w2 F2 r2 o2 q2)
                have hbz : Below w1.heap.size w1 (((((wo.alloc (.cells #[.int .i64 0, .int .i64 (i : Int), .int .i64 (j : Int)] 67)).drewN (n1 + n2 + n3)).setCell ⟨wo.heap.size, 0, none⟩ (.int .i64 3)).alloc (.cells #[.int .i64 3, .int .i64 (i : Int), .int .i64 (j : Int)] 67))) := hbw.trans ((below_asa _ _ _ _ (Nat.le_refl _) _).mono hbs)
                go_roundw
                case rel =>
                  refine ⟨f', i + passI ((3 : Nat) : Int), j + passJ ((3 : Nat) : Int), xs ++ [({ op := ((3 : Nat) : Int), i := (i : Int), j := (j : Int) } : AStep)], F2, v2, rfl, ?_, ?_, ?_, by go_num, by go_num, r2, q2 _ (by rw [List.append_nil]; exact HFR.out) hbz.size, ?_, ?_, below_only hbz o2 HFR.out.2 hbz.size⟩
                  · show i + 0 ≤ _; omega
                  · show j + 1 ≤ _; omega
                  · show a.size - (i + 0) + (b.size - (j + 1)) ≤ _; omega
                  · have h := hlen.out
                    show _ = _
                    simp only [List.length_append, List.length_singleton]; omega
                  · have h := HAL.out
                    rw [HO.out] at h
                    show _ = _
                    rw [List.append_assoc]
                    exact h
                case measure => simp only [intOf]; omega
          · rw [hs] at HS
            have gs := HS.symm
            have t1 : ((D a b i j : Int) == (D a b (i + 1) (j + 1) : Int)) = true := by rw [beq_iff_eq, D_same hil hjl hs]
            have HO := Lib.hid (show opAt a b i j = 0 by unfold opAt; rw [hs, if_pos rfl])
            clear hs hgo HS
            go_wp2_with fail
            go_quiet (fail)
            obtain ⟨n1, rfl⟩ : ∃ n1 : Nat, n1 = nq := ⟨_, rfl⟩
            clear e1 e2 e3 e5 f1 f2 f3 f5 g1 g2
            go_wp2_with (at_builtin; refine wpList_append_rep (T := astep) (e := 67) (ys := [({ op := 0, i := (i : Int), j := (j : Int) } : AStep)]) rfl (.tmp 145) (.tmp 147) rfl Try.underlying28 Try.infoAS rfl (by decide) rfl (Ty.rep.below HREP.out (below_aa _ _ _ _)) rfl (repL_astep _ (HOK.out 0 (by omega) (by omega))) (cellsAt_at _ _ _ (size_aa _ _ _).symm) (by simp) (by rw [List.append_nil]; exact HFR.out.1) (by simp only [List.length_singleton, maxLen]; omega) (by simp only [List.length_singleton]; omega) ?_; intro v2 w2 F2 r2 o2 q2)
            have hbz : Below w1.heap.size w1 (((wo.alloc (.cells #[.int .i64 0, .int .i64 (i : Int), .int .i64 (j : Int)] 67)).drewN (n1)).alloc (.cells #[.int .i64 0, .int .i64 (i : Int), .int .i64 (j : Int)] 67)) := hbw.trans ((below_aa _ _ _ _).mono hbs)
            go_roundw
            case rel =>
              refine ⟨f', i + passI ((0 : Nat) : Int), j + passJ ((0 : Nat) : Int), xs ++ [({ op := ((0 : Nat) : Int), i := (i : Int), j := (j : Int) } : AStep)], F2, v2, rfl, ?_, ?_, ?_, by go_num, by go_num, r2, q2 _ (by rw [List.append_nil]; exact HFR.out) hbz.size, ?_, ?_, below_only hbz o2 HFR.out.2 hbz.size⟩
              · show i + 1 ≤ _; omega
              · show j + 1 ≤ _; omega
              · show a.size - (i + 1) + (b.size - (j + 1)) ≤ _; omega
              · have h := hlen.out
                show _ = _
                simp only [List.length_append, List.length_singleton]; omega
              · have h := HAL.out
                rw [HO.out] at h
                show _ = _
                rw [List.append_assoc]
                exact h
            case measure => simp only [intOf]; omega
        · have hjf : decide ((j : Int) < (b.size : Int)) = false := by simp; omega
          have hjn : ¬ (j : Int) < (b.size : Int) := by omega
          have hj2 : j = b.size := by omega
          have hd2 : D a b (i + 1) j + 1 = D a b i j := by rw [hj2, D_lastJ, D_lastJ]; omega
          have t3 : ((D a b i j : Int) == (D a b (i + 1) j : Int) + 1) = true := by rw [beq_iff_eq]; omega
          have hs : ¬ sameAt a b i j = true := fun h => hjl (sameAt_lt h).2
          have HO := Lib.hid (show opAt a b i j = 2 by unfold opAt; rw [if_neg hs, if_neg (fun h => hjl h.2.1), if_pos ⟨hil, hd2⟩])
          clear hs hd2 hgo hj2
          go_wp2_with fail
          go_quiet (fail)
          obtain ⟨n1, rfl⟩ : ∃ n1 : Nat, n1 = nq := ⟨_, rfl⟩
          go_wp2_with fail
          go_quiet (fail)
          obtain ⟨n2, rfl⟩ : ∃ n2 : Nat, n2 = nq := ⟨_, rfl⟩
          go_wp2_with fail
          go_quiet (fail)
          obtain ⟨n3, rfl⟩ : ∃ n3 : Nat, n3 = nq := ⟨_, rfl⟩
          clear e1 e2 e3 e5 f1 f2 f3 f5 g1 g2
          go_wp2_with (at_builtin; refine wpList_append_rep (T := astep) (e := 67) (ys := [({ op := 2, i := (i : Int), j := (j : Int) } : AStep)]) rfl (.tmp 145) (.tmp 147) rfl Try.underlying28 Try.infoAS rfl (by decide) rfl (Ty.rep.below HREP.out (below_asa _ _ _ _ (Nat.le_refl _) _)) rfl (repL_astep _ (HOK.out 2 (by omega) (by omega))) (cellsAt_at _ _ _ (size_asa _ _ _ _ _).symm) (by simp) (by rw [List.append_nil]; exact HFR.out.1) (by simp only [List.length_singleton, maxLen]; omega) (by simp only [List.length_singleton]; omega) ?_; intro v2 w2 F2 r2 o2 q2)
          have hbz : Below w1.heap.size w1 (((((wo.alloc (.cells #[.int .i64 0, .int .i64 (i : Int), .int .i64 (j : Int)] 67)).drewN (n1 + n2 + n3)).setCell ⟨wo.heap.size, 0, none⟩ (.int .i64 2)).alloc (.cells #[.int .i64 2, .int .i64 (i : Int), .int .i64 (j : Int)] 67))) := hbw.trans ((below_asa _ _ _ _ (Nat.le_refl _) _).mono hbs)
          go_roundw
          case rel =>
            refine ⟨f', i + passI ((2 : Nat) : Int), j + passJ ((2 : Nat) : Int), xs ++ [({ op := ((2 : Nat) : Int), i := (i : Int), j := (j : Int) } : AStep)], F2, v2, rfl, ?_, ?_, ?_, by go_num, by go_num, r2, q2 _ (by rw [List.append_nil]; exact HFR.out) hbz.size, ?_, ?_, below_only hbz o2 HFR.out.2 hbz.size⟩
            · show i + 1 ≤ _; omega
            · show j + 0 ≤ _; omega
            · show a.size - (i + 1) + (b.size - (j + 0)) ≤ _; omega
            · have h := hlen.out
              show _ = _
              simp only [List.length_append, List.length_singleton]; omega
            · have h := HAL.out
              rw [HO.out] at h
              show _ = _
              rw [List.append_assoc]
              exact h
          case measure => simp only [intOf]; omega
      · have hif : decide ((i : Int) < (a.size : Int)) = false := by simp; omega
        have hin : ¬ (i : Int) < (a.size : Int) := by omega
        have hjl : j < b.size := by omega
        have hjl' : (j : Int) < (b.size : Int) := by omega
        have hs : ¬ sameAt a b i j = true := fun h => hil (sameAt_lt h).1
        have HO := Lib.hid (show opAt a b i j = 3 by unfold opAt; rw [if_neg hs, if_neg (fun h => hil h.1), if_neg (fun h => hil h.1)])
        clear hs hgo
        go_wp2_with fail
        go_quiet (fail)
        obtain ⟨n1, rfl⟩ : ∃ n1 : Nat, n1 = nq := ⟨_, rfl⟩
        go_wp2_with fail
        go_quiet (fail)
        obtain ⟨n2, rfl⟩ : ∃ n2 : Nat, n2 = nq := ⟨_, rfl⟩
        go_wp2_with fail
        go_quiet (fail)
        obtain ⟨n3, rfl⟩ : ∃ n3 : Nat, n3 = nq := ⟨_, rfl⟩
        clear e1 e2 e3 e5 f1 f2 f3 f5 g1 g2
        go_wp2_with (at_builtin; refine wpList_append_rep (T := astep) (e := 67) (ys := [({ op := 3, i := (i : Int), j := (j : Int) } : AStep)]) rfl (.tmp 145) (.tmp 147) rfl Try.underlying28 Try.infoAS rfl (by decide) rfl (Ty.rep.below HREP.out (below_asa _ _ _ _ (Nat.le_refl _) _)) rfl (repL_astep _ (HOK.out 3 (by omega) (by omega))) (cellsAt_at _ _ _ (size_asa _ _ _ _ _).symm) (by simp) (by rw [List.append_nil]; exact HFR.out.1) (by simp only [List.length_singleton, maxLen]; omega) (by simp only [List.length_singleton]; omega) ?_; intro v2 w2 F2 r2 o2 q2)
        have hbz : Below w1.heap.size w1 (((((wo.alloc (.cells #[.int .i64 0, .int .i64 (i : Int), .int .i64 (j : Int)] 67)).drewN (n1 + n2 + n3)).setCell ⟨wo.heap.size, 0, none⟩ (.int .i64 3)).alloc (.cells #[.int .i64 3, .int .i64 (i : Int), .int .i64 (j : Int)] 67))) := hbw.trans ((below_asa _ _ _ _ (Nat.le_refl _) _).mono hbs)
        go_roundw
        case rel =>
          refine ⟨f', i + passI ((3 : Nat) : Int), j + passJ ((3 : Nat) : Int), xs ++ [({ op := ((3 : Nat) : Int), i := (i : Int), j := (j : Int) } : AStep)], F2, v2, rfl, ?_, ?_, ?_, by go_num, by go_num, r2, q2 _ (by rw [List.append_nil]; exact HFR.out) hbz.size, ?_, ?_, below_only hbz o2 HFR.out.2 hbz.size⟩
          · show i + 0 ≤ _; omega
          · show j + 1 ≤ _; omega
          · show a.size - (i + 0) + (b.size - (j + 1)) ≤ _; omega
          · have h := hlen.out
            show _ = _
            simp only [List.length_append, List.length_singleton]; omega
          · have h := HAL.out
            rw [HO.out] at h
            show _ = _
            rw [List.append_assoc]
            exact h
        case measure => simp only [intOf]; omega
    · obtain rfl : i = a.size := by omega
      obtain rfl : j = b.size := by omega
      have hfin : Hid (xs = align a b) := by
        show _ = _
        have h := hal.out
        rw [alignFrom_end, List.append_nil] at h
        exact h
      have HREP := Lib.hid hrep
      clear hal hrep hgo
      go_wp2_with fail
      go_ret
      exact ⟨u, F, rfl, by rw [← hfin.out]; exact HREP.out, hfr.mono hs1, hb1.trans (hbw.mono hs1)⟩
end Go.Proofs.Ytelkggafmnckoaa
