/- CommonLength. Conditions: none. -/
import Derived.Test.YtelkggafmnckoaaEvAl
import Derived.Test.YtelkggafmnckoaaFind
namespace Go.Proofs.Ytelkggafmnckoaa
open Go Go.RowKit

/-- The greatest number of bytes left of the first i and the first k bytes. -/
def lcs (a b : ByteArray) : Nat → Nat → Nat
  | 0, _ => 0
  | _ + 1, 0 => 0
  | i + 1, k + 1 => if sameAt a b i k then lcs a b i k + 1 else max (lcs a b (i + 1) k) (lcs a b i (k + 1))
termination_by i k => (i, k)
theorem lcs_zero (a b : ByteArray) (k : Nat) : lcs a b 0 k = 0 := by rw [lcs]
theorem lcs_zero' (a b : ByteArray) (i : Nat) : lcs a b i 0 = 0 := by cases i <;> rw [lcs]
theorem lcs_step (a b : ByteArray) (i k : Nat) : lcs a b (i + 1) (k + 1) = if sameAt a b i k then lcs a b i k + 1 else max (lcs a b (i + 1) k) (lcs a b i (k + 1)) := by rw [lcs]
theorem lcs_le (a b : ByteArray) : ∀ i k, lcs a b i k ≤ i + k
  | 0, k => by rw [lcs_zero]; omega
  | i + 1, 0 => by rw [lcs_zero']; omega
  | i + 1, k + 1 => by
    have h1 := lcs_le a b i k
    have h2 := lcs_le a b (i + 1) k
    have h3 := lcs_le a b i (k + 1)
    rw [lcs_step]
    split <;> omega
termination_by i k => (i, k)

/-- A row of numbers by its index. -/
def ints (n : Nat) (f : Nat → Int) : List Value := (List.range n).map fun x => .int .i64 (f x)
theorem ints_len (n : Nat) (f : Nat → Int) : (ints n f).length = n := by simp [ints]
theorem ints_get {n : Nat} {f : Nat → Int} {x : Nat} (h : x < n) : (ints n f)[x]? = some (.int .i64 (f x)) := by simp [ints, h]
theorem ints_set {n : Nat} {f : Nat → Int} (x : Nat) (v : Int) : (ints n f).set x (.int .i64 v) = ints n (fun y => if y = x then v else f y) := by
  apply List.ext_getElem
  · simp [ints]
  · intro y h1 h2
    simp [ints] at h1
    rw [List.getElem_set]
    simp [ints]
    by_cases e : x = y
    · subst e; simp
    · have e' : ¬ y = x := fun h => e h.symm
      simp [e, e']
theorem ints_congr {n : Nat} {f g : Nat → Int} (h : ∀ x, x < n → f x = g x) : ints n f = ints n g := by
  apply List.map_congr_left
  intro x hx
  rw [h x (by simpa using hx)]
theorem madeCells_ints (n : Nat) : (madeCells #[Value.int .i64 0] (n * 1)).toList = ints n (fun _ => 0) := by
  rw [Nat.mul_one, toList_madeCells_one]
  apply List.ext_getElem <;> simp [ints]

/-- The row that the program keeps: new numbers up to j, old ones behind. -/
def lrow (a b : ByteArray) (i j : Nat) : Nat → Int := fun x => if x ≤ j then lcs a b (i + 1) x else lcs a b i x

set_option maxRecDepth 100000 in
set_option maxHeartbeats 1000000 in
theorem impl_CommonLength_c (a b : ByteArray) (w : World) (ha : a.size ≤ 1048576) (hb : b.size ≤ 1048576) :
    Calls Try.prog 13 #[.string a, .string b] w fun e w' => (if shortB a && shortB b then e = .returned (.tuple #[.int .i64 (lcs a b a.size b.size : Int), .int .i64 0]) else e = .returned (.tuple #[.int .i64 0, .int .i64 5])) ∧ Below w.heap.size w w' := by
  have hrep : (strs 9).rep true (w.alloc (.cells #[.string a, .string b] 9)) [a, b] [.slice (some ⟨w.heap.size, 0, none⟩) 2 2] [w.heap.size] :=
    slice_of_row (xs := [a, b]) (Row.new w _ _) (repL_strs _ (by intro s hs; simp at hs; unfold maxLen; rcases hs with rfl | rfl <;> omega)) (by simp [maxLen])
  have hs := impl_short_c _ hrep (by simp)
  cases hsh : [a, b].all shortB
  · rw [hsh] at hs
    have H := Lib.hid hs
    have hsh' : (shortB a && shortB b) = false := by simpa using hsh
    rw [hsh']
    clear hrep hs hsh hsh'
    go_enter Try.func13, Try.ntmps13
    go_wp2_with fail
    refine H.out.mono ?_
    rintro e w1 ⟨rfl, hb1⟩
    go_wp2_with fail
    go_ret2
    exact ⟨rfl, (((Below.refl _ _).alloc (Nat.le_refl _) _).trans (hb1.mono (by simp)))⟩
  · rw [hsh] at hs
    have H := Lib.hid hs
    have hsh' : (shortB a && shortB b) = true := by simpa using hsh
    have hab : a.size ≤ 40 ∧ b.size ≤ 40 := by simpa [shortB] using hsh'
    rw [hsh']
    obtain ⟨ha', hb'⟩ := hab
    have hmk := make_run (P := Try.prog) (t := 68) (e := 2) (z := .int .i64 0) (size := 1) (bytes := 8) Try.underlying68 (by kernel_rfl) (b.size + 1) ((b.size : Int) + 1) (by omega) (by omega) (by unfold maxLen; omega)
    clear hrep hs hsh hsh' ha hb
    go_enter Try.func13, Try.ntmps13
    go_wp2_with fail
    refine H.out.mono ?_
    rintro e w1 ⟨rfl, hb1⟩
    have hc1 : Below w.heap.size w w1 := ((Below.refl _ _).alloc (Nat.le_refl _) _).trans (hb1.mono (by simp))
    have hs1 := hc1.size
    clear H hb1
    go_wp2_with fail
    go_loopw [22] (fun n wr => ∃ i : Nat, i ≤ a.size ∧ n = .int .i64 i ∧ Row wr w1.heap.size 2 (ints (b.size + 1) (fun x => lcs a b i x)) ∧ Below w1.heap.size w1 wr) (fun n _ => a.size - (intOf n).toNat)
    case atStart =>
      refine ⟨0, Nat.zero_le _, rfl, ?_, (Below.refl _ _).alloc (Nat.le_refl _) _⟩
      have R := Row.new w1 2 (madeCells #[Value.int .i64 0] ((b.size + 1) * 1))
      rw [madeCells_ints, Nat.mul_one] at R
      rw [ints_congr (g := fun _ => 0) (fun x _ => by rw [lcs_zero]; rfl)]
      exact R
    case round =>
      obtain ⟨i, hi, rfl, hrow, hbw⟩ := hrel
      have hbs := hbw.size
      by_cases hlt : i < a.size
      · have HROW := Lib.hid hrow
        clear hrow hmk
        go_wp2_with fail
        obtain ⟨wo, rfl⟩ : ∃ wo : World, wo = wr := ⟨_, rfl⟩
        go_loopw [8, 27] (fun p n wq => ∃ j : Nat, j ≤ b.size ∧ n = .int .i64 j ∧ p = .int .i64 (lcs a b i j : Int) ∧ Row wq w1.heap.size 2 (ints (b.size + 1) (lrow a b i j)) ∧ Below w1.heap.size w1 wq) (fun _ n _ => b.size - (intOf n).toNat)
        case atStart =>
          refine ⟨0, Nat.zero_le _, rfl, by rw [lcs_zero']; rfl, ?_, hbw⟩
          rw [ints_congr (g := fun x => (lcs a b i x : Int)) (fun x _ => by unfold lrow; split; (rename_i h; have : x = 0 := by omega); subst this; rw [lcs_zero', lcs_zero']; rfl)]
          exact HROW.out
        case round =>
          obtain ⟨j, hj, rfl, rfl, hrj, hbq⟩ := hrel
          have hbqs := hbq.size
          have hl1 := lcs_le a b i j
          have hl2 := lcs_le a b i (j + 1)
          have hl3 := lcs_le a b (i + 1) j
          by_cases hjl : j < b.size
          · have hc1 := hrj.cell' (ints_get (f := lrow a b i j) (n := b.size + 1) (x := j + 1) (by omega))
            have hc0 := hrj.cell' (ints_get (f := lrow a b i j) (n := b.size + 1) (x := j) (by omega))
            have hf1 := hrj.frozen (j + 1)
            rw [show lrow a b i j (j + 1) = (lcs a b i (j + 1) : Int) by unfold lrow; rw [if_neg (by omega)]] at hc1
            rw [show lrow a b i j j = (lcs a b (i + 1) j : Int) by unfold lrow; rw [if_pos (by omega)]] at hc0
            have HS := sameAt_eq hlt hjl
            have HL := lcs_step a b i j
            have NEXT : ∀ v : Int, v = lcs a b (i + 1) (j + 1) → ints (b.size + 1) (fun y => if y = j + 1 then v else lrow a b i j y) = ints (b.size + 1) (lrow a b i (j + 1)) := by
              intro v hv
              apply ints_congr
              intro x _
              unfold lrow
              by_cases e : x = j + 1
              · subst e; simp [hv]
              · rw [if_neg e]
                by_cases h : x ≤ j
                · rw [if_pos h, if_pos (by omega)]
                · rw [if_neg h, if_neg (by omega)]
            have HN := Lib.hid NEXT
            have HR := Lib.hid hrj
            clear NEXT hrj
            cases hs : sameAt a b i j
            · rw [hs] at HS HL
              have gs := HS.symm
              have HL' := Lib.hid HL
              clear HS HL hs
              go_wp2_with fail
              go_quiet (fail)
              go_wp2_with fail
              go_roundw
              case rel =>
                refine ⟨j + 1, by omega, by go_num, rfl, ?_, ?_⟩
                · have R := (HR.out.drewN nq).set (j + 1) (.int .i64 (if lcs a b i (j + 1) < lcs a b (i + 1) j then (lcs a b (i + 1) j : Int) else (lcs a b i (j + 1) : Int)))
                  rw [ints_set, HN.out _ (by rw [HL'.out]; simp only [Bool.false_eq_true, if_false]; split <;> omega)] at R
                  exact R
                · exact (below_drewN hbq nq).setCell (Nat.le_refl _) _
              case measure => simp [intOf]; omega
            · rw [hs] at HS HL
              have gs := HS.symm
              have HL' := Lib.hid HL
              clear HS HL hs
              go_wp2_with fail
              go_quiet (fail)
              go_wp2_with fail
              go_roundw
              case rel =>
                refine ⟨j + 1, by omega, by go_num, rfl, ?_, ?_⟩
                · have R := (HR.out.drewN nq).set (j + 1) (.int .i64 ((lcs a b i j : Int) + 1))
                  rw [ints_set, HN.out _ (by rw [HL'.out]; simp)] at R
                  exact R
                · exact (below_drewN hbq nq).setCell (Nat.le_refl _) _
              case measure => simp [intOf]; omega
          · obtain rfl : j = b.size := by omega
            have HR := Lib.hid hrj
            clear hrj
            go_wp2_with fail
            go_roundw
            case rel =>
              refine ⟨i + 1, by omega, by go_num, ?_, hbq⟩
              have R := HR.out
              rw [ints_congr (g := fun x => (lcs a b (i + 1) x : Int)) (fun x hx => by unfold lrow; rw [if_pos (by omega)])] at R
              exact R
            case measure => simp [intOf]; omega
      · obtain rfl : i = a.size := by omega
        have hc := hrow.cell' (ints_get (f := fun x => (lcs a b a.size x : Int)) (n := b.size + 1) (x := b.size) (by omega))
        clear hrow hmk
        go_wp2_with fail
        go_ret2
        exact ⟨rfl, hc1.trans (hbw.mono hs1)⟩

set_option maxHeartbeats 400000 in
theorem spec_l00Max_c (x y : Int) (w : World) : Calls Try.prog 47 #[.int .i64 x, .int .i64 y] w fun e w' => e = .returned (.int .i64 (max x y)) ∧ w = w' := by
  by_cases h : y < x
  · have e : max x y = x := by omega
    rw [e]
    clear e
    go_enter Try.func47, Try.ntmps47
    go_wp2_with fail
    go_ret
    exact ⟨rfl, rfl⟩
  · have e : max x y = y := by omega
    rw [e]
    clear e
    go_enter Try.func47, Try.ntmps47
    go_wp2_with fail
    go_ret
    exact ⟨rfl, rfl⟩

/-- The row that the reference makes: new numbers up to j, noughts behind. -/
def mrow (a b : ByteArray) (i j : Nat) : Nat → Int := fun x => if x ≤ j then lcs a b (i + 1) x else 0

set_option maxRecDepth 100000 in
set_option maxHeartbeats 1000000 in
theorem spec_CommonLength_c (a b : ByteArray) (w : World) (ha : a.size ≤ 1048576) (hb : b.size ≤ 1048576) :
    Calls Try.prog 14 #[.string a, .string b] w fun e w' => (if shortB a && shortB b then e = .returned (.tuple #[.int .i64 (lcs a b a.size b.size : Int), .int .i64 0]) else e = .returned (.tuple #[.int .i64 0, .int .i64 5])) ∧ Below w.heap.size w w' := by
  have Ca := spec_l25Text_c a
  have Cb := spec_l25Text_c b
  cases hA : shortB a
  · rw [hA] at Ca
    have HC := Lib.hid Ca
    clear Ca Cb hA
    go_enter Try.func14, Try.ntmps14
    go_wp2_with (go_at_call 41; refine (HC.out _).mono ?_; rintro e w1 ⟨rfl, rfl⟩)
    go_ret2
    exact ⟨rfl, Below.refl _ _⟩
  · rw [hA] at Ca
    have HCa := Lib.hid Ca
    cases hB : shortB b
    · rw [hB] at Cb
      have HCb := Lib.hid Cb
      clear Ca Cb hA hB
      go_enter Try.func14, Try.ntmps14
      go_wp2_with fail
      refine (HCa.out _).mono ?_
      rintro e w1 ⟨rfl, rfl⟩
      go_wp2_with fail
      refine (HCb.out _).mono ?_
      rintro e w1 ⟨rfl, rfl⟩
      go_wp2_with fail
      go_ret2
      exact ⟨rfl, Below.refl _ _⟩
    · rw [hB] at Cb
      have HCb := Lib.hid Cb
      have ha' : a.size ≤ 40 := by simpa [shortB] using hA
      have hb' : b.size ≤ 40 := by simpa [shortB] using hB
      have hmk := make_run (P := Try.prog) (t := 68) (e := 2) (z := .int .i64 0) (size := 1) (bytes := 8) Try.underlying68 (by kernel_rfl) (b.size + 1) ((b.size : Int) + 1) (by omega) (by omega) (by unfold maxLen; omega)
      clear Ca Cb hA hB ha hb
      go_enter Try.func14, Try.ntmps14
      go_wp2_with fail
      refine (HCa.out _).mono ?_
      rintro e w1 ⟨rfl, rfl⟩
      go_wp2_with fail
      refine (HCb.out _).mono ?_
      rintro e w1 ⟨rfl, rfl⟩
      go_wp2_with fail
      go_loopw [6, 7] (fun r n wr => ∃ (i g : Nat), i ≤ a.size ∧ n = .int .i64 i ∧ r = .slice (some ⟨g, 0, none⟩) (b.size + 1) (b.size + 1) ∧ Row wr g 2 (ints (b.size + 1) (fun x => lcs a b i x)) ∧ Below w.heap.size w wr) (fun _ n _ => a.size - (intOf n).toNat)
      case atStart =>
        refine ⟨0, w.heap.size, Nat.zero_le _, rfl, rfl, ?_, (Below.refl _ _).alloc (Nat.le_refl _) _⟩
        have R := Row.new w 2 (madeCells #[Value.int .i64 0] ((b.size + 1) * 1))
        rw [madeCells_ints, Nat.mul_one] at R
        rw [ints_congr (g := fun _ => 0) (fun x _ => by rw [lcs_zero]; rfl)]
        exact R
      case round =>
        obtain ⟨i, g, hi, rfl, rfl, hrow, hbw⟩ := hrel
        have hbs := hbw.size
        have hgl := hrow.lt
        by_cases hlt : i < a.size
        · have HROW := Lib.hid hrow
          clear hrow
          go_wp2_with fail
          obtain ⟨wo, rfl⟩ : ∃ wo : World, wo = wr := ⟨_, rfl⟩
          go_loopw [9] (fun n wq => ∃ j : Nat, j ≤ b.size ∧ n = .int .i64 j ∧ Row wq g 2 (ints (b.size + 1) (fun x => lcs a b i x)) ∧ Row wq wo.heap.size 2 (ints (b.size + 1) (mrow a b i j)) ∧ Below w.heap.size w wq) (fun n _ => b.size - (intOf n).toNat)
          case atStart =>
            refine ⟨0, Nat.zero_le _, rfl, HROW.out.alloc _, ?_, hbw.alloc hbs _⟩
            have R := Row.new wo 2 (madeCells #[Value.int .i64 0] ((b.size + 1) * 1))
            rw [madeCells_ints, Nat.mul_one] at R
            rw [ints_congr (g := fun _ => 0) (fun x _ => by unfold mrow; split; (rename_i h; have : x = 0 := by omega); subst this; rw [lcs_zero']; rfl; rfl)]
            exact R
          case round =>
            obtain ⟨j, hj, rfl, hrj, hnj, hbq⟩ := hrel
            have hbqs := hbq.size
            have hgne : g ≠ wo.heap.size := by omega
            have hl1 := lcs_le a b i j
            have hl2 := lcs_le a b i (j + 1)
            have hl3 := lcs_le a b (i + 1) j
            by_cases hjl : j < b.size
            · have hr1 := hrj.cell' (ints_get (f := fun x => (lcs a b i x : Int)) (n := b.size + 1) (x := j + 1) (by omega))
              have hr0 := hrj.cell' (ints_get (f := fun x => (lcs a b i x : Int)) (n := b.size + 1) (x := j) (by omega))
              have hn0 := hnj.cell' (ints_get (f := mrow a b i j) (n := b.size + 1) (x := j) (by omega))
              have hn1 := hnj.cell' (ints_get (f := mrow a b i j) (n := b.size + 1) (x := j + 1) (by omega))
              have hf1 := hnj.frozen (j + 1)
              rw [show mrow a b i j j = (lcs a b (i + 1) j : Int) by unfold mrow; rw [if_pos (by omega)]] at hn0
              go_wp2_with fail
              have i1 : (j : Int) < (b.size : Int) + 1 := by omega
              have i2 : (j : Int) < (b.size : Int) := by omega
              have i3 : (0 : Int) ≤ (j : Int) + 1 := by omega
              have i4 : ((j : Int) + 1).toNat = j + 1 := by omega
              have i5 : IntKind.i64.wrap ((j : Int) + 1) = (j : Int) + 1 := IntWalk.i64_in _ (by omega)
              go_still_tail 14, (by kernel_rfl)
              still_call ((spec_l00Max_c _ _ _).mono fun _ _ h => ⟨h.1, h.2.symm⟩)
              repeat still_step
              clear i1 i2 i3 i4 i5
              refine wpStill_nil ?_
              have HS := sameAt_eq hlt hjl
              have HL := lcs_step a b i j
              have NEXT : ∀ v : Int, v = lcs a b (i + 1) (j + 1) → ints (b.size + 1) (fun y => if y = j + 1 then v else mrow a b i j y) = ints (b.size + 1) (mrow a b i (j + 1)) := by
                intro v hv
                apply ints_congr
                intro x _
                unfold mrow
                by_cases e : x = j + 1
                · subst e; simp [hv]
                · rw [if_neg e]
                  by_cases h : x ≤ j
                  · rw [if_pos h, if_pos (by omega)]
                  · rw [if_neg h, if_neg (by omega)]
              have HN := Lib.hid NEXT
              have HR := Lib.hid hrj
              have HM := Lib.hid hnj
              clear NEXT hrj hnj
              cases hs : sameAt a b i j
              · rw [hs] at HS HL
                have gs := HS.symm
                have HL' := Lib.hid HL
                clear HS HL hs
                go_wp2_with fail
                go_quiet (fail)
                go_wp2_with fail
                go_roundw
                case rel =>
                  refine ⟨j + 1, by omega, by go_num, (HR.out.far (p := ⟨wo.heap.size, j + 1, none⟩) hgne _).drewN _, ?_, below_drewN (hbq.setCell (by simpa using hbs) _) _⟩
                  have R := ((HM.out.set (j + 1) (.int .i64 (max (lcs a b (i + 1) j : Int) (lcs a b i (j + 1) : Int))))).drewN nq
                  rw [ints_set, HN.out _ (by rw [HL'.out]; simp only [Bool.false_eq_true, if_false]; omega)] at R
                  exact R
                case measure => simp [intOf]; omega
              · rw [hs] at HS HL
                have gs := HS.symm
                have HL' := Lib.hid HL
                clear HS HL hs
                go_wp2_with fail
                go_quiet (fail)
                go_wp2_with fail
                go_roundw
                case rel =>
                  refine ⟨j + 1, by omega, by go_num, ((HR.out.far (p := ⟨wo.heap.size, j + 1, none⟩) hgne _).drewN _).far (p := ⟨wo.heap.size, j + 1, none⟩) hgne _, ?_, (below_drewN (hbq.setCell (by simpa using hbs) _) _).setCell (by simpa using hbs) _⟩
                  have R := (((HM.out.set (j + 1) (.int .i64 (max (lcs a b (i + 1) j : Int) (lcs a b i (j + 1) : Int))))).drewN (1 + nq)).set (j + 1) (.int .i64 ((lcs a b i j : Int) + 1))
                  rw [ints_set, ints_set, ints_congr (g := fun y => if y = j + 1 then (lcs a b i j : Int) + 1 else mrow a b i j y) (fun y _ => by by_cases e : y = j + 1 <;> simp [e]), HN.out _ (by rw [HL'.out]; simp)] at R
                  exact R
                case measure => simp [intOf]; omega
            · obtain rfl : j = b.size := by omega
              have HM := Lib.hid hnj
              have HR := Lib.hid hrj
              clear hnj hrj
              go_wp2_with fail
              go_roundw
              case rel =>
                refine ⟨i + 1, wo.heap.size, by omega, by go_num, rfl, ?_, hbq⟩
                have R := HM.out
                rw [ints_congr (g := fun x => (lcs a b (i + 1) x : Int)) (fun x hx => by unfold mrow; rw [if_pos (by omega)])] at R
                exact R
              case measure => simp [intOf]; omega
        · obtain rfl : i = a.size := by omega
          have hc := hrow.cell' (ints_get (f := fun x => (lcs a b a.size x : Int)) (n := b.size + 1) (x := b.size) (by omega))
          clear hrow hmk
          go_wp2_with fail
          go_ret2
          exact ⟨rfl, hbw⟩
end Go.Proofs.Ytelkggafmnckoaa
