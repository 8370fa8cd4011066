/- Pages: words and lines that are valid, in the program and in the reference. Conditions: none. -/
import Derived.Test.YtmopioaojdlnkaaDoorFindp
namespace Go.Proofs.YtmopioaojdlnkaaDoor
open Go Go.RowKit
set_option maxRecDepth 100000 in
set_option maxHeartbeats 400000 in
theorem spec_IsWord_c (s : ByteArray) (hs : s.size ≤ 1048576) (w : World) : Calls Tryd.prog 62 #[.string s] w fun e w' => e = .returned (.bool (isWordB s)) ∧ w = w' := by
 go_enter Tryd.func62, Tryd.ntmps62
 go_wp2_with fail
 go_loop [3] (fun i => ∃ k : Nat, k ≤ s.size ∧ i = .int .i64 k ∧ Hid ((s.data.toList.take k).all letterB = true)) (fun i => s.size - (intOf i).toNat)
 case atStart => exact ⟨0, Nat.zero_le _, rfl, rfl⟩
 case round =>
  obtain ⟨k, hk, rfl, hall⟩ := hrel
  by_cases hlt : k < s.size
  · have C := spec_l01Small_c s[k]
    have hst := all_take (p := letterB) hlt
    rw [hall.out, Bool.true_and] at hst
    cases hl : letterB s[k]
    · rw [hl] at C
      have HC := Lib.hid C
      have HN := Lib.hid (isWordB_no (all_stop hlt hl))
      clear C hl hst
      go_wp2_with (go_at_call 80; refine (HC.out _).mono ?_; rintro e w2 ⟨rfl, rfl⟩)
      go_ret
      exact ⟨ret_boolF HN.out.symm, rfl⟩
    · rw [hl] at C hst
      have HC := Lib.hid C
      have HS := Lib.hid hst
      clear C hl hst
      go_wp2_with (go_at_call 80; refine (HC.out _).mono ?_; rintro e w2 ⟨rfl, rfl⟩)
      go_round
      case rel => exact ⟨k + 1, by omega, by go_num, HS.out⟩
      case measure => simp [intOf]; omega
  · obtain rfl : k = s.size := by omega
    have HW := Lib.hid (isWordB_of (all_whole hall.out))
    go_wp2_with (go_at_call 61; refine (spec_l00In_c _ _ _ _).mono ?_; rintro e w2 ⟨rfl, rfl⟩)
    go_ret
    refine ⟨ret_boolF ?_, rfl⟩
    rw [HW.out, Bool.eq_iff_iff, inR_iff]; simp; omega
theorem take_all_step {α : Type} {p : α → Bool} {xs : List α} {k : Nat} (h : k < xs.length) : (xs.take (k + 1)).all p = ((xs.take k).all p && p xs[k]) := by
 rw [List.take_succ_eq_append_getElem h, List.all_append]; simp
theorem all_no {α : Type} {p : α → Bool} {xs : List α} {k : Nat} (h : k < xs.length) (hp : p xs[k] = false) : xs.all p = false := by
 rw [List.all_eq_false]; exact ⟨xs[k], List.getElem_mem h, by simp [hp]⟩
theorem all_yes {α : Type} {p : α → Bool} {xs : List α} (h : (xs.take xs.length).all p = true) : xs.all p = true := by rwa [List.take_length] at h
set_option maxRecDepth 100000 in
set_option maxHeartbeats 400000 in
theorem spec_l18Plain_c {o : Bool} {e : TypeId} {xs : List ByteArray} {v : Value} {F : List Nat} (w : World) (h : (strs e).rep o w xs [v] F) (hx : xs.length ≤ 1048576) (hs : ∀ s ∈ xs, s.size ≤ 1048576) :
 Calls Tryd.prog 74 #[v] w fun e w' => e = .returned (.bool (xs.all isWordB)) ∧ w = w' := by
 obtain ⟨A, c, rfl, hc1, hc2, hr⟩ := strs_open h
 clear h
 go_enter Tryd.func74, Tryd.ntmps74
 go_wp2_with fail
 go_loop [3] (fun i => ∃ k : Nat, k ≤ xs.length ∧ i = .int .i64 k ∧ Hid ((xs.take k).all isWordB = true)) (fun i => xs.length - (intOf i).toNat)
 case atStart => exact ⟨0, Nat.zero_le _, rfl, rfl⟩
 case round =>
  obtain ⟨k, hk, rfl, hall⟩ := hrel
  by_cases hlt : k < xs.length
  · obtain ⟨b, off, rfl, hbb, _, h0, _⟩ := hr k hlt
    have C := spec_IsWord_c xs[k] (hs _ (List.getElem_mem hlt))
    have hst := take_all_step (p := isWordB) hlt
    rw [hall.out, Bool.true_and] at hst
    clear hr
    cases hl : isWordB xs[k]
    · rw [hl] at C
      have HC := Lib.hid C
      have HN := Lib.hid (all_no hlt hl)
      clear C hl hst
      go_wp2_with (go_at_call 62; refine (HC.out _).mono ?_; rintro e w2 ⟨rfl, rfl⟩)
      go_ret
      exact ⟨ret_boolF HN.out.symm, rfl⟩
    · rw [hl] at C hst
      have HC := Lib.hid C
      have HS := Lib.hid hst
      clear C hl hst
      go_wp2_with (go_at_call 62; refine (HC.out _).mono ?_; rintro e w2 ⟨rfl, rfl⟩)
      go_round
      case rel => exact ⟨k + 1, by omega, by go_num, HS.out⟩
      case measure => simp [intOf]; omega
  · obtain rfl : k = xs.length := by omega
    have HW := Lib.hid (all_yes hall.out)
    clear hr
    go_wp2_with fail
    go_ret
    exact ⟨ret_boolF HW.out.symm, rfl⟩
def LineBytes (ls : List PLine) : Prop := ∀ l ∈ ls, ∀ s ∈ l, s.size ≤ 1048576
theorem linesOkB_of {ls : List PLine} (h : ls.all lineOkB = true) : linesOkB ls = (decide (1 ≤ ls.length) && decide (ls.length ≤ 20)) := by simp [linesOkB, h]
theorem linesOkB_no {ls : List PLine} (h : ls.all lineOkB = false) : linesOkB ls = false := by simp [linesOkB, h]
set_option maxRecDepth 100000 in
set_option maxHeartbeats 400000 in
theorem spec_l27Lines_c {o : Bool} {e : TypeId} {xs : List PLine} {v : Value} {F : List Nat} (w : World) (h : (pLines e).rep o w xs [v] F) (hx : xs.length ≤ 1048576) (hw : ∀ l ∈ xs, l.length ≤ 1048576) (hs : LineBytes xs) :
 Calls Tryd.prog 52 #[v] w fun e w' => e = .returned (.bool (linesOkB xs)) ∧ w = w' := by
 obtain ⟨A, c, rfl, hc1, hc2, hr⟩ := pLines_open h
 clear h
 go_enter Tryd.func52, Tryd.ntmps52
 go_wp2_with fail
 go_loop [3] (fun i => ∃ k : Nat, k ≤ xs.length ∧ i = .int .i64 k ∧ Hid ((xs.take k).all lineOkB = true)) (fun i => xs.length - (intOf i).toNat)
 case atStart => exact ⟨0, Nat.zero_le _, rfl, rfl⟩
 case round =>
  obtain ⟨k, hk, rfl, hall⟩ := hrel
  by_cases hlt : k < xs.length
  · obtain ⟨b, off, u, Fk, rfl, hbb, _, hrk, _, h0⟩ := hr k hlt
    obtain ⟨A', c', rfl, hl1, hl2, _⟩ := slice_open hrk
    have hwk := hw _ (List.getElem_mem hlt)
    have C := spec_l18Plain_c w hrk hwk (hs _ (List.getElem_mem hlt))
    have hst := take_all_step (p := lineOkB) hlt
    rw [hall.out, Bool.true_and] at hst
    have hlk : lineOkB xs[k] = (decide (xs[k].length ≤ 12) && xs[k].all isWordB) := rfl
    clear hr
    cases hl : xs[k].all isWordB
    · rw [hl] at C hlk
      have HC := Lib.hid C
      have HN := Lib.hid (all_no (p := lineOkB) hlt (by rw [hlk]; simp))
      clear C hl hst hlk
      go_wp2_with (go_at_call 74; refine HC.out.mono ?_; rintro e w2 ⟨rfl, rfl⟩)
      go_ret
      exact ⟨ret_boolF (linesOkB_no HN.out).symm, rfl⟩
    · rw [hl] at C hlk
      by_cases h12 : xs[k].length ≤ 12
      · have h12' : ¬ ((12 : Int) < (xs[k].length : Int)) := by omega
        have HC := Lib.hid C
        have HS := Lib.hid hst
        have HL := Lib.hid hlk
        clear C hl hst hlk
        go_wp2_with (go_at_call 74; refine HC.out.mono ?_; rintro e w2 ⟨rfl, rfl⟩)
        go_round
        case rel => exact ⟨k + 1, by omega, by go_num, by show _ = _; rw [HS.out, HL.out]; simp [h12]⟩
        case measure => simp [intOf]; omega
      · have h12' : (12 : Int) < (xs[k].length : Int) := by omega
        have HC := Lib.hid C
        have HN := Lib.hid (all_no (p := lineOkB) hlt (by rw [hlk]; simp [h12]))
        clear C hl hst hlk
        go_wp2_with (go_at_call 74; refine HC.out.mono ?_; rintro e w2 ⟨rfl, rfl⟩)
        go_ret
        exact ⟨ret_boolF (linesOkB_no HN.out).symm, rfl⟩
  · obtain rfl : k = xs.length := by omega
    have HW := Lib.hid (linesOkB_of (all_yes hall.out))
    clear hr
    go_wp2_with (go_at_call 61; refine (spec_l00In_c _ _ _ _).mono ?_; rintro e w2 ⟨rfl, rfl⟩)
    go_ret
    refine ⟨ret_boolF ?_, rfl⟩
    rw [HW.out, Bool.eq_iff_iff, inR_iff]; simp; omega
set_option maxHeartbeats 400000 in
theorem impl_validLines1_c (s : ByteArray) (hs : s.size ≤ 1048576) (w : World) : Calls Tryd.prog 68 #[.string s] w fun e w' => e = .returned (.bool (!isWordB s)) ∧ Below w.heap.size w w' := by
 have C := impl_IsWord_c s hs
 generalize isWordB s = b at C ⊢
 have HC := Lib.hid C
 clear C
 cases b
 all_goals
  go_enter Tryd.func68, Tryd.ntmps68
  go_wp2_with fail
  refine (HC.out _).mono ?_
  rintro e w1 ⟨rfl, hb⟩
  go_wp2_with fail
  go_ret
  exact ⟨rfl, hb⟩
set_option maxRecDepth 100000 in
set_option maxHeartbeats 1000000 in
theorem impl_validLines_c {o : Bool} {e : TypeId} {xs : List PLine} {v : Value} {F : List Nat} (w : World) (h : (pLines e).rep o w xs [v] F) (hx : xs.length ≤ 1048576) (hw : ∀ l ∈ xs, l.length ≤ 1048576) (hs : LineBytes xs) :
 Calls Tryd.prog 40 #[v] w fun e w' => e = .returned (.bool (linesOkB xs)) ∧ Below w.heap.size w w' := by
 obtain ⟨A, c, rfl, hc1, hc2, hr⟩ := pLines_open h
 clear h
 go_enter Tryd.func40, Tryd.ntmps40
 go_wp2_with fail
 go_loopw [7] (fun i wr => ∃ k : Nat, k ≤ xs.length ∧ i = .int .i64 k ∧ Hid ((xs.take k).all lineOkB = true) ∧ Below w.heap.size w wr) (fun i _ => xs.length - (intOf i).toNat)
 case atStart => exact ⟨0, Nat.zero_le _, rfl, rfl, Below.refl _ _⟩
 case round =>
  obtain ⟨k, hk, rfl, hall, hb⟩ := hrel
  have hbs := hb.size
  by_cases hlt : k < xs.length
  · obtain ⟨b, off, u, Fk, rfl, hbb, _, hrk, _, h0⟩ := hr k hlt
    rw [← hb.cell (p := ⟨b, _, none⟩) hbb] at h0
    obtain ⟨A', c', rfl, hl1, hl2, _⟩ := slice_open hrk
    have hwk := hw _ (List.getElem_mem hlt)
    have hsk := hs _ (List.getElem_mem hlt)
    have hst := take_all_step (p := lineOkB) hlt
    rw [hall.out, Bool.true_and] at hst
    have hlk : lineOkB xs[k] = (decide (xs[k].length ≤ 12) && xs[k].all isWordB) := rfl
    have hany : xs[k].any (fun s => !isWordB s) = !xs[k].all isWordB := by simp [List.any_eq_not_all_not]
    have C := fun w' (q : (strs 9).rep o w' xs[k] [.slice A' xs[k].length c'] Fk) => ContainsFunc_str 68 (fun s => !isWordB s) w' q hwk Tryd.call68 (fun s h w => impl_validLines1_c s (hsk s h) w)
    have RK := Lib.hid (hrk.below hb)
    simp only [hany] at C
    clear hr hany hrk
    by_cases h12 : xs[k].length ≤ 12
    · have h12' : ¬ ((12 : Int) < (xs[k].length : Int)) := by omega
      cases hl : xs[k].all isWordB
      · rw [hl] at hlk
        simp only [hl] at C
        have HC := Lib.hid C
        have HN := Lib.hid (all_no (p := lineOkB) hlt (by rw [hlk]; simp))
        clear C hl hst hlk
        go_wp2_with (go_at_call 67; refine (HC.out _ (RK.out.alloc _)).mono ?_; rintro e w2 ⟨rfl, hb2⟩)
        go_ret
        exact ⟨ret_boolF (linesOkB_no HN.out).symm, (hb.alloc hbs _).trans (hb2.mono (by simp; omega))⟩
      · rw [hl] at hlk
        simp only [hl] at C
        have HC := Lib.hid C
        have HS := Lib.hid hst
        have HL := Lib.hid hlk
        clear C hl hst hlk
        go_wp2_with (go_at_call 67; refine (HC.out _ (RK.out.alloc _)).mono ?_; rintro e w2 ⟨rfl, hb2⟩)
        go_roundw
        case rel => exact ⟨k + 1, by omega, by go_num, (by show _ = _; rw [HS.out, HL.out]; simp [h12]), (hb.alloc hbs _).trans (hb2.mono (by simp; omega))⟩
        case measure => simp [intOf]; omega
    · have h12' : (12 : Int) < (xs[k].length : Int) := by omega
      have HN := Lib.hid (all_no (p := lineOkB) hlt (by rw [hlk]; simp [h12]))
      clear C hst hlk
      go_wp2_with fail
      go_ret
      exact ⟨ret_boolF (linesOkB_no HN.out).symm, hb.alloc hbs _⟩
  · obtain rfl : k = xs.length := by omega
    have HW := Lib.hid (linesOkB_of (all_yes hall.out))
    clear hr
    go_wp2_with fail
    all_goals go_ret
    all_goals refine ⟨ret_boolF ?_, hb⟩
    all_goals rw [HW.out, Bool.eq_iff_iff]; simp; try omega
end Go.Proofs.YtmopioaojdlnkaaDoor
