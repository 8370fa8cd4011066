/- The parts of a text between blanks, as the reference makes them. Conditions: none. -/
import Derived.Test.YtahoopmiipmgpaaDoorEvRd2
namespace Go.Proofs.YtahoopmiipmgpaaDoor
open Go Go.RowKit

theorem infoSt : (Tryd.prog.info? 9).map (fun i => (i.zero, i.size, i.bytes)) = some (some (.string .empty), str.size, 16) := by kernel_rfl
theorem extract_list (s : ByteArray) (f i : Nat) : (s.extract f i).data.toList = (s.data.toList.drop f).take (i - f) := by
  rw [ByteArray.data_extract, Array.toList_extract, List.extract_eq_take_drop]
theorem no_blank {l : List UInt8} {f i : Nat} (h : ∀ j, f ≤ j → j < i → l[j]? ≠ some 32) : ∀ b ∈ (l.drop f).take (i - f), b ≠ 32 := by
  intro b hb hc
  subst hc
  obtain ⟨j, hj⟩ := List.mem_iff_getElem?.1 hb
  rw [List.getElem?_take] at hj
  split at hj
  · rw [List.getElem?_drop] at hj
    exact h (f + j) (by omega) (by omega) hj
  · cases hj
theorem drop_split {l : List UInt8} {f i : Nat} (hfi : f ≤ i) (hi : l[i]? = some 32) (h : ∀ j, f ≤ j → j < i → l[j]? ≠ some 32) :
    splitL (l.drop f) = ((l.drop f).take (i - f)) :: splitL (l.drop (i + 1)) := by
  obtain ⟨hlt, hg⟩ := List.getElem?_eq_some_iff.1 hi
  have e1 : l.drop i = 32 :: l.drop (i + 1) := by rw [List.drop_eq_getElem_cons hlt, hg]
  have e2 : l.drop f = (l.drop f).take (i - f) ++ 32 :: l.drop (i + 1) := by
    rw [← e1, show l.drop i = (l.drop f).drop (i - f) by rw [List.drop_drop]; congr 1; omega, List.take_append_drop]
  rw [e2]
  have := split_app (r := l.drop (i + 1)) (no_blank h)
  rw [this, ← e2]
theorem drop_last {l : List UInt8} {f : Nat} (h : ∀ j, f ≤ j → j < l.length → l[j]? ≠ some 32) : splitL (l.drop f) = [(l.drop f).take (l.length - f)] := by
  have e : (l.drop f).take (l.length - f) = l.drop f := List.take_of_length_le (by simp)
  rw [e]
  have := split_word (no_blank h)
  rw [e] at this
  exact this
theorem byte_at {s : ByteArray} {k : Nat} (h : k < s.size) : s.data.toList[k]? = some s[k] := by
  rw [Array.getElem?_toList]
  exact Array.getElem?_eq_getElem h
set_option maxRecDepth 100000 in
set_option maxHeartbeats 4000000 in
theorem spec_l01Split_c (s : ByteArray) (w : World) (hs : s.size ≤ 1048576) :
    Calls Tryd.prog 13 #[.string s, .int .u8 32] w fun e w' => ∃ ws v F, e = .returned v ∧ ws.map (fun b : ByteArray => b.data.toList) = splitL s.data.toList ∧ (strs 9).rep true w' ws [v] F ∧ Fresh w.heap.size F ∧ Below w.heap.size w w' := by
  go_enter Tryd.func13, Tryd.ntmps13
  go_wp2_with fail
  go_loopw [5, 6, 7] (fun ov fv iv wr => ∃ (f i : Nat) (ws : List ByteArray) (u : Value) (F : List Nat), f ≤ i ∧ i ≤ s.size ∧ fv = .int .i64 f ∧ iv = .int .i64 i ∧ u = ov ∧ Hid (splitL s.data.toList = ws.map (fun b : ByteArray => b.data.toList) ++ splitL (s.data.toList.drop f)) ∧ Hid (∀ j, f ≤ j → j < i → s.data.toList[j]? ≠ some 32) ∧ Hid (ws.length ≤ i) ∧ (strs 9).rep true wr ws [u] F ∧ Fresh w.heap.size F ∧ Below w.heap.size w wr) (fun _ _ iv _ => s.size - (intOf iv).toNat)
  case atStart => exact ⟨0, 0, [], _, [w.heap.size], Nat.le_refl _, Nat.zero_le _, rfl, rfl, rfl, rfl, (by intro j h1 h2; omega), Nat.le_refl _, slice_of_row (xs := []) (Row.new w _ _) ⟨rfl, rfl⟩ (by simp [maxLen]), ⟨by simp, by simp⟩, (Below.refl _ _).alloc (Nat.le_refl _) _⟩
  case round =>
    obtain ⟨f, i, ws, u, F, hfi, hi, rfl, rfl, rfl, hsp, hno, hwl, hrep, hfr, hb⟩ := hrel
    have hbs := hb.size
    have HREP := Lib.hid hrep
    obtain ⟨U, uc, rfl⟩ := slice_len hrep
    clear hrep
    have i3 : (0 : Int) ≤ (i : Int) := by omega
    have i4 : (0 : Int) ≤ (f : Int) := by omega
    have i5 : (f : Int) ≤ (i : Int) := by omega
    have HW := hwl
    by_cases hlt : i < s.size
    · have i1 : (i : Int) < (s.size : Int) := by omega
      have i2 : IntKind.i64.wrap ((i : Int) + 1) = (i : Int) + 1 := IntWalk.i64_in _ (by omega)
      have hat := byte_at hlt
      by_cases hc : s[i] = 32
      · have g1 : ((s[i].toNat : Int) == 32) = true := by rw [hc]; rfl
        rw [hc] at hat
        have HS := Lib.hid (drop_split hfi hat hno.out)
        have hpz : (s.extract f i).size ≤ 1048576 := by rw [← ba_size, extract_list]; simp; have := ba_size s; omega
        clear hc hat
        go_wp2_with (at_builtin; go_loud (refine wpList_append_repX (T := str) (e := 9) (ys := [s.extract f i]) (ec := [.string (s.extract f i)]) rfl (.tmp 20) (.tmp 25) rfl Tryd.underlying36 infoSt rfl (by decide) rfl (HREP.out.alloc _) rfl (repL_strs _ (by intro p hp; simp at hp; subst hp; unfold maxLen; omega)) (cellsAt_new _ _ _) trivial (by rw [List.append_nil]; exact hfr.1) (by have := HW.out; simp only [List.length_singleton, maxLen]; omega) (by have := HW.out; simp only [List.length_singleton]; omega) ?_); intro v2 w4 F2 r2 o2 q2 x2)
        go_roundw
        case rel =>
          refine ⟨i + 1, i + 1, ws ++ [s.extract f i], v2, F2, Nat.le_refl _, by omega, by go_num, by go_num, rfl, ?_, (by intro j h1 h2; omega), (by show _ ≤ _; have := HW.out; simp; omega), r2, q2 _ (by rw [List.append_nil]; exact hfr) (by simp; omega), (hb.alloc hbs _).trans (o2.below (by simp; omega) hfr.2)⟩
          show _ = _
          rw [hsp.out, HS.out, List.map_append, List.append_assoc]
          simp only [List.map_cons, List.map_nil, extract_list, List.singleton_append]
        case measure => simp [intOf]; omega
      · have g1 : ((s[i].toNat : Int) == 32) = false := by
          rw [beq_eq_false_iff_ne]; intro h; apply hc; apply UInt8.toNat_inj.1; show s[i].toNat = 32; omega
        have HN : Hid (∀ j, f ≤ j → j < i + 1 → s.data.toList[j]? ≠ some 32) := by
          intro j h1 h2
          by_cases hj : j = i
          · subst hj; rw [hat]; intro h; exact hc (Option.some.inj h)
          · exact hno.out j h1 (by omega)
        clear hc hat
        go_wp2_with fail
        go_roundw
        case rel => exact ⟨f, i + 1, ws, _, F, by omega, by omega, rfl, by go_num, rfl, hsp, HN, (by show _ ≤ _; have := HW.out; omega), HREP.out, hfr, hb⟩
        case measure => simp [intOf]; omega
    · obtain rfl : i = s.size := by omega
      have HS := Lib.hid (drop_last (l := s.data.toList) (f := f) (by rw [ba_size]; exact hno.out))
      have hpz : (s.extract f s.size).size ≤ 1048576 := by rw [← ba_size, extract_list]; simp; have := ba_size s; omega
      go_wp2_with (at_builtin; go_loud (refine wpList_append_repX (T := str) (e := 9) (ys := [s.extract f s.size]) (ec := [.string (s.extract f s.size)]) rfl (.tmp 29) (.tmp 33) rfl Tryd.underlying36 infoSt rfl (by decide) rfl (HREP.out.alloc _) rfl (repL_strs _ (by intro p hp; simp at hp; subst hp; unfold maxLen; omega)) (cellsAt_new _ _ _) trivial (by rw [List.append_nil]; exact hfr.1) (by have := HW.out; simp only [List.length_singleton, maxLen]; omega) (by have := HW.out; simp only [List.length_singleton]; omega) ?_); intro v2 w4 F2 r2 o2 q2 x2)
      go_ret
      refine ⟨ws ++ [s.extract f s.size], v2, F2, rfl, ?_, r2, q2 _ (by rw [List.append_nil]; exact hfr) (by simp; omega), (hb.alloc hbs _).trans (o2.below (by simp; omega) hfr.2)⟩
      rw [hsp.out, HS.out, List.map_append, ba_size]
      simp only [List.map_cons, List.map_nil, extract_list]
theorem ret_boolE {a b : Bool} (h : a = b) : Ending.returned (.bool a) = .returned (.bool b) := by rw [h]
set_option maxHeartbeats 400000 in
theorem spec_l01Digit_c (c : UInt8) (w : World) : Calls Tryd.prog 89 #[.int .u8 (c.toNat : Int)] w fun e w' => e = .returned (.bool (decide (48 ≤ c.toNat) && decide (c.toNat ≤ 57))) ∧ w' = w := by
  go_enter Tryd.func89, Tryd.ntmps89
  go_wp2_with fail
  all_goals go_ret
  all_goals refine ⟨ret_boolE ?_, rfl⟩
  all_goals rw [Bool.eq_iff_iff]; simp; try omega
end Go.Proofs.YtahoopmiipmgpaaDoor
