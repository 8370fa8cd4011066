/- What FnNearestTexts draws. Conditions: none. -/
import Derived.Test.YtnmciooolocjdaaSrc2
import Derived.Test.YtnmciooolocjdaaAppend
namespace Go.Proofs.Ytnmciooolocjdaa
open Go Go.RowKit

theorem Try.infoStr : (Try.prog.info? 9).map (fun i => (i.zero, i.size, i.bytes)) = some (some (.string .empty), str.size, 16) := by kernel_rfl
theorem l00From_c {e : TypeId} {code : List UInt8} {v : Value} {F : List Nat} (w : World) (h : (byte.slice e).rep false w code [v] F) (hc : code.length ≤ 4096) :
    Calls Try.prog 10 #[v] w fun e' w' => e' = .returned (.pointer (some ⟨w.heap.size, 0, none⟩)) ∧ SrcIs (w.heap.size + 1) w.heap.size code 0 w' ∧ Below w.heap.size w w' := by
  have HF := Lib.hid (Ty.lt _ h)
  obtain ⟨A, c, rfl⟩ := slice_len h
  have R := Row.new w 43 #[.slice A code.length c, .int .i64 0, .int .u64 0]
  have HR := Lib.hid (Ty.kept _ (w' := w.alloc (.cells #[.slice A code.length c, .int .i64 0, .int .u64 0] 43)) h (fun b hb => Below.heap_alloc w _ b (HF.out b hb)))
  clear h
  go_enter Try.func10, Try.ntmps10
  go_wp2_with fail
  go_ret
  exact ⟨rfl, ⟨hc, by omega, e, _, F, 0, 0, R, HR.out, fun b hb => by have := HF.out b hb; omega, by omega, by omega, by omega⟩, (Below.refl _ _).alloc (Nat.le_refl _) _⟩
theorem f6big_c {e : TypeId} {code : List UInt8} {v : Value} {F : List Nat} {w : World} (h : (byte.slice e).rep false w code [v] F) :
    Calls Try.prog 4 #[v] w fun e' w' => e' = .returned (.bool (decide (4096 < code.length))) ∧ w = w' := by
  obtain ⟨A, c, rfl⟩ := slice_len h
  clear h
  by_cases hb : 4096 < code.length
  · have g : (4096 : Int) < (code.length : Int) := by omega
    rw [decide_eq_true hb]
    go_enter Try.func4, Try.ntmps4
    go_wp2_with fail
    go_ret
    exact ⟨congrArg (fun b => Ending.returned (.bool b)) (by simp), rfl⟩
  · have g : ¬ ((4096 : Int) < (code.length : Int)) := by omega
    rw [decide_eq_false hb]
    go_enter Try.func4, Try.ntmps4
    go_wp2_with fail
    go_ret
    exact ⟨congrArg (fun b => Ending.returned (.bool b)) (by simp), rfl⟩
theorem strs_empty_at (w : World) : (strs 9).rep true (w.alloc (.cells #[] 9)) [] [.slice (some ⟨w.heap.size, 0, none⟩) 0 0] [w.heap.size] := slice_of_row (xs := []) (Row.new w _ _) ⟨rfl, rfl⟩ (by simp [maxLen])
theorem empties (n : Nat) : (madeCells (Value.cells (.string .empty)) (n * 1)).toList = (List.replicate n ByteArray.empty).map Value.string := by
  simp [madeCells, Value.cells]
  apply List.ext_getElem
  · simp
  · intro i h1 h2
    simp [Nat.mod_one]
set_option maxRecDepth 100000 in
set_option maxHeartbeats 2000000 in
theorem spec_DrawNearestTexts_c {e : TypeId} {code : List UInt8} {v : Value} {F : List Nat} (w : World) (h : (byte.slice e).rep false w code [v] F) (hc : code.length ≤ 4096) :
    Calls Try.prog 5 #[v] w fun e' w' => ∃ xs t u G, e' = .returned (.tuple #[u, .string t]) ∧ (strs 9).rep true w' xs [u] G ∧ xs.length ≤ 200 ∧ (∀ s ∈ xs, s.size ≤ 60) ∧ t.size ≤ 60 ∧ Below w.heap.size w w' := by
  have H0 := Lib.hid (l00From_c w h hc)
  obtain ⟨A, c, rfl⟩ := slice_len h
  clear h
  go_enter Try.func5, Try.ntmps5
  go_wp2_with fail
  refine H0.out.mono ?_
  rintro e w1 ⟨rfl, S1, b1⟩
  have lt1 := S1.lt
  have H1 := Lib.hid (spec_l25Word_c _ (S1.alloc (.cells #[] 9)) (by omega))
  go_wp2_with fail
  refine H1.out.mono ?_
  rintro e w2 ⟨⟨t, ht, rfl⟩, S2, O2⟩
  have H2 := Lib.hid (src_pick_c w2 S2 (by omega) 8 (by omega))
  go_wp2_with fail
  refine H2.out.mono ?_
  rintro e w3 ⟨⟨r, r0, r1, rfl⟩, S3, O3⟩
  obtain ⟨k0, rfl⟩ := Int.eq_ofNat_of_zero_le r0
  have hk0 : k0 ≤ 7 := by omega
  have em := (strs_empty_at w1)
  have sz := b1.size
  have em3 : (strs 9).rep true w3 [] [.slice (some ⟨w1.heap.size, 0, none⟩) 0 0] [w1.heap.size] := (em.only O2 (by simp; omega)).only O3 (by simp; omega)
  have bb : Below w.heap.size w w3 := (((b1.alloc sz (.cells #[] 9)).trans (O2.below (by simp; omega) (by simp))).trans (O3.below (by have := O2.size; simp at this; omega) (by simp)))
  clear r0 r1 H0 H1 H2
  go_wp2_with fail
  go_loopw [5, 7] (fun l i wr => ∃ (k : Nat) (xs : List ByteArray) (G : List Nat), i = .int .i64 k ∧ k ≤ 7 ∧ (strs 9).rep true wr xs [l] G ∧ Fresh (w.heap.size + 1) G ∧ xs.length + k ≤ 7 ∧ (∀ s ∈ xs, s.size ≤ 60) ∧ SrcIs (w.heap.size + 1) w.heap.size code (200 - 12 * k) wr ∧ Below w.heap.size w wr) (fun _ i _ => (intOf i).toNat)
  case atStart => exact ⟨k0, [], _, rfl, hk0, em3, ⟨by simp, by simp; omega⟩, by simpa using hk0, by simp, S3.more (by omega), bb⟩
  case round =>
    obtain ⟨k, xs, G, rfl, hk, rep, fr, hlen, hsm, S, hb⟩ := hrel
    obtain ⟨L, lc, rfl⟩ := slice_len rep
    have hbs := hb.size
    by_cases hlt : 0 < k
    · have g1 : (0 : Int) < (k : Int) := by omega
      have kw : IntKind.i64.wrap ((k : Int) - 1) = (k : Int) - 1 := IntWalk.i64_in _ (by omega)
      have H := Lib.hid (spec_l25Word_c wr S (by omega))
      have REP := Lib.hid rep
      clear rep
      go_wp2_with fail
      refine H.out.mono ?_
      rintro e w4 ⟨⟨t2, ht2, rfl⟩, S4, O4⟩
      have R4 := Lib.hid (REP.out.only O4 (fun b hb' hin => by simp at hin; subst hin; have := fr.2 _ hb'; omega))
      have hb4 := hb.trans (O4.below hbs (by simp))
      have hb4s := hb4.size
      go_wp2_with (at_builtin; refine wpList_append_rep (T := str) (e := 9) (ys := [t2]) rfl (.tmp 19) (.tmp 22) rfl Try.underlying24 Try.infoStr rfl (by decide) rfl (R4.out.alloc _) rfl (repL_strs [t2] (by intro s hs; simp at hs; subst hs; unfold maxLen; omega)) (cellsAt_new _ _ _) trivial (by simpa using fr.1) (by simp [maxLen]; omega) (by simp; omega) ?_; intro v5 w5 F5 r5 o5 q5)
      go_wp2_with fail
      go_roundw
      case rel =>
        have f5 := q5 (w.heap.size + 1) (by simpa using fr) (by have := S4.lt; simp; omega)
        refine ⟨k - 1, _, _, by go_num, by omega, r5, f5, by simp; omega, ?_, ((S4.alloc _).only o5 (fun b hb' => fr.2 _ hb')).more (by omega), ?_⟩
        · intro s hs
          rcases List.mem_append.1 hs with hs | hs
          · exact hsm s hs
          · simp at hs; subst hs; exact ht2
        · exact (hb4.alloc hb4s _).trans (o5.below (by simp; omega) (fun b hb' => by have := fr.2 _ hb'; omega))
      case measure => simp [intOf]; omega
    · obtain rfl : k = 0 := by omega
      have H := Lib.hid (src_one_c wr S (by omega) 24 (by omega))
      have REP := Lib.hid rep
      clear rep
      go_wp2_with fail
      refine H.out.mono ?_
      rintro e w4 ⟨⟨q, rfl⟩, S4, O4⟩
      have R4 := Lib.hid (REP.out.only O4 (fun b hb' hin => by simp at hin; subst hin; have := fr.2 _ hb'; omega))
      have hb4 := hb.trans (O4.below hbs (by simp))
      cases q
      · go_wp2_with fail
        go_ret2
        exact ⟨xs, t, _, G, rfl, R4.out, by omega, hsm, ht, hb4⟩
      · have H3 := Lib.hid (src_pick_c w4 S4 (by omega) 2 (by omega))
        go_wp2_with fail
        refine H3.out.mono ?_
        rintro e w5 ⟨⟨r, r0, r1, rfl⟩, S5, O5⟩
        obtain ⟨k1, rfl⟩ := Int.eq_ofNat_of_zero_le r0
        have hk1 : k1 ≤ 1 := by omega
        have kw2 : IntKind.i64.wrap (100 + (k1 : Int)) = 100 + (k1 : Int) := IntWalk.i64_in _ (by omega)
        have hmk := fun w => make_run (P := Try.prog) Try.underlying24 Try.infoStr (100 + k1) (100 + (k1 : Int)) (by omega) (by omega) (by unfold maxLen; omega) w
        have hb5 := hb4.trans (O5.below hb4.size (by simp))
        have hb5s := hb5.size
        clear r0 r1 H3 H
        have R5 := Row.new w5 9 (madeCells (Value.cells (.string .empty)) ((100 + k1) * 1))
        rw [empties] at R5
        have r5 := slice_of_row (xs := List.replicate (100 + k1) ByteArray.empty) R5 (repL_strs (o := true) (w := w5.alloc (.cells (madeCells (Value.cells (.string .empty)) ((100 + k1) * 1)) 9)) _ (by intro s hs; rw [List.eq_of_mem_replicate hs]; decide)) (by simp [maxLen]; omega)
        rw [List.length_replicate] at r5
        have RR := Lib.hid r5
        clear r5 R5
        go_wp2_with fail
        go_ret2
        exact ⟨List.replicate (100 + k1) .empty, t, _, _, rfl, RR.out, by simp; omega, fun s hs => by rw [List.eq_of_mem_replicate hs]; decide, ht, hb5.alloc hb5s _⟩
end Go.Proofs.Ytnmciooolocjdaa
