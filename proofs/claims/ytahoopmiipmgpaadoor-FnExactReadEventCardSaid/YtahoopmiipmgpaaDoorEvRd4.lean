/- Numbers of a text as the reference reads them. Conditions: none. -/
import Derived.Deep.Cut
import Derived.Deep.CutRange
import Derived.Test.YtahoopmiipmgpaaDoorEvRd3
import Derived.Test.YtahoopmiipmgpaaDoorDec
namespace Go.Proofs.YtahoopmiipmgpaaDoor
open Go Go.RowKit

set_option maxRecDepth 100000 in
set_option maxHeartbeats 4000000 in
theorem spec_l01DecN_c (n : Nat) (w : World) (h0 : 0 < n) (hn : n ≤ 9223372036854775807) :
    Calls Tryd.prog 90 #[.int .i64 (-(n : Int))] w fun e w' => e = .returned (.string ⟨(45 :: Lib.decDigits n).toArray⟩) ∧ Below w.heap.size w w' := by
  go_enter Tryd.func90, Tryd.ntmps90
  go_wp2_with fail
  go_loopw [3, 4, 5] (fun ov kv dv wr => ∃ (m f : Nat) (l : List UInt8) (u : Value) (G : List Nat), m ≤ n ∧ kv = .int .i64 (-(m : Int)) ∧ u = ov ∧ Hid (decP n = decP m ++ l) ∧ Hid (m < 10 ^ f) ∧ l.length + f ≤ 19 ∧ (bytesT 5).rep true wr l [u] G ∧ Fresh w.heap.size G ∧ Below w.heap.size w wr) (fun _ kv _ _ => (-(intOf kv)).toNat)
  case atStart => exact ⟨n, 19, [], _, [w.heap.size], Nat.le_refl _, rfl, rfl, (by show _ = _; simp), (by show n < 10 ^ 19; omega), by simp, slice_of_row (xs := []) (Row.new w _ _) ⟨rfl, rfl⟩ (by simp [maxLen]), ⟨by simp, by simp⟩, (Below.refl _ _).alloc (Nat.le_refl _) _⟩
  case round =>
    obtain ⟨m, f, l, u, G, hm, rfl, rfl, hd, hlt, hlf, hrep, hfr, hb⟩ := hrel
    have hbs := hb.size
    by_cases hz : 0 < m
    · obtain ⟨q, hq⟩ : ∃ q, q = m % 10 := ⟨_, rfl⟩
      obtain ⟨r, hr⟩ : ∃ r, r = m / 10 := ⟨_, rfl⟩
      have gz : ((-(m : Int)) != 0) = true := by rw [bne_iff_ne]; omega
      have gz2 : ((m : Int) != 0) = true := by rw [bne_iff_ne]; omega
      have gz3 : ((m : Int) = 0) = False := eq_false (by omega)
      have e1 : (-(m : Int)).tmod 10 = -(q : Int) := by rw [Int.neg_tmod, Int.tmod_eq_emod_of_nonneg (by omega)]; omega
      have e2 : (-(m : Int)).tdiv 10 = -(r : Int) := by rw [Int.neg_tdiv, Int.tdiv_eq_ediv_of_nonneg (by omega)]; omega
      have hstep := decP_step hz
      rw [← hq, ← hr] at hstep
      have hq10 : q < 10 := by omega
      have hrm : r < m := by omega
      obtain ⟨f', rfl⟩ : ∃ f', f = f' + 1 := by
        cases f with
        | zero => have := hlt.out; simp at this; omega
        | succ f' => exact ⟨f', rfl⟩
      have hrf : r < 10 ^ f' := by have := hlt.out; rw [Nat.pow_succ] at this; omega
      obtain ⟨A, c, rfl, _⟩ := bytes_at hrep
      have HREP := Lib.hid hrep
      have ed : (48 + (q : Int)) = ((UInt8.ofNat (48 + q)).toNat : Int) := by
        rw [UInt8.toNat_ofNat', Nat.mod_eq_of_lt (by omega)]; omega
      have HD : (bytesT 5).rep true (wr.alloc (.cells #[.int .u8 (48 + (q : Int))] 5)) [UInt8.ofNat (48 + q)] [.slice (some ⟨wr.heap.size, 0, none⟩) 1 1] [wr.heap.size] := by
        rw [ed]
        exact slice_of_row (xs := [UInt8.ofNat (48 + q)]) (Row.new wr _ _) (repL_byte _) (by simp [maxLen])
      have hat : CellsAt (wr.alloc (.cells #[.int .u8 (48 + (q : Int))] 5)) A (l.map fun b => .int .u8 b.toNat) := by
        obtain ⟨A', c', hv, h2⟩ := bytes_at (hrep.alloc (.cells #[.int .u8 (48 + (q : Int))] 5))
        injection hv with h1
        subst h1
        exact h2
      have HA := Lib.hid hat
      have HDD := Lib.hid HD
      have hdP := hd.out
      have HST := Lib.hid hstep
      clear hrep hat HD ed hstep hq hr hd
      by_cases hq0 : q = 0
      · subst hq0
        have e1 : (-(m : Int)).tmod 10 = 0 := e1
        have HDD : Hid ((bytesT 5).rep true (wr.alloc (.cells #[.int .u8 48] 5)) [UInt8.ofNat (48 + 0)] [.slice (some ⟨wr.heap.size, 0, none⟩) 1 1] [wr.heap.size]) := HDD
        have HA : Hid (CellsAt (wr.alloc (.cells #[.int .u8 48] 5)) A (l.map fun b => .int .u8 b.toNat)) := HA
        go_wp2_with (at_builtin; go_loud (refine wpList_append_repX (T := byte) (e := 5) (xs := [UInt8.ofNat (48 + 0)]) (ys := l) (ec := l.map fun b => .int .u8 b.toNat) rfl (.tmp 21) (.tmp 22) rfl Tryd.underlying68 infoU8 rfl (by decide) rfl HDD.out rfl (repL_byte _) HA.out trivial (by simp) (by simp only [List.length_singleton, maxLen]; omega) (by simp only [List.length_singleton]; omega) ?_); intro v2 w4 F2 r2 o2 q2 x2)
        go_roundw
        case rel =>
          refine ⟨r, f', UInt8.ofNat (48 + 0) :: l, v2, F2, by omega, by go_num, rfl, ?_, hrf, by simp only [List.length_cons]; omega, r2, q2 _ ⟨by simp, by simpa using hbs⟩ (by simp; omega), (hb.alloc hbs _).trans (o2.below (by simp; omega) (by simpa using hbs))⟩
          show decP n = _
          rw [hdP, HST.out]; simp
        case measure => simp [intOf]; omega
      · have g1 : (-(q : Int) < 0) = True := eq_true (by omega)
        have g2 : ((0 : Int) < (q : Int)) = True := eq_true (by omega)
        have g3 : (0 < q) = True := eq_true (by omega)
        go_wp2_with (at_builtin; go_loud (refine wpList_append_repX (T := byte) (e := 5) (xs := [UInt8.ofNat (48 + q)]) (ys := l) (ec := l.map fun b => .int .u8 b.toNat) rfl (.tmp 21) (.tmp 22) rfl Tryd.underlying68 infoU8 rfl (by decide) rfl HDD.out rfl (repL_byte _) HA.out trivial (by simp) (by simp only [List.length_singleton, maxLen]; omega) (by simp only [List.length_singleton]; omega) ?_); intro v2 w4 F2 r2 o2 q2 x2)
        go_roundw
        case rel =>
          refine ⟨r, f', UInt8.ofNat (48 + q) :: l, v2, F2, by omega, by go_num, rfl, ?_, hrf, by simp only [List.length_cons]; omega, r2, q2 _ ⟨by simp, by simpa using hbs⟩ (by simp; omega), (hb.alloc hbs _).trans (o2.below (by simp; omega) (by simpa using hbs))⟩
          show decP n = _
          rw [hdP, HST.out]; simp
        case measure => simp [intOf]; omega
    · obtain rfl : m = 0 := by omega
      have hd' := hd.out
      rw [show decP 0 = [] from rfl, List.nil_append] at hd'
      have hl : l = Lib.decDigits n := by rw [← hd']; simp [decP]; omega
      have hpos : 0 < l.length := by rw [hl]; exact dd_pos n
      have hcv := conv_bytes hrep Tryd.underlying68 Tryd.underlying5 Tryd.underlying9 hpos
      obtain ⟨A, c, rfl⟩ := slice_len hrep
      have g1 : ((l.length : Int) == 0) = false := by rw [beq_eq_false_iff_ne]; omega
      have g2 : (-(n : Int) < 0) = True := eq_true (by omega)
      have g3 : ((0 : Int) < (n : Int)) = True := eq_true (by omega)
      have g4 : (0 < n) = True := eq_true (by omega)
      have HL := Lib.hid hl
      clear hl hd' hpos
      go_wp2_with fail
      go_ret
      exact ⟨by have e := HL.out; subst e; rfl, hb⟩
theorem spec_l01DecI_c (v : Int) (w : World) (h : -9223372036854775807 ≤ v) (h' : v ≤ 9223372036854775807) :
    Calls Tryd.prog 90 #[.int .i64 v] w fun e w' => e = .returned (.string ⟨(Lib.itoa v).toArray⟩) ∧ Below w.heap.size w w' := by
  by_cases hv : v < 0
  · obtain ⟨n, rfl⟩ : ∃ n : Nat, v = -(n : Int) := ⟨v.natAbs, by omega⟩
    rw [Lib.itoa_neg n (by omega)]
    exact spec_l01DecN_c n w (by omega) (by omega)
  · obtain ⟨n, rfl⟩ : ∃ n : Nat, v = (n : Int) := ⟨v.toNat, by omega⟩
    rw [Lib.itoa_nonneg]
    exact spec_l01Dec_c n w (by omega)
end Go.Proofs.YtahoopmiipmgpaaDoor
