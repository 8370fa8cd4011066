/- Two texts that a law draws. Conditions: none. -/
import Derived.Test.YtelkggafmnckoaaBRow
import Derived.StillTail
import Derived.StillTailTactics
namespace Go.Proofs.Ytelkggafmnckoaa
open Go Go.RowKit

theorem infoByte : (Try.prog.info? 5).map (fun i => (i.zero, i.size, i.bytes)) = some (some (.int .u8 0), 1, 1) := by kernel_rfl
/-- What l25Two leaves. -/
def TwoPost (B g m : Nat) (code : List UInt8) (w : World) (en : Ending) (w' : World) : Prop :=
  (∃ a b : ByteArray, a.size ≤ 64 ∧ b.size ≤ 64 ∧ en = .returned (.tuple #[.string a, .string b])) ∧ SrcIs B g code m w' ∧ Only [g] w w'
set_option maxRecDepth 100000 in
set_option maxHeartbeats 4000000 in
theorem spec_l25Two_c {B g m : Nat} {code : List UInt8} (w : World) (h : SrcIs B g code m w) (hm : m ≤ 800000) (hB : B ≤ w.heap.size) :
    Calls Try.prog 37 #[.pointer (some ⟨g, 0, none⟩)] w (TwoPost B g (m + 50) code w) := by
  have H1 := Lib.hid (spec_l25Word_c w h (by omega))
  clear h
  go_enter Try.func37, Try.ntmps37
  go_wp2_with fail
  refine H1.out.mono ?_
  rintro e w1 ⟨⟨a, ha, rfl⟩, S1, O1⟩
  have H2 := Lib.hid (src_one_c w1 S1 (by omega) 3 (by omega))
  go_wp2_with fail
  refine H2.out.mono ?_
  rintro e w2 ⟨⟨q, rfl⟩, S2, O2⟩
  have O12 := O1.trans O2
  cases q with
  | true =>
    have H3 := Lib.hid (spec_l25Word_c w2 S2 (by omega))
    go_wp2_with fail
    refine H3.out.mono ?_
    rintro e w3 ⟨⟨b, hb, rfl⟩, S3, O3⟩
    go_wp2_with fail
    go_ret2
    exact ⟨⟨a, b, by omega, by omega, rfl⟩, S3.more (by omega), O12.trans O3⟩
  | false =>
    obtain ⟨cap, w3, hcv, R3, b3, hc3, hc4⟩ := brow_of_string (P := Try.prog) (src := 9) (dst := 22) (e := 5) a w2 Try.underlying9 Try.underlying22 Try.underlying5 (by unfold maxLen; omega)
    have s12 := O12.size
    have S3 := S2.below b3
    have O3 := O12.trans (Only.of_below (F := [g]) b3)
    have H3 := Lib.hid (src_pick_c w3 S3 (by omega) 4 (by omega))
    go_wp2_with fail
    refine H3.out.mono ?_
    rintro e w4 ⟨⟨r, r0, r1, rfl⟩, S4, O4⟩
    obtain ⟨k0, rfl⟩ := Int.eq_ofNat_of_zero_le r0
    have hk0 : k0 ≤ 3 := by omega
    have R4 := R3.only O4 (by have := S4.low; simp; omega)
    clear r0 r1 hcv
    have O34 := O3.trans O4
    clear H1 H2 H3
    go_wp2_with fail
    go_loopw [5, 6] (fun b i wr => ∃ (k n cap gb : Nat), i = .int .i64 k ∧ k ≤ 3 ∧ b = .slice (some ⟨gb, 0, none⟩) n cap ∧ n + k ≤ 63 ∧ n ≤ cap ∧ cap ≤ maxLen ∧ BRow wr gb cap ∧ w.heap.size ≤ gb ∧ SrcIs B g code (m + 30 - 5 * k) wr ∧ Only [g] w wr) (fun _ i _ => (intOf i).toNat)
    case atStart => exact ⟨k0, a.size, cap, w2.heap.size, rfl, hk0, rfl, by omega, hc3, hc4, R4, by omega, S4.more (by omega), O34⟩
    case round =>
      obtain ⟨k, n, cap, gb, rfl, hk, rfl, hnk, hnc, hcm, R, hgb, S, O⟩ := hrel
      obtain ⟨st, hst, hcv⟩ := brow_string (P := Try.prog) (src := 22) (dst := 9) (e := 5) (c := cap) R hnc Try.underlying22 Try.underlying5 Try.underlying9
      have HST := Lib.hid hst
      clear hst
      have fin : ∀ n', TwoPost B g (m + 50) code w (.returned (.tuple #[.string a, .string st])) (wr.drewN n') := fun n' => ⟨⟨a, st, by omega, by have := HST.out; omega, rfl⟩, (S.more (by omega)).below ⟨rfl, rfl, rfl, Nat.le_refl _, fun _ _ => rfl⟩, only_drewN O _⟩
      have FIN := Lib.hid fin
      clear fin
      by_cases hgo : 0 < k ∧ 0 < n
      · obtain ⟨hk0', hn0'⟩ := hgo
        have g1 : (0 : Int) < (k : Int) := by omega
        have g2 : (0 : Int) < (n : Int) := by omega
        have kw : IntKind.i64.wrap ((k : Int) - 1) = (k : Int) - 1 := IntWalk.i64_in _ (by omega)
        have P1 := Lib.hid (src_pick_c wr S (by omega) (n : Int) (by omega))
        clear hcv
        go_wp2_with fail
        refine P1.out.mono ?_
        rintro e w5 ⟨⟨r, r0, r1, rfl⟩, S5, O5⟩
        obtain ⟨j, rfl⟩ := Int.eq_ofNat_of_zero_le r0
        have hj : j < n := by omega
        have P2 := Lib.hid (src_pick_c w5 S5 (by omega) 3 (by omega))
        clear r0 r1
        go_wp2_with fail
        refine P2.out.mono ?_
        rintro e w6 ⟨⟨r, r0, r1, rfl⟩, S6, O6⟩
        have R6 := (R.only O5 (by have := S.low; simp; omega)).only O6 (by have := S.low; simp; omega)
        have O' := (O.trans O5).trans O6
        have rl := R6.lt
        have s6 := O'.size
        have i1 : (0 : Int) ≤ (j : Int) := by omega
        have i2 : (j : Int) < (n : Int) := by omega
        have hg1 : Hid (∀ x ∈ [gb], x ∈ [g] ∨ w.heap.size ≤ x) := by intro x hx; simp at hx; omega
        have hg2 : Hid (∀ b ∈ [gb], B ≤ b) := by intro x hx; simp at hx; omega
        have hr3 : r = 0 ∨ r = 1 ∨ r = 2 := by omega
        clear r0 r1 P1 P2 S5 O5 O6 S R HST FIN
        rcases hr3 with rfl | rfl | rfl
        · obtain ⟨x0, hx0⟩ := R6.cell (j := j) (by omega)
          have hf := R6.frozen (j := j) (by omega)
          go_wp2_with fail
          go_roundw
          case rel =>
            have o7 : Only [gb] w6 (w6.setCell ⟨gb, j, none⟩ (.int .u8 120)) := (Only.refl _ _).set (by simp) _
            exact ⟨k - 1, n, cap, gb, by go_num, by omega, rfl, by omega, hnc, hcm, R6.set j 120, hgb, (S6.only o7 hg2.out).more (by omega), only_new O' o7 hg1.out⟩
          case measure => simp [intOf]; omega
        · obtain ⟨i0, hi0, hz0, hz1, hz2⟩ := info_parts infoByte
          obtain ⟨l, hl, hlc⟩ := R6.list n hnc
          have hnl : (((l.drop (j + 1)).map fun b => Value.int .u8 (b.toNat : Int))).length = n - (j + 1) := by simp [hl]
          have hby : ∀ v ∈ ((l.drop (j + 1)).map fun b => Value.int .u8 (b.toNat : Int)), ∃ x : UInt8, v = .int .u8 (x.toNat : Int) := by
            intro v hv
            obtain ⟨x, _, rfl⟩ := List.mem_map.1 hv
            exact ⟨x, rfl⟩
          obtain ⟨AD, hAD, hnews⟩ : ∃ AD : Addr, (if cap = j + 1 then some (⟨gb, 0, none⟩ : Addr) else some ⟨gb, j + 1, none⟩) = some AD ∧ Hid (∀ i u, ((l.drop (j + 1)).map fun b => Value.int .u8 (b.toNat : Int))[i]? = some u → w6.drew.cell? (AD.add i) = some u) := by
            by_cases h : cap = j + 1
            · refine ⟨⟨gb, 0, none⟩, by simp [h], fun i u hu => ?_⟩
              have := (List.getElem?_eq_some_iff.1 hu).1
              omega
            · refine ⟨⟨gb, j + 1, none⟩, by simp [h], fun i u hu => ?_⟩
              have hi := (List.getElem?_eq_some_iff.1 hu).1
              rw [addr_add]
              have := hlc (j + 1 + i) (by omega)
              rw [show w6.drew.cell? ⟨gb, j + 1 + i, none⟩ = w6.cell? ⟨gb, j + 1 + i, none⟩ from rfl, this]
              rw [List.getElem?_map, List.getElem?_drop, List.getElem?_eq_getElem (by omega)] at hu
              exact hu
          generalize ((l.drop (j + 1)).map fun b => Value.int .u8 (b.toNat : Int)) = news at hnl hby hnews
          have s1 : Hid (news.length = (n - (j + 1)) * 1) := by show _ = _; rw [Nat.mul_one]; exact hnl
          have s2 : Hid (∀ u ∈ news, u.oneCell' = true) := by
            intro u hu
            obtain ⟨x, rfl⟩ := hby u hu
            rfl
          have s3 : Hid (∀ i, i < news.length → (w6.drew.cell? ⟨gb, 0 + j * 1 + i, none⟩).isSome = true ∧ w6.drew.frozen? ⟨gb, 0 + j * 1 + i, none⟩ = false) := by
            intro i hi
            obtain ⟨x, hx⟩ := R6.cell (j := 0 + j * 1 + i) (by omega)
            exact ⟨by show (w6.cell? _).isSome = true; rw [hx]; rfl, R6.frozen (by omega)⟩
          have HBY := Lib.hid hby
          have hwr : IntKind.i64.wrap ((j : Int) + 1) = (j : Int) + 1 := IntWalk.i64_in _ (by omega)
          have hp0 : (0 : Int) ≤ (j : Int) + 1 := by omega
          have hp3 : j ≤ cap := by omega
          have hp1 : (j : Int) + 1 ≤ (n : Int) := by omega
          have hp2 : ((j : Int) + 1).toNat = j + 1 := by omega
          clear hnl hby hlc
          go_wp2_with fail
          go_region_law (refine step_append_room (P := Try.prog) rfl (.tmp 46) (.tmp 50) 22 rfl 5 i0 1 Try.underlying22 hi0 hz1 gb 0 j cap (by simp [Act.eval, Act.put]) AD (n - (j + 1)) (cap - (j + 1)) news (by simp [Act.eval, Act.put]) s1.out hnews.out s2.out (by omega) s3.out ?_)
          go_wp2_with fail
          go_roundw
          case rel =>
            have o7 : Only [gb] w6.drew (w6.drew.setCells gb j news) := only_sets _ _ (Only.refl _ _) (by simp)
            have o7' : Only [gb] w6 (w6.drew.setCells gb j news) := ⟨o7.os, o7.tape, o7.output, o7.size, o7.block⟩
            exact ⟨k - 1, _, cap, gb, by go_num, by omega, rfl, by omega, by omega, hcm, BRow.sets (w := w6.drew) _ _ R6 HBY.out, hgb, (S6.only o7' hg2.out).more (by omega), only_new O' o7' hg1.out⟩
          case measure => simp [intOf]; omega
        · go_wp2_with (at_builtin; refine wpList_append_brow (P := Try.prog) rfl (.tmp 34) (.tmp 35) rfl Try.underlying22 infoByte (R6.alloc _) hnc hcm rfl rfl [.int .u8 113] rfl (by intro v hv; simp at hv; exact ⟨113, hv⟩) (by intro i u hu; cases i with | zero => simp at hu; subst hu; rw [addr_add]; exact (Row.new w6 _ _).cell' rfl | succ i => simp at hu) (by omega) ?_; intro g2 cap2 w7 R7 hg7 o7 hc7 hm7)
          go_wp2_with fail
          go_roundw
          case rel =>
            exact ⟨k - 1, _, cap2, g2, by go_num, by omega, rfl, by omega, by omega, hm7, R7, by simp at hg7; omega, ((S6.alloc _).only o7 hg2.out).more (by omega), only_new (O'.trans (Only.of_below ((Below.refl _ _).alloc (Nat.le_refl _) _))) o7 hg1.out⟩
          case measure => simp [intOf]; omega
      · clear S R HST
        rcases Nat.eq_zero_or_pos k with rfl | hk1
        · have g1 : ¬ ((0 : Int) < ((0 : Nat) : Int)) := by omega
          go_wp2_with fail
          go_quiet (fail)
          go_wp2_with fail
          go_ret2
          exact FIN.out _
        · obtain rfl : n = 0 := by omega
          have g1 : (0 : Int) < (k : Int) := by omega
          have g2 : ¬ ((0 : Int) < ((0 : Nat) : Int)) := by omega
          go_wp2_with fail
          go_quiet (fail)
          go_wp2_with fail
          go_ret2
          exact FIN.out _
end Go.Proofs.Ytelkggafmnckoaa
