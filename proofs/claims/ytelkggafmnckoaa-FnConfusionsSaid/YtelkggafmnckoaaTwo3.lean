/- What FnConfusions draws: cases. Conditions: none. -/
import Derived.Test.YtelkggafmnckoaaTwo
import Derived.Test.YtelkggafmnckoaaSrc3
import Derived.Test.YtelkggafmnckoaaTyCase
namespace Go.Proofs.Ytelkggafmnckoaa
open Go Go.RowKit

theorem infoCase : (Try.prog.info? 51).map (fun i => (i.zero, i.size, i.bytes)) = some (some (.agg #[.string .empty, .string .empty]), aCase.size, 32) := by kernel_rfl
theorem cases_nil (w : World) (e : TypeId) : (aCases e).rep true (w.alloc (.cells #[] e)) [] [.slice (some ⟨w.heap.size, 0, none⟩) 0 0] [w.heap.size] := slice_of_row (xs := []) (Row.new w _ #[]) ⟨rfl, rfl⟩ (by simp)
theorem cases_fill (n : Nat) : madeCells (Value.cells (.agg #[.string .empty, .string .empty])) (n * 2) = ((List.replicate n (⟨.empty, .empty⟩ : ACase)).flatMap aCaseCells).toArray := by
  apply Array.toList_inj.1
  have := madeCells_toList [.string .empty, .string .empty] n (by simp)
  rw [show (Value.cells (.agg #[.string .empty, .string .empty])) = [Value.string .empty, .string .empty].toArray from rfl]
  rw [show n * 2 = n * ([Value.string .empty, .string .empty]).length from rfl, this]
  simp only [List.toList_toArray]
  clear this
  induction n with
  | zero => rfl
  | succ n ih => simp only [List.replicate_succ, List.flatten_cons, List.flatMap_cons, ih]; rfl
def CaseSmall (c : ACase) : Prop := c.want.size ≤ 64 ∧ c.got.size ≤ 64
/-- What l25List leaves. -/
def ListPost (B g m : Nat) (code : List UInt8) (w : World) (en : Ending) (w' : World) : Prop :=
  ∃ (xs : List ACase) (u : Value) (G : List Nat), en = .returned u ∧ (aCases 51).rep true w' xs [u] G ∧ xs.length ≤ 60 ∧ (∀ c ∈ xs, CaseSmall c) ∧ Only [g] w w'
set_option maxRecDepth 100000 in
set_option maxHeartbeats 4000000 in
theorem spec_l25List_c {B g m : Nat} {code : List UInt8} (w : World) (h : SrcIs B g code m w) (hm : m ≤ 700000) (hB : B ≤ w.heap.size) :
    Calls Try.prog 63 #[.pointer (some ⟨g, 0, none⟩)] w (ListPost B g m code w) := by
  have hgw := h.lt
  have H1 := Lib.hid (src_pick_c _ (h.alloc (.cells #[] 51)) (by omega) 7 (by omega))
  clear h
  go_enter Try.func63, Try.ntmps63
  go_wp2_with fail
  refine H1.out.mono ?_
  rintro e w1 ⟨⟨r, r0, r1, rfl⟩, S1, O1⟩
  obtain ⟨k0, rfl⟩ := Int.eq_ofNat_of_zero_le r0
  have hk0 : k0 ≤ 6 := by omega
  have em1 := (cases_nil w 51).only O1 (fun b hb hin => by simp at hb hin; omega)
  have OA : Only [g] w w1 := (Only.of_below ((Below.refl _ _).alloc (Nat.le_refl _) _)).trans O1
  clear r0 r1 H1
  go_wp2_with fail
  go_loopw [3, 4] (fun l i wr => ∃ (k : Nat) (xs : List ACase) (v : Value) (G : List Nat), i = .int .i64 k ∧ k ≤ 6 ∧ v = l ∧ (aCases 51).rep true wr xs [v] G ∧ Fresh w.heap.size G ∧ xs.length + k ≤ 6 ∧ Hid (∀ c ∈ xs, CaseSmall c) ∧ SrcIs B g code (m + 1 + 60 * (6 - k)) wr ∧ Only [g] w wr) (fun _ i _ => (intOf i).toNat)
  case atStart => exact ⟨k0, [], _, _, rfl, hk0, rfl, em1, ⟨by simp, by simp⟩, by simpa using hk0, Lib.hid (by simp), S1.more (by omega), OA⟩
  case round =>
    obtain ⟨k, xs, v, G, rfl, hk, hv, rep, fr, hlen, hsm, S, O⟩ := hrel
    subst hv
    have hbs := O.size
    have hgG : g ∉ G := fun hin => by have := fr.2 g hin; omega
    have REP := Lib.hid rep
    have HGG := Lib.hid hgG
    obtain ⟨U, n9, c9, rfl⟩ : ∃ A n c, v = .slice A n c := by
      obtain ⟨A, c, rfl⟩ := slice_len rep
      exact ⟨_, _, _, rfl⟩
    clear rep hgG
    by_cases hlt : 0 < k
    · have g1 : (0 : Int) < (k : Int) := by omega
      have kw : IntKind.i64.wrap ((k : Int) - 1) = (k : Int) - 1 := IntWalk.i64_in _ (by omega)
      have H := Lib.hid (spec_l25Two_c wr S (by omega) (by omega))
      go_wp2_with fail
      refine H.out.mono ?_
      rintro e w4 ⟨⟨ta, tb, hta, htb, rfl⟩, S4, O4⟩
      have R4 := Lib.hid (REP.out.only O4 (fun b hb' hin => by simp at hin; subst hin; exact HGG.out hb'))
      have h4s := O4.size
      have O4' := O.trans O4
      have ok1 : ∀ s ∈ [(⟨ta, tb⟩ : ACase)], aCaseOk s := fun s hs => by
        simp only [List.mem_singleton] at hs
        subst hs
        exact ⟨by show ta.size ≤ maxLen; unfold maxLen; omega, by show tb.size ≤ maxLen; unfold maxLen; omega⟩
      have OK1 := Lib.hid ok1
      clear ok1
      go_wp2_with (at_builtin; refine wpList_append_rep (T := aCase) (e := 51) (ys := [⟨ta, tb⟩]) (ec := [.string ta, .string tb]) rfl (.tmp 19) (.tmp 23) rfl Try.underlying41 infoCase rfl (by decide) rfl (R4.out.alloc _) rfl (repL_aCase [⟨ta, tb⟩] OK1.out) (cellsAt_new _ _ _) trivial (by simpa using fr.1) (by simp [maxLen]; omega) (by simp; omega) ?_; intro v5 w5 F5 r5 o5 q5)
      have f5 := q5 w.heap.size (by simpa using fr) (by simp; omega)
      have HSM : Hid (∀ c ∈ xs ++ [⟨ta, tb⟩], CaseSmall c) := fun c hc => by
        rcases List.mem_append.1 hc with hc | hc
        · exact hsm.out c hc
        · simp only [List.mem_singleton] at hc; subst hc; exact ⟨hta, htb⟩
      have S5 := (S4.alloc (.cells #[.string ta, .string tb] 51)).only o5 (fun b hb' => by have := fr.2 b hb'; omega)
      have O5 := only_new (O4'.trans (Only.of_below ((Below.refl _ _).alloc (Nat.le_refl _) _))) o5 (fun x hx => .inr (fr.2 x hx))
      have R5 := Lib.hid r5
      clear r5 o5 q5
      go_wp2_with fail
      go_roundw
      case rel => exact ⟨k - 1, _, v5, F5, by go_num, by omega, rfl, R5.out, f5, by simp; omega, HSM, S5.more (by omega), O5⟩
      case measure => simp [intOf]; omega
    · obtain rfl : k = 0 := by omega
      have H := Lib.hid (src_one_c wr S (by omega) 24 (by omega))
      go_wp2_with fail
      refine H.out.mono ?_
      rintro e w4 ⟨⟨q, rfl⟩, S4, O4⟩
      have R4 := Lib.hid (REP.out.only O4 (fun b hb' hin => by simp at hin; subst hin; exact HGG.out hb'))
      have O4' := O.trans O4
      cases q
      · go_wp2_with fail
        go_ret
        exact ⟨xs, _, G, rfl, R4.out, by omega, hsm.out, O4'⟩
      · have H3 := Lib.hid (src_pick_c w4 S4 (by omega) 2 (by omega))
        go_wp2_with fail
        refine H3.out.mono ?_
        rintro e w5 ⟨⟨r, r0, r1, rfl⟩, S5, O5⟩
        obtain ⟨k1, rfl⟩ := Int.eq_ofNat_of_zero_le r0
        have hk1 : k1 ≤ 1 := by omega
        have kw2 : IntKind.i64.wrap (50 + (k1 : Int)) = 50 + (k1 : Int) := IntWalk.i64_in _ (by omega)
        have hmk := fun w => make_run (P := Try.prog) Try.underlying41 infoCase (50 + k1) (50 + (k1 : Int)) (by omega) (by omega) (by unfold maxLen; omega) w
        have O5' := O4'.trans O5
        clear r0 r1 H3 H
        have hrep : List.replicate (50 + k1) (⟨.empty, .empty⟩ : ACase) = ⟨.empty, .empty⟩ :: List.replicate (49 + k1) ⟨.empty, .empty⟩ := by
          rw [show 50 + k1 = (49 + k1) + 1 by omega, List.replicate_succ]
        have harr : (madeCells #[Value.string .empty, .string .empty] ((50 + k1) * aCase.size)).setIfInBounds 0 (.string ⟨#[97]⟩) = (((⟨⟨#[97]⟩, .empty⟩ : ACase) :: List.replicate (49 + k1) ⟨.empty, .empty⟩).flatMap aCaseCells).toArray := by
          have e := cases_fill (50 + k1)
          rw [hrep] at e
          rw [show madeCells #[Value.string .empty, .string .empty] ((50 + k1) * aCase.size) = _ from e]
          apply Array.toList_inj.1
          rw [Array.toList_setIfInBounds]
          simp [aCaseCells]
        have sm6 : ∀ s ∈ (⟨⟨#[97]⟩, .empty⟩ : ACase) :: List.replicate (49 + k1) ⟨.empty, .empty⟩, CaseSmall s := fun s hs => by
          rcases List.mem_cons.1 hs with rfl | hs
          · exact ⟨by decide, by decide⟩
          · rw [List.eq_of_mem_replicate hs]; exact ⟨by decide, by decide⟩
        have l6 : ((⟨⟨#[97]⟩, .empty⟩ : ACase) :: List.replicate (49 + k1) ⟨.empty, .empty⟩).length = 50 + k1 := by simp; omega
        have R6 := Row.new w5 51 (((⟨⟨#[97]⟩, .empty⟩ : ACase) :: List.replicate (49 + k1) ⟨.empty, .empty⟩).flatMap aCaseCells).toArray
        rw [List.toList_toArray] at R6
        have r6 := slice_of_row (T := aCase) R6 (repL_aCase _ (fun s hs => by have := sm6 s hs; unfold CaseSmall at this; unfold aCaseOk maxLen; omega)) (by rw [l6]; unfold maxLen; omega)
        rw [l6] at r6
        have fin : ListPost B g m code w (.returned (.slice (some ⟨w5.heap.size, 0, none⟩) (50 + k1) (50 + k1))) (w5.alloc (.cells ((madeCells #[Value.string .empty, .string .empty] ((50 + k1) * aCase.size)).setIfInBounds 0 (.string ⟨#[97]⟩)) 51)) := by
          rw [harr]
          exact ⟨_, _, _, rfl, r6, by rw [l6]; omega, sm6, O5'.trans (Only.of_below ((Below.refl _ _).alloc (Nat.le_refl _) _))⟩
        have FIN := Lib.hid fin
        have i1 : (0 : Int) < 50 + (k1 : Int) := by omega
        have i2 : 0 < 50 + k1 := by omega
        have R5 := Row.new w5 51 (madeCells #[Value.string .empty, .string .empty] ((50 + k1) * aCase.size))
        have hcan := R5.can (i := 0) (by show 0 < (madeCells _ _).toList.length; simp [madeCells]; show 0 < (50 + k1) * 2; omega)
        obtain ⟨⟨cv, c0⟩, cf⟩ := hcan
        clear fin r6 l6 sm6 R6 R5 hrep harr
        go_wp2_with fail
        go_ret
        exact FIN.out
end Go.Proofs.Ytelkggafmnckoaa
