/- The distance of two texts: it is symmetric, no way over a third is shorter, and it is what the alignment costs. No program is named here. Conditions: none. -/
import Derived.Test.YtelkggafmnckoaaEvEd
import Derived.Test.YtelkggafmnckoaaEvAlign
import Derived.Test.YtelkggafmnckoaaEvStep
import Derived.Test.YtelkggafmnckoaaEdLaw
namespace Go.Proofs.Ytelkggafmnckoaa
open Go Go.RowKit

/-- The bytes of a text. -/
def bl (a : ByteArray) : List UInt8 := a.data.toList
theorem bl_len (a : ByteArray) : (bl a).length = a.size := Array.length_toList
theorem bl_inj {a b : ByteArray} (h : bl a = bl b) : a = b := by
  cases a with | mk x => cases b with | mk y => have e : x = y := Array.toList_inj.1 h; rw [e]
theorem bl_get {a : ByteArray} {i : Nat} (h : i < a.size) : (bl a)[i]'(by rw [bl_len]; exact h) = a[i] := by
  simp [bl]; rfl
theorem sameAt_bl {a b : ByteArray} {i j : Nat} (hi : i < a.size) (hj : j < b.size) : sameAt a b i j = decide ((bl a)[i]'(by rw [bl_len]; exact hi) = (bl b)[j]'(by rw [bl_len]; exact hj)) := by
  unfold sameAt
  rw [dif_pos ⟨hi, hj⟩, bl_get hi, bl_get hj]
  apply decide_eq_decide.2
  exact ⟨fun h => UInt8.toNat_inj.1 h, fun h => by rw [h]⟩
theorem dist_ed (a b : ByteArray) : ∀ (n p q : Nat), p + q = n → p ≤ a.size → q ≤ b.size → dist a b p q = ed ((bl a).drop (a.size - p)) ((bl b).drop (b.size - q)) := by
  intro n
  induction n using Nat.strongRecOn with
  | _ n ih =>
    intro p q hn hp hq
    cases p with
    | zero => rw [dist_zero, Nat.sub_zero, List.drop_of_length_le (by rw [bl_len]; omega), ed_nil, List.length_drop, bl_len]; omega
    | succ p =>
      cases q with
      | zero => rw [dist_zero', Nat.sub_zero, List.drop_of_length_le (l := bl b) (by rw [bl_len]; omega), ed_nil', List.length_drop, bl_len]; omega
      | succ q =>
        have hi : a.size - (p + 1) < a.size := by omega
        have hj : b.size - (q + 1) < b.size := by omega
        have e1 : a.size - (p + 1) + 1 = a.size - p := by omega
        have e2 : b.size - (q + 1) + 1 = b.size - q := by omega
        have f1 := List.drop_eq_getElem_cons (l := bl a) (i := a.size - (p + 1)) (by rw [bl_len]; omega)
        have f2 := List.drop_eq_getElem_cons (l := bl b) (i := b.size - (q + 1)) (by rw [bl_len]; omega)
        rw [e1] at f1
        rw [e2] at f2
        have i1 := ih (p + q) (by omega) p q rfl (by omega) (by omega)
        have i2 := ih (p + (q + 1)) (by omega) p (q + 1) rfl (by omega) (by omega)
        have i3 := ih (p + 1 + q) (by omega) (p + 1) q rfl (by omega) (by omega)
        rw [dist_step, sameAt_bl hi hj, i1, i2, i3, f1, f2, ed_cons]
        simp only [decide_eq_true_eq]
theorem edist_ed (a b : ByteArray) : edist a b = ed (bl a) (bl b) := by
  unfold edist D
  rw [dist_ed a b _ _ _ rfl (by omega) (by omega)]
  simp
theorem lcs_lc (a b : ByteArray) : ∀ (n i k : Nat), i + k = n → i ≤ a.size → k ≤ b.size → lcs a b i k = lc ((bl a).take i).reverse ((bl b).take k).reverse := by
  intro n
  induction n using Nat.strongRecOn with
  | _ n ih =>
    intro i k hn hi hk
    cases i with
    | zero => rw [lcs_zero]; simp [lc]
    | succ i =>
      cases k with
      | zero => rw [lcs_zero']; cases h : ((bl a).take (i + 1)).reverse <;> simp [lc]
      | succ k =>
        have f1 : ((bl a).take (i + 1)).reverse = (bl a)[i]'(by rw [bl_len]; omega) :: ((bl a).take i).reverse := by
          rw [List.take_succ_eq_append_getElem (by rw [bl_len]; omega), List.reverse_append]; rfl
        have f2 : ((bl b).take (k + 1)).reverse = (bl b)[k]'(by rw [bl_len]; omega) :: ((bl b).take k).reverse := by
          rw [List.take_succ_eq_append_getElem (by rw [bl_len]; omega), List.reverse_append]; rfl
        have i1 := ih (i + k) (by omega) i k rfl (by omega) (by omega)
        have i2 := ih (i + 1 + k) (by omega) (i + 1) k rfl (by omega) (by omega)
        have i3 := ih (i + (k + 1)) (by omega) i (k + 1) rfl (by omega) (by omega)
        rw [lcs_step, sameAt_bl (by omega) (by omega), i1, i2, i3, f1, f2, lc_cons]
        simp only [decide_eq_true_eq]
theorem lcs_all (a b : ByteArray) : lcs a b a.size b.size = lc (bl a).reverse (bl b).reverse := by
  rw [lcs_lc a b _ _ _ rfl (by omega) (by omega), List.take_of_length_le (by rw [bl_len]; omega), List.take_of_length_le (by rw [bl_len]; omega)]
theorem edist_comm (a b : ByteArray) : edist a b = edist b a := by rw [edist_ed, edist_ed, ed_comm]
theorem edist_triangle (a b c : ByteArray) : edist a c ≤ edist a b + edist b c := by rw [edist_ed, edist_ed, edist_ed]; exact ed_triangle _ _ _
theorem edist_zero (a b : ByteArray) : edist a b = 0 ↔ a = b := by rw [edist_ed, ed_zero]; exact ⟨bl_inj, fun h => by rw [h]⟩
theorem edist_max (a b : ByteArray) : edist a b ≤ max a.size b.size := by have := (ed_bounds _ (bl a) (bl b) rfl).2.2; rw [edist_ed]; rwa [bl_len, bl_len] at this
theorem edist_lcs (a b : ByteArray) : max a.size b.size ≤ edist a b + lcs a b a.size b.size := by have := ed_lc (bl a) (bl b); rw [edist_ed, lcs_all]; rwa [bl_len, bl_len] at this
theorem align_law (a b : ByteArray) : ∀ f i j, i ≤ a.size → j ≤ b.size → (a.size - i) + (b.size - j) ≤ f → isAl a b (alignFrom a b f i j) i j = true ∧ cost (alignFrom a b f i j) = (D a b i j : Int)
  | 0, i, j, hi, hj, hf => by
    have e1 : i = a.size := by omega
    have e2 : j = b.size := by omega
    subst e1 e2
    rw [D_lastI]
    simp [alignFrom, isAl, cost]
  | f + 1, i, j, hi, hj, hf => by
    by_cases h : i < a.size ∨ j < b.size
    · obtain ⟨h1, h2⟩ := fits_opAt hi hj h
      obtain ⟨l1, l2⟩ := allows_le h1
      have hp := pass_pos (opAt a b i j)
      obtain ⟨r1, r2⟩ := align_law a b f (i + passI (opAt a b i j)) (j + passJ (opAt a b i j)) l1 l2 (by omega)
      rw [alignFrom_step h]
      refine ⟨by simp only [isAl, h1, r1]; simp, ?_⟩
      simp only [cost, r2]
      rw [← h2]
      unfold opCost
      by_cases h0 : opAt a b i j = 0
      · simp [h0]
      · rw [if_neg h0, if_neg (by omega)]; omega
    · have e1 : i = a.size := by omega
      have e2 : j = b.size := by omega
      subst e1 e2
      rw [D_lastI, alignFrom_end]
      simp [isAl, cost]
theorem align_ok (a b : ByteArray) : isAl a b (align a b) 0 0 = true ∧ cost (align a b) = (edist a b : Int) := align_law a b _ 0 0 (by omega) (by omega) (by omega)
end Go.Proofs.Ytelkggafmnckoaa
