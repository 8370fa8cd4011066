/- Trees, in plain Lean: what a tree's nodes say, its depth, its leaves. No program is named here. Conditions: none. -/
import Derived.Test.YtkickllohilciaaRdE
namespace Go.Proofs.Ytkickllohilciaa
open Go Go.RowKit

theorem tree_good {xs : List PSymbol} {ns : List PNode} (h : treeB xs ns = true) {k : Nat} (hk : k < ns.length) : goodAt xs ns k = true := by
  unfold treeB at h
  simp only [Bool.and_eq_true] at h
  have := h.2.1
  unfold allGood at this
  rw [List.all_eq_true] at this
  exact this k (List.mem_range.2 hk)
theorem tree_few {xs : List PSymbol} {ns : List PNode} (h : treeB xs ns = true) : ns.length ≤ 15 := by
  unfold treeB at h
  simp only [Bool.and_eq_true, decide_eq_true_iff] at h
  exact h.1.2
theorem tree_some {xs : List PSymbol} {ns : List PNode} (h : treeB xs ns = true) : 1 ≤ ns.length := by
  unfold treeB at h
  simp only [Bool.and_eq_true, decide_eq_true_iff] at h
  exact h.1.1
theorem tree_parts {xs : List PSymbol} {ns : List PNode} (h : treeB xs ns = true) {k : Nat} (hk : k < ns.length) :
    (nodeAt ns k).kind = 0 ∨ ((1 ≤ (nodeAt ns k).kind ∧ (nodeAt ns k).kind ≤ 5) ∧ (0 ≤ (nodeAt ns k).a ∧ (nodeAt ns k).a < (k : Int)) ∧ ((nodeAt ns k).kind ≠ 5 → 0 ≤ (nodeAt ns k).b ∧ (nodeAt ns k).b < (k : Int)) ∧ ((nodeAt ns k).kind = 5 → (nodeAt ns k).b = 0)) := by
  have hg := tree_good h hk
  rw [goodAt_eq] at hg
  simp only [Bool.and_eq_true] at hg
  obtain ⟨h1, h2, _⟩ := hg
  rcases plainOk_kind xs h2 with h0 | h0
  · exact .inl h0
  · refine .inr ⟨h0, ?_⟩
    obtain ⟨l, hl⟩ := Option.isSome_iff_exists.1 h1
    rw [loAt_eq] at hl
    unfold loNode at hl
    rw [if_neg (by omega)] at hl
    split at hl
    · rename_i h5
      split at hl
      · rename_i ha
        refine ⟨by omega, fun h => absurd h5 h, fun _ => ?_⟩
        unfold plainOk at h2
        rw [if_neg (by omega), if_pos h5] at h2
        simp only [Bool.and_eq_true, decide_eq_true_iff] at h2
        exact h2.1
      · cases hl
    · rename_i h5
      split at hl
      · rename_i hb
        rw [losF_get ns (by omega)] at hl
        cases e : loAt ns (k - 1) with
        | none => rw [e] at hl; cases hl
        | some m =>
          rw [e] at hl
          dsimp only at hl
          have hm := loAt_lt ns e
          split at hl
          · exact ⟨by omega, fun _ => by omega, fun h => absurd h h5⟩
          · cases hl
      · cases hl
theorem depthAt_le {xs : List PSymbol} {ns : List PNode} (h : treeB xs ns = true) : ∀ k, k < ns.length → 0 ≤ depthAt ns k ∧ depthAt ns k ≤ (k : Int) + 1 := by
  intro k
  induction k using Nat.strongRecOn with
  | _ k ih =>
    intro hk
    unfold depthAt depthNode
    rcases tree_parts h hk with h0 | ⟨h1, ha, hb, _⟩
    · rw [if_pos h0]; omega
    · rw [if_neg (by omega)]
      have A := ih (nodeAt ns k).a.toNat (by omega) (by omega)
      rw [getD_some (depthsF_get ns (m := k) (k := (nodeAt ns k).a.toNat) (by omega))]
      by_cases h5 : (nodeAt ns k).kind = 5
      · rw [if_pos h5]; omega
      · rw [if_neg h5]
        have hb := hb h5
        have B := ih (nodeAt ns k).b.toNat (by omega) (by omega)
        rw [getD_some (depthsF_get ns (m := k) (k := (nodeAt ns k).b.toNat) (by omega))]
        omega
theorem depth_leaf {ns : List PNode} {k : Nat} (h : (nodeAt ns k).kind = 0) : depthAt ns k = 1 := by
  unfold depthAt depthNode; rw [if_pos h]
theorem depth_root {ns : List PNode} {k a : Nat} (h : (nodeAt ns k).kind = 5) (ha : (nodeAt ns k).a = (a : Int)) (hk : a < k) : depthAt ns k = depthAt ns a + 1 := by
  unfold depthAt depthNode
  rw [if_neg (by omega), if_pos h, ha, Int.toNat_natCast, getD_some (depthsF_get ns (m := k) hk)]
  rfl
theorem depth_both {ns : List PNode} {k a b : Nat} (h0 : (nodeAt ns k).kind ≠ 0) (h : (nodeAt ns k).kind ≠ 5) (ha : (nodeAt ns k).a = (a : Int)) (hb : (nodeAt ns k).b = (b : Int)) (hk : a < k) (hk2 : b < k) : depthAt ns k = max (depthAt ns a) (depthAt ns b) + 1 := by
  unfold depthAt depthNode
  rw [if_neg h0, if_neg h, ha, hb, Int.toNat_natCast, Int.toNat_natCast, getD_some (depthsF_get ns (m := k) hk), getD_some (depthsF_get ns (m := k) hk2)]
  rfl
/-- The depth that is told. -/
def depthR (xs : List PSymbol) (ns : List PNode) : Int := if askF xs ns = 0 then depthAt ns (ns.length - 1) else 0
/-- The leaves that are told. -/
def leavesR (xs : List PSymbol) (ns : List PNode) : List Int := if askF xs ns = 0 then symsF ns 0 ns.length else []
theorem useAll_in : ∀ {l : List Int} {us vs : List Bool}, useAll us l = some vs → ∀ s ∈ l, 0 ≤ s ∧ s < (us.length : Int)
  | [], _, _, _, s, hs => by cases hs
  | k :: l, us, vs, h, s, hs => by
    rw [useAll_cons] at h
    cases e : useK us k with
    | none => rw [e] at h; cases h
    | some ws =>
      rw [e] at h
      rcases List.mem_cons.1 hs with rfl | hs
      · unfold useK at e
        split at e
        · rename_i hc; exact ⟨hc.1, hc.2.1⟩
        · cases e
      · have := useAll_in (l := l) h s hs
        rw [useK_len e] at this
        exact this
theorem tree_syms {xs : List PSymbol} {ns : List PNode} (h : treeB xs ns = true) : ∀ s ∈ symsF ns 0 ns.length, 0 ≤ s ∧ s < (xs.length : Int) := by
  unfold treeB at h
  simp only [Bool.and_eq_true] at h
  intro s hs
  cases e : useAll (List.replicate xs.length false) (symsF ns 0 ns.length) with
  | none => rw [e] at h; simp at h
  | some us =>
    have := useAll_in e s hs
    simpa using this
theorem sym_mem {ns : List PNode} {k : Nat} (hk : k < ns.length) {s : Int} (h : s ∈ symOf (nodeAt ns k)) : s ∈ symsF ns 0 ns.length := by
  unfold symsF
  rw [List.mem_flatMap]
  exact ⟨k, List.mem_range'.2 ⟨k, by omega, by omega⟩, h⟩
theorem symOf_few (n : PNode) : (symOf n).length ≤ 1 := by
  unfold symOf
  split
  · simp
  · split <;> simp
theorem symsF_few (ns : List PNode) : ∀ k, (symsF ns 0 k).length ≤ k
  | 0 => by simp [symsF]
  | k + 1 => by
    rw [symsF_succ ns (Nat.zero_le _), List.length_append]
    have := symsF_few ns k
    have := symOf_few (nodeAt ns k)
    omega
end Go.Proofs.Ytkickllohilciaa
