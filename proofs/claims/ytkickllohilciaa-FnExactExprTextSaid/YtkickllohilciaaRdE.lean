/- The reference's reader of trees, in plain Lean: its end is a tree or none. No program is named here. Conditions: none. -/
import Derived.Test.YtkickllohilciaaRdP
namespace Go.Proofs.Ytkickllohilciaa
open Go Go.RowKit

/-- What the reader knows ahead of its reading. -/
def beginS (xs : List PSymbol) (ns : List PNode) : RdSt := ⟨List.replicate xs.length false, List.replicate ns.length ⟨0, 0, 0, 0⟩, List.replicate ns.length 0, 0, true⟩
/-- What it knows behind its reading. -/
def endS (xs : List PSymbol) (ns : List PNode) : Int × RdSt := readS xs ns ns.length (ns.length - 1) (beginS xs ns)
def endGood (xs : List PSymbol) (ns : List PNode) : Bool := ((endS xs ns).2.good && decide ((endS xs ns).1 = -1)) && (endS xs ns).2.used.all id
theorem begin_len (xs : List PSymbol) (ns : List PNode) : RdLen xs.length ns.length (beginS xs ns) := ⟨by simp [beginS], by simp [beginS], by simp [beginS]⟩
theorem begin_inv (xs : List PSymbol) (ns : List PNode) : RdInv (beginS xs ns) 0 := by
  refine ⟨fun b hb => ?_, fun k h => ?_, ⟨Int.le_refl _, Int.le_refl _⟩⟩
  · have := List.eq_of_mem_replicate (show b ∈ List.replicate ns.length (⟨0, 0, 0, 0⟩ : PBox) from hb)
    rw [this]; exact zeroIn
  · have e : (beginS xs ns).depth[k] = 0 := by simp [beginS]
    rw [e]; omega
theorem list_is {α : Type} {l : List α} {F : Nat → List α} {g : Nat → α} {n : Nat} (hl : l.length = n) (hF : (F n).length = n) (h1 : ∀ j, j < n → l[j]? = some (g j)) (h2 : ∀ j, j < n → (F n)[j]? = some (g j)) : l = F n := by
  refine List.ext_getElem? fun j => ?_
  by_cases h : j < n
  · rw [h1 j h, h2 j h]
  · rw [List.getElem?_eq_none (by omega), List.getElem?_eq_none (by omega)]
theorem end_tree {xs : List PSymbol} {ns : List PNode} (hs : ∀ s ∈ xs, boxIn (boxOf s)) (h1 : 1 ≤ ns.length) (h2 : ns.length ≤ 15) :
    endGood xs ns = treeB xs ns ∧ (treeB xs ns = true → (endS xs ns).2.boxes = boxesF xs ns ns.length ∧ (endS xs ns).2.depth = depthsF ns ns.length ∧ (endS xs ns).2.cost = costF xs ns ns.length) := by
  have S := readS_U xs ns xs.length hs ns.length (ns.length - 1) (beginS xs ns) 0 (by omega) (by omega) (begin_len xs ns) (begin_inv xs ns) rfl
  have L := (readS_ok xs ns xs.length ns.length hs ns.length (ns.length - 1) (beginS xs ns) 0 (begin_len xs ns) (begin_inv xs ns)).2.2.1
  have E : readS xs ns ns.length (ns.length - 1) (beginS xs ns) = endS xs ns := rfl
  rw [E] at S L
  have U : (beginS xs ns).used = List.replicate xs.length false := rfl
  rw [U] at S
  rw [← ref_tree]
  unfold refB endGood
  rw [decide_eq_true h1, decide_eq_true h2, Bool.true_and, Bool.true_and]
  cases e : readU xs ns ns.length (ns.length - 1) (List.replicate xs.length false) with
  | none =>
    rw [e] at S
    have S : (endS xs ns).2.good = false := S
    refine ⟨by rw [S]; rfl, fun h => ?_⟩
    cases h
  | some y =>
    obtain ⟨us, lo⟩ := y
    rw [e] at S
    obtain ⟨s1, s2, s3, s4, s5⟩ := S
    dsimp only
    rw [s2, s3, s4, Bool.true_and]
    have d : decide ((lo : Int) - 1 = -1) = decide (lo = 0) := by
      rw [Bool.eq_iff_iff, decide_eq_true_iff, decide_eq_true_iff]; omega
    refine ⟨by rw [d], fun h => ?_⟩
    rw [Bool.and_eq_true, decide_eq_true_iff] at h
    have h0 := h.1
    subst h0
    rw [show ns.length - 1 + 1 = ns.length by omega] at s5
    refine ⟨list_is L.2.1 (boxesF_len xs ns _) (fun j hj => s5.bx j (Nat.zero_le _) hj) (fun j hj => boxesF_get xs ns hj), list_is L.2.2 (depthsF_len ns _) (fun j hj => s5.dp j (Nat.zero_le _) hj) (fun j hj => depthsF_get ns hj), ?_⟩
    rw [s5.cost]
    show 0 + (costF xs ns ns.length - 0) = _
    omega
theorem tree_len {xs : List PSymbol} {ns : List PNode} (h : ¬ (1 ≤ ns.length ∧ ns.length ≤ 15)) : treeB xs ns = false := by
  unfold treeB
  have : (decide (1 ≤ ns.length) && decide (ns.length ≤ 15)) = false := by
    rw [Bool.and_eq_false_iff, decide_eq_false_iff_not, decide_eq_false_iff_not]; omega
  rw [this]; rfl
end Go.Proofs.Ytkickllohilciaa
