/- The reference's reader of trees, in plain Lean: its end is a tree or none. No program is named here. Conditions: none. -/
import Derived.Test.YtmopioaojdlnkaaRdPt
namespace Go.Proofs.Ytmopioaojdlnkaa
open Go Go.RowKit
def beginS (xs : List PSymbol) (ns : List PNode) : RdSt := ⟨List.replicate xs.length false, List.replicate ns.length ⟨0, 0, 0, 0⟩, List.replicate ns.length 0, 0, true⟩
def endS (xs : List PSymbol) (ns : List PNode) : Int × RdSt := readS xs ns ns.length (ns.length - 1) (beginS xs ns)
def endGood (xs : List PSymbol) (ns : List PNode) : Bool := ((endS xs ns).2.good && decide ((endS xs ns).1 = -1)) && (endS xs ns).2.used.all id
theorem begin_len (xs : List PSymbol) (ns : List PNode) : RdLen xs.length ns.length (beginS xs ns) := ⟨by simp [beginS], by simp [beginS], by simp [beginS]⟩
theorem begin_inv (xs : List PSymbol) (ns : List PNode) : RdInv (beginS xs ns) 0 := by
 refine ⟨fun b hb => ?_, fun k h => ?_, ⟨Int.le_refl _, Int.le_refl _⟩⟩
 · have := List.eq_of_mem_replicate (show b ∈ List.replicate ns.length (⟨0, 0, 0, 0⟩ : PBox) from hb)
   rw [this]; exact zeroIn
 · have e : (beginS xs ns).depth[k] = 0 := by simp [beginS]
   rw [e]; omega
theorem list_is {α : Type} {l : List α} {F : Nat → List α} {g : Nat → α} {n : Nat} (hl : l.length = n) (hF : (F n).length = n) (h1 : ∀ j, j < n → l[j]? = some (g j)) (h2 : ∀ j, j < n → (F n)[j]? = some (g j)) : l = F n := by
 refine List.ext_getElem? fun j => ?_
 by_cases h : j < n
 · rw [h1 j h, h2 j h]
 · rw [List.getElem?_eq_none (by omega), List.getElem?_eq_none (by omega)]
theorem end_tree {xs : List PSymbol} {ns : List PNode} (hs : ∀ s ∈ xs, boxIn (boxOf s)) (h1 : 1 ≤ ns.length) (h2 : ns.length ≤ 15) :
 endGood xs ns = treeB xs ns ∧ (treeB xs ns = true → (endS xs ns).2.boxes = boxesF xs ns ns.length ∧ (endS xs ns).2.depth = depthsF ns ns.length ∧ (endS xs ns).2.cost = costF xs ns ns.length) := by
 have S := readS_U xs ns xs.length hs ns.length (ns.length - 1) (beginS xs ns) 0 (by omega) (by omega) (begin_len xs ns) (begin_inv xs ns) rfl
 have L := (readS_ok xs ns xs.length ns.length hs ns.length (ns.length - 1) (beginS xs ns) 0 (begin_len xs ns) (begin_inv xs ns)).2.2.1
 have E : readS xs ns ns.length (ns.length - 1) (beginS xs ns) = endS xs ns := rfl
 rw [E] at S L
 have U : (beginS xs ns).used = List.replicate xs.length false := rfl
 rw [U] at S
 rw [← ref_tree]
 unfold refB endGood
 rw [decide_eq_true h1, decide_eq_true h2, Bool.true_and, Bool.true_and]
 cases e : readU xs ns ns.length (ns.length - 1) (List.replicate xs.length false) with
 | none =>
   rw [e] at S
   have S : (endS xs ns).2.good = false := S
   refine ⟨by rw [S]; rfl, fun h => ?_⟩
   cases h
 | some y =>
   obtain ⟨us, lo⟩ := y
   rw [e] at S
   obtain ⟨s1, s2, s3, s4, s5⟩ := S
   dsimp only
   rw [s2, s3, s4, Bool.true_and]
   have d : decide ((lo : Int) - 1 = -1) = decide (lo = 0) := by
    rw [Bool.eq_iff_iff, decide_eq_true_iff, decide_eq_true_iff]; omega
   refine ⟨by rw [d], fun h => ?_⟩
   rw [Bool.and_eq_true, decide_eq_true_iff] at h
   have h0 := h.1
   subst h0
   rw [show ns.length - 1 + 1 = ns.length by omega] at s5
   refine ⟨list_is L.2.1 (boxesF_len xs ns _) (fun j hj => s5.bx j (Nat.zero_le _) hj) (fun j hj => boxesF_get xs ns hj), list_is L.2.2 (depthsF_len ns _) (fun j hj => s5.dp j (Nat.zero_le _) hj) (fun j hj => depthsF_get ns hj), ?_⟩
   rw [s5.cost]
   show 0 + (costF xs ns ns.length - 0) = _
   omega
theorem tree_len {xs : List PSymbol} {ns : List PNode} (h : ¬ (1 ≤ ns.length ∧ ns.length ≤ 15)) : treeB xs ns = false := by
 unfold treeB
 have : (decide (1 ≤ ns.length) && decide (ns.length ≤ 15)) = false := by
  rw [Bool.and_eq_false_iff, decide_eq_false_iff_not, decide_eq_false_iff_not]; omega
 rw [this]; rfl
theorem tree_good {xs : List PSymbol} {ns : List PNode} (h : treeB xs ns = true) {k : Nat} (hk : k < ns.length) : goodAt xs ns k = true := by
 unfold treeB at h
 simp only [Bool.and_eq_true] at h
 have := h.2.1
 unfold allGood at this
 rw [List.all_eq_true] at this
 exact this k (List.mem_range.2 hk)
theorem tree_few {xs : List PSymbol} {ns : List PNode} (h : treeB xs ns = true) : ns.length ≤ 15 := by
 unfold treeB at h
 simp only [Bool.and_eq_true, decide_eq_true_iff] at h
 exact h.1.2
theorem tree_some {xs : List PSymbol} {ns : List PNode} (h : treeB xs ns = true) : 1 ≤ ns.length := by
 unfold treeB at h
 simp only [Bool.and_eq_true, decide_eq_true_iff] at h
 exact h.1.1
theorem tree_parts {xs : List PSymbol} {ns : List PNode} (h : treeB xs ns = true) {k : Nat} (hk : k < ns.length) :
 (nodeAt ns k).kind = 0 ∨ ((1 ≤ (nodeAt ns k).kind ∧ (nodeAt ns k).kind ≤ 5) ∧ (0 ≤ (nodeAt ns k).a ∧ (nodeAt ns k).a < (k : Int)) ∧ ((nodeAt ns k).kind ≠ 5 → 0 ≤ (nodeAt ns k).b ∧ (nodeAt ns k).b < (k : Int)) ∧ ((nodeAt ns k).kind = 5 → (nodeAt ns k).b = 0)) := by
 have hg := tree_good h hk
 rw [goodAt_eq] at hg
 simp only [Bool.and_eq_true] at hg
 obtain ⟨h1, h2, _⟩ := hg
 rcases plainOk_kind xs h2 with h0 | h0
 · exact .inl h0
 · refine .inr ⟨h0, ?_⟩
   obtain ⟨l, hl⟩ := Option.isSome_iff_exists.1 h1
   rw [loAt_eq] at hl
   unfold loNode at hl
   rw [if_neg (by omega)] at hl
   split at hl
   · rename_i h5
     split at hl
     · rename_i ha
       refine ⟨by omega, fun h => absurd h5 h, fun _ => ?_⟩
       unfold plainOk at h2
       rw [if_neg (by omega), if_pos h5] at h2
       simp only [Bool.and_eq_true, decide_eq_true_iff] at h2
       exact h2.1
     · cases hl
   · rename_i h5
     split at hl
     · rename_i hb
       rw [losF_get ns (by omega)] at hl
       cases e : loAt ns (k - 1) with
       | none => rw [e] at hl; cases hl
       | some m =>
         rw [e] at hl
         dsimp only at hl
         have hm := loAt_lt ns e
         split at hl
         · exact ⟨by omega, fun _ => by omega, fun h => absurd h h5⟩
         · cases hl
     · cases hl
theorem depthAt_le {xs : List PSymbol} {ns : List PNode} (h : treeB xs ns = true) : ∀ k, k < ns.length → 0 ≤ depthAt ns k ∧ depthAt ns k ≤ (k : Int) + 1 := by
 intro k
 induction k using Nat.strongRecOn with
 | _ k ih =>
   intro hk
   unfold depthAt depthNode
   rcases tree_parts h hk with h0 | ⟨h1, ha, hb, _⟩
   · rw [if_pos h0]; omega
   · rw [if_neg (by omega)]
     have A := ih (nodeAt ns k).a.toNat (by omega) (by omega)
     rw [getD_some (depthsF_get ns (m := k) (k := (nodeAt ns k).a.toNat) (by omega))]
     by_cases h5 : (nodeAt ns k).kind = 5
     · rw [if_pos h5]; omega
     · rw [if_neg h5]
       have hb := hb h5
       have B := ih (nodeAt ns k).b.toNat (by omega) (by omega)
       rw [getD_some (depthsF_get ns (m := k) (k := (nodeAt ns k).b.toNat) (by omega))]
       omega
theorem depth_leaf {ns : List PNode} {k : Nat} (h : (nodeAt ns k).kind = 0) : depthAt ns k = 1 := by
 unfold depthAt depthNode; rw [if_pos h]
theorem depth_root {ns : List PNode} {k a : Nat} (h : (nodeAt ns k).kind = 5) (ha : (nodeAt ns k).a = (a : Int)) (hk : a < k) : depthAt ns k = depthAt ns a + 1 := by
 unfold depthAt depthNode
 rw [if_neg (by omega), if_pos h, ha, Int.toNat_natCast, getD_some (depthsF_get ns (m := k) hk)]
 rfl
theorem depth_both {ns : List PNode} {k a b : Nat} (h0 : (nodeAt ns k).kind ≠ 0) (h : (nodeAt ns k).kind ≠ 5) (ha : (nodeAt ns k).a = (a : Int)) (hb : (nodeAt ns k).b = (b : Int)) (hk : a < k) (hk2 : b < k) : depthAt ns k = max (depthAt ns a) (depthAt ns b) + 1 := by
 unfold depthAt depthNode
 rw [if_neg h0, if_neg h, ha, hb, Int.toNat_natCast, Int.toNat_natCast, getD_some (depthsF_get ns (m := k) hk), getD_some (depthsF_get ns (m := k) hk2)]
 rfl
def depthR (xs : List PSymbol) (ns : List PNode) : Int := if askF xs ns = 0 then depthAt ns (ns.length - 1) else 0
def leavesR (xs : List PSymbol) (ns : List PNode) : List Int := if askF xs ns = 0 then symsF ns 0 ns.length else []
theorem symOf_few (n : PNode) : (symOf n).length ≤ 1 := by
 unfold symOf
 split
 · simp
 · split <;> simp
theorem symsF_few (ns : List PNode) : ∀ k, (symsF ns 0 k).length ≤ k
 | 0 => by simp [symsF]
 | k + 1 => by
   rw [symsF_succ ns (Nat.zero_le _), List.length_append]
   have := symsF_few ns k
   have := symOf_few (nodeAt ns k)
   omega
inductive AT where
 | leaf (i : Nat)
 | two (kind : Int) (s : Nat) (a b : AT)
 | root (s : Nat) (a : AT)
def AT.syms : AT → List Nat
 | .leaf i => [i]
 | .two k s a b => a.syms ++ (b.syms ++ if k = 2 then [s] else [])
 | .root s a => a.syms ++ [s]
def AT.sz : AT → Nat
 | .leaf _ => 1
 | .two _ _ a b => a.sz + b.sz + 1
 | .root _ a => a.sz + 1
def AT.nodes (lo : Nat) : AT → List PNode
 | .leaf i => [⟨0, i, 0, 0⟩]
 | .two k s a b => a.nodes lo ++ (b.nodes (lo + a.sz) ++ [⟨k, (lo + a.sz : Nat) - 1, (lo + a.sz + b.sz : Nat) - 1, s⟩])
 | .root s a => a.nodes lo ++ [⟨5, (lo + a.sz : Nat) - 1, 0, s⟩]
theorem AT.sz_pos : ∀ T : AT, 1 ≤ T.sz
 | .leaf _ => Nat.le_refl _
 | .two _ _ _ _ => by simp [AT.sz]
 | .root _ _ => by simp [AT.sz]
theorem AT.nodes_len : ∀ (T : AT) (lo : Nat), (T.nodes lo).length = T.sz
 | .leaf _, _ => rfl
 | .two _ _ a b, lo => by simp [AT.nodes, AT.sz, a.nodes_len, b.nodes_len]; omega
 | .root _ a, lo => by simp [AT.nodes, AT.sz, a.nodes_len]
theorem AT.sz_le : ∀ T : AT, T.sz + 1 ≤ 2 * T.syms.length
 | .leaf _ => by simp [AT.sz, AT.syms]
 | .two k s a b => by
   have := a.sz_le; have := b.sz_le
   simp only [AT.sz, AT.syms, List.length_append]; omega
 | .root s a => by
   have := a.sz_le
   simp only [AT.sz, AT.syms, List.length_append, List.length_singleton]; omega
theorem AT.syms_pos (T : AT) : 1 ≤ T.syms.length := by have := T.sz_le; have := T.sz_pos; omega
section
variable (xs : List PSymbol)
def sbox (i : Nat) : PBox := boxOf (symAt xs i)
def AT.bx : AT → PBox
 | .leaf i => sbox xs i
 | .two k s a b => joinB (joinB a.bx b.bx) (if k = 2 then sbox xs s else a.bx)
 | .root s a => joinB (joinB a.bx a.bx) (sbox xs s)
def AT.cost : AT → Int
 | .leaf _ => 0
 | .two k s a b => a.cost + b.cost + ownF k (a.bx xs) (b.bx xs) (if k = 2 then sbox xs s else a.bx xs)
 | .root s a => a.cost + ownF 5 (a.bx xs) (a.bx xs) (sbox xs s)
def okTwo (k : Int) (s : Nat) : Prop := if k = 2 then (symAt xs s).label = minus1 else (k = 1 ∨ k = 3 ∨ k = 4) ∧ s = 0
def AT.ok : AT → Prop
 | .leaf _ => True
 | .two k s a b => a.ok ∧ b.ok ∧ okTwo xs k s ∧ fitsF k (a.bx xs) (b.bx xs) (if k = 2 then sbox xs s else a.bx xs) = true
 | .root s a => a.ok ∧ (symAt xs s).label = root1 ∧ fitsF 5 (a.bx xs) (a.bx xs) (sbox xs s) = true
end
section
variable (xs : List PSymbol) (ns : List PNode)
theorem costF_own (k : Nat) : costF xs ns (k + 1) = costF xs ns k + ownNode xs (boxesF xs ns k) (nodeAt ns k) := rfl
theorem nat_of {i : Int} (h : 0 ≤ i) : ∃ n : Nat, i = n := ⟨i.toNat, by omega⟩
theorem box_get {m k : Nat} (h : k < m) : (boxesF xs ns m).getD k ⟨0, 0, 0, 0⟩ = boxAt xs ns k := by
 rw [List.getD_eq_getElem?_getD, boxesF_get xs ns h]; rfl
theorem tree_of : ∀ (k lo : Nat), loAt ns k = some lo → (∀ j, lo ≤ j → j ≤ k → goodAt xs ns j = true) → (∀ s ∈ symsF ns lo (k + 1), 0 ≤ s) →
 ∃ T : AT, T.ok xs ∧ T.sz + lo = k + 1 ∧ T.bx xs = boxAt xs ns k ∧ costF xs ns (k + 1) = costF xs ns lo + T.cost xs ∧ (T.syms.map Int.ofNat).Perm (symsF ns lo (k + 1)) := by
 intro k
 induction k using Nat.strongRecOn with
 | _ k ih =>
 intro lo hl hg hs
 have hlk := loAt_lt ns hl
 have g := hg k hlk (Nat.le_refl _)
 rw [goodAt_eq] at g
 simp only [Bool.and_eq_true] at g
 obtain ⟨-, hp, hf⟩ := g
 rw [loAt_eq] at hl
 have hsy := symsF_succ ns hlk
 unfold loNode at hl
 by_cases h0 : (nodeAt ns k).kind = 0
 · rw [if_pos h0] at hl
   injection hl with hl; subst hl
   rw [symsF_self, List.nil_append] at hsy
   rw [symOf, if_pos h0] at hsy
   obtain ⟨i, hi⟩ := nat_of (hs (nodeAt ns k).a (by rw [hsy]; simp))
   refine ⟨.leaf i, trivial, by simp [AT.sz]; omega, ?_, ?_, ?_⟩
   · rw [boxAt, boxNode, if_pos h0, hi]; rfl
   · rw [costF_own, ownNode, if_pos h0]; rfl
   · rw [hsy, hi]; exact List.Perm.refl _
 · rw [if_neg h0] at hl
   by_cases h5 : (nodeAt ns k).kind = 5
   · rw [if_pos h5] at hl
     split at hl
     · rename_i ha
       obtain ⟨a0, a1⟩ := ha
       obtain ⟨j, hj⟩ := nat_of a0
       have hjk : j + 1 = k := by omega
       subst hjk
       rw [losF_get ns (by omega), Nat.add_sub_cancel] at hl
       have hlj := loAt_lt ns hl
       rw [symOf, if_neg h0, h5] at hsy
       rw [if_pos (show signed 5 = true by decide)] at hsy
       obtain ⟨T, t1, t2, t3, t4, t5⟩ := ih j (by omega) lo hl (fun i h1 h2 => hg i h1 (by omega)) (fun s h => hs s (by rw [hsy]; exact List.mem_append_left _ h))
       obtain ⟨i, hi⟩ := nat_of (hs (nodeAt ns (j + 1)).sign (by rw [hsy]; simp))
       have pa : partA (boxesF xs ns (j + 1)) (nodeAt ns (j + 1)) = T.bx xs := by rw [partA, hj, Int.toNat_natCast, box_get xs ns (by omega), t3]
       have pb : partB (boxesF xs ns (j + 1)) (nodeAt ns (j + 1)) = T.bx xs := by rw [partB, if_pos h5, pa]
       have ps : signB xs (boxesF xs ns (j + 1)) (nodeAt ns (j + 1)) = sbox xs i := by rw [signB, h5, if_pos (show signed 5 = true by decide), hi]; rfl
       rw [plainOk, if_neg h0, if_pos h5] at hp
       simp only [Bool.and_eq_true, decide_eq_true_eq] at hp
       rw [fitsNode_ne xs h0, pa, pb, ps, h5] at hf
       refine ⟨.root i T, ⟨t1, ?_, hf⟩, by simp only [AT.sz]; omega, ?_, ?_, ?_⟩
       · rw [← hi]; exact hp.2
       · rw [boxAt, boxNode, if_neg h0, pa, pb, ps]; rfl
       · rw [costF_own, ownNode, if_neg h0, pa, pb, ps, h5, t4, AT.cost]; omega
       · rw [hsy, hi, AT.syms, List.map_append]
         exact t5.append (List.Perm.refl _)
     · cases hl
   · rw [if_neg h5] at hl
     split at hl
     · rename_i hb
       obtain ⟨b0, b1⟩ := hb
       obtain ⟨j, hj⟩ := nat_of b0
       have hjk : j + 1 = k := by omega
       subst hjk
       rw [losF_get ns (by omega), Nat.add_sub_cancel] at hl
       cases e : loAt ns j with
       | none => rw [e] at hl; cases hl
       | some m =>
         rw [e] at hl
         dsimp only at hl
         have hm := loAt_lt ns e
         split at hl
         · rename_i ha
           obtain ⟨a0, a1⟩ := ha
           obtain ⟨i, hi⟩ := nat_of a0
           have him : i + 1 = m := by omega
           subst him
           rw [losF_get ns (by omega), Nat.add_sub_cancel] at hl
           have hli := loAt_lt ns hl
           have sp := symsF_split ns (show lo ≤ i + 1 by omega) (show i + 1 ≤ j + 1 by omega)
           rw [sp] at hsy
           obtain ⟨B, b1', b2, b3, b4, b5⟩ := ih j (by omega) (i + 1) e (fun i h1 h2 => hg i (by omega) (by omega)) (fun s h => hs s (by rw [hsy]; exact List.mem_append_left _ (List.mem_append_right _ h)))
           obtain ⟨A, t1, t2, t3, t4, t5⟩ := ih i (by omega) lo hl (fun i h1 h2 => hg i h1 (by omega)) (fun s h => hs s (by rw [hsy]; exact List.mem_append_left _ (List.mem_append_left _ h)))
           have pa : partA (boxesF xs ns (j + 1)) (nodeAt ns (j + 1)) = A.bx xs := by rw [partA, hi, Int.toNat_natCast, box_get xs ns (by omega), t3]
           have pb : partB (boxesF xs ns (j + 1)) (nodeAt ns (j + 1)) = B.bx xs := by rw [partB, if_neg h5, hj, Int.toNat_natCast, box_get xs ns (by omega), b3]
           by_cases h2 : (nodeAt ns (j + 1)).kind = 2
           · rw [symOf, if_neg h0, h2, if_pos (show signed 2 = true by decide)] at hsy
             obtain ⟨q, hq⟩ := nat_of (hs (nodeAt ns (j + 1)).sign (by rw [hsy]; simp))
             have ps : signB xs (boxesF xs ns (j + 1)) (nodeAt ns (j + 1)) = sbox xs q := by rw [signB, h2, if_pos (show signed 2 = true by decide), hq]; rfl
             rw [plainOk, if_neg h0, if_neg h5, if_pos h2] at hp
             simp only [decide_eq_true_eq] at hp
             rw [fitsNode_ne xs h0, pa, pb, ps, h2] at hf
             refine ⟨.two 2 q A B, ⟨t1, b1', ?_, by rw [if_pos rfl]; exact hf⟩, by simp only [AT.sz]; omega, ?_, ?_, ?_⟩
             · rw [okTwo, if_pos rfl, ← hq]; exact hp
             · rw [boxAt, boxNode, if_neg h0, pa, pb, ps, AT.bx, if_pos rfl]
             · rw [costF_own, ownNode, if_neg h0, pa, pb, ps, h2, b4, t4, AT.cost, if_pos rfl]; omega
             · rw [hsy, hq, AT.syms, if_pos rfl, List.map_append, List.map_append, List.append_assoc]
               exact t5.append (b5.append (List.Perm.refl _))
           · have h1 : signed (nodeAt ns (j + 1)).kind = false := by
              rw [Bool.eq_false_iff]; intro h; rw [signed_iff] at h; omega
             rw [symOf, if_neg h0, h1] at hsy
             have ps : signB xs (boxesF xs ns (j + 1)) (nodeAt ns (j + 1)) = A.bx xs := by rw [signB, h1]; simpa using pa
             rw [plainOk, if_neg h0, if_neg h5, if_neg h2] at hp
             simp only [Bool.and_eq_true, decide_eq_true_eq] at hp
             rw [fitsNode_ne xs h0, pa, pb, ps] at hf
             refine ⟨.two (nodeAt ns (j + 1)).kind 0 A B, ⟨t1, b1', ?_, by rw [if_neg h2]; exact hf⟩, by simp only [AT.sz]; omega, ?_, ?_, ?_⟩
             · rw [okTwo, if_neg h2]; exact ⟨hp.1, rfl⟩
             · rw [boxAt, boxNode, if_neg h0, pa, pb, ps, AT.bx, if_neg h2]
             · rw [costF_own, ownNode, if_neg h0, pa, pb, ps, b4, t4, AT.cost, if_neg h2]; omega
             · rw [hsy, AT.syms, if_neg h2, List.append_nil, List.map_append]
               simp only [Bool.false_eq_true, if_false, List.append_nil]
               exact t5.append b5
         · cases hl
     · cases hl
end
section
variable (xs : List PSymbol) (ns : List PNode)
theorem nodeAt_of {k : Nat} {n : PNode} (h : ns[k]? = some n) : nodeAt ns k = n := by
 rw [nodeAt, List.getD_eq_getElem?_getD, h]; rfl
theorem good_of : ∀ (T : AT) (lo : Nat), T.ok xs → (∀ i, i < T.sz → ns[lo + i]? = (T.nodes lo)[i]?) →
 loAt ns (lo + T.sz - 1) = some lo ∧ (∀ j, lo ≤ j → j < lo + T.sz → goodAt xs ns j = true) ∧ boxAt xs ns (lo + T.sz - 1) = T.bx xs ∧
  costF xs ns (lo + T.sz) = costF xs ns lo + T.cost xs ∧ symsF ns lo (lo + T.sz) = T.syms.map Int.ofNat
 | .leaf i, lo, _, h => by
   have h0 := nodeAt_of ns (h 0 (by simp [AT.sz]))
   rw [Nat.add_zero] at h0
   have hk : (nodeAt ns lo).kind = 0 := by rw [h0]
   have hl : loAt ns lo = some lo := by rw [loAt_eq, loNode, if_pos hk]
   have e : lo + AT.sz (.leaf i) - 1 = lo := by simp [AT.sz]
   have e1 : lo + AT.sz (.leaf i) = lo + 1 := by simp [AT.sz]
   rw [e, e1]
   refine ⟨hl, ?_, ?_, ?_, ?_⟩
   · intro j h1 h2
     obtain rfl : j = lo := by omega
     rw [goodAt_eq, hl, plainOk, if_pos hk, fitsNode, hk, h0]; rfl
   · rw [boxAt, boxNode, if_pos hk, h0]; rfl
   · rw [costF_own, ownNode, if_pos hk]; rfl
   · rw [symsF_succ ns (Nat.le_refl _), symsF_self, symOf, if_pos hk, h0]; rfl
 | .root s A, lo, ok, h => by
   obtain ⟨o1, o2, o3⟩ := ok
   have pos := A.sz_pos
   obtain ⟨n, hn⟩ : ∃ n, A.sz = n + 1 := ⟨A.sz - 1, by omega⟩
   have len := A.nodes_len lo
   obtain ⟨r1, r2, r3, r4, r5⟩ := good_of A lo o1 (fun i hi => by
    have := h i (by simp only [AT.sz]; omega)
    rw [this, AT.nodes, List.getElem?_append_left (by rw [len]; exact hi)])
   have hz := nodeAt_of ns (n := ⟨5, (lo + A.sz : Nat) - 1, 0, s⟩) (by
    have := h A.sz (by simp only [AT.sz]; omega)
    rw [this, AT.nodes, List.getElem?_append_right (by omega), len, Nat.sub_self]; rfl)
   have hk : (nodeAt ns (lo + A.sz)).kind = 5 := by rw [hz]
   have h0 : ¬ (nodeAt ns (lo + A.sz)).kind = 0 := by rw [hk]; decide
   have ha : (nodeAt ns (lo + A.sz)).a = ((lo + n : Nat) : Int) := by rw [hz, hn]; push_cast; omega
   have r1' : loAt ns (lo + n) = some lo := by rw [← r1]; congr 1; omega
   have r3' : boxAt xs ns (lo + n) = A.bx xs := by rw [← r3]; congr 1; omega
   have hl : loAt ns (lo + A.sz) = some lo := by
    rw [loAt_eq, loNode, if_neg h0, if_pos hk, if_pos ⟨by omega, by omega⟩, losF_get ns (by omega), ← r1]
   have pa : partA (boxesF xs ns (lo + A.sz)) (nodeAt ns (lo + A.sz)) = A.bx xs := by rw [partA, ha, Int.toNat_natCast, box_get xs ns (by omega), r3']
   have pb : partB (boxesF xs ns (lo + A.sz)) (nodeAt ns (lo + A.sz)) = A.bx xs := by rw [partB, if_pos hk, pa]
   have ps : signB xs (boxesF xs ns (lo + A.sz)) (nodeAt ns (lo + A.sz)) = sbox xs s := by rw [signB, hk, if_pos (show signed 5 = true by decide), hz]; rfl
   have e : lo + AT.sz (.root s A) - 1 = lo + A.sz := by simp only [AT.sz]; omega
   have e1 : lo + AT.sz (.root s A) = lo + A.sz + 1 := by simp only [AT.sz]; omega
   rw [e, e1]
   refine ⟨hl, ?_, ?_, ?_, ?_⟩
   · intro j h1 h2
     by_cases hj : j < lo + A.sz
     · exact r2 j h1 hj
     · obtain rfl : j = lo + A.sz := by omega
       rw [goodAt_eq, hl, plainOk, if_neg h0, if_pos hk, fitsNode_ne xs h0, pa, pb, ps, hk, o3, hz]
       simp only [Option.isSome_some, Bool.true_and, decide_true, Bool.and_true, decide_eq_true_eq]
       exact o2
   · rw [boxAt, boxNode, if_neg h0, pa, pb, ps]; rfl
   · rw [costF_own, ownNode, if_neg h0, pa, pb, ps, hk, r4, AT.cost]; omega
   · rw [symsF_succ ns (by omega), r5, symOf, if_neg h0, hk, if_pos (show signed 5 = true by decide), hz, AT.syms, List.map_append]; rfl
 | .two k s A B, lo, ok, h => by
   obtain ⟨o1, o2, o3, o4⟩ := ok
   have pos := A.sz_pos
   have posb := B.sz_pos
   have len := A.nodes_len lo
   have lenb := B.nodes_len (lo + A.sz)
   obtain ⟨r1, r2, r3, r4, r5⟩ := good_of A lo o1 (fun i hi => by
    have := h i (by simp only [AT.sz]; omega)
    rw [this, AT.nodes, List.getElem?_append_left (by rw [len]; exact hi)])
   obtain ⟨q1, q2, q3, q4, q5⟩ := good_of B (lo + A.sz) o2 (fun i hi => by
    have := h (A.sz + i) (by simp only [AT.sz]; omega)
    rw [Nat.add_assoc, this, AT.nodes, List.getElem?_append_right (by omega), len, Nat.add_sub_cancel_left, List.getElem?_append_left (by rw [lenb]; exact hi)])
   obtain ⟨z, rfl⟩ : ∃ z, z = lo + A.sz + B.sz := ⟨_, rfl⟩
   have hz := nodeAt_of ns (k := lo + A.sz + B.sz) (n := ⟨k, (lo + A.sz : Nat) - 1, (lo + A.sz + B.sz : Nat) - 1, s⟩) (by
    have := h (A.sz + B.sz) (by simp only [AT.sz]; omega)
    rw [Nat.add_assoc, this, AT.nodes, List.getElem?_append_right (by omega), len, Nat.add_sub_cancel_left, List.getElem?_append_right (by omega), lenb, Nat.sub_self]
    simp only [List.getElem?_cons_zero, Nat.add_assoc])
   have kk : k = 1 ∨ k = 2 ∨ k = 3 ∨ k = 4 := by
    rw [okTwo] at o3
    split at o3
    · exact .inr (.inl ‹_›)
    · rcases o3.1 with h | h | h
      · exact .inl h
      · exact .inr (.inr (.inl h))
      · exact .inr (.inr (.inr h))
   have hk : (nodeAt ns (lo + A.sz + B.sz)).kind = k := by rw [hz]
   have h0 : ¬ (nodeAt ns (lo + A.sz + B.sz)).kind = 0 := by rw [hk]; omega
   have h5 : ¬ (nodeAt ns (lo + A.sz + B.sz)).kind = 5 := by rw [hk]; omega
   have ha : (nodeAt ns (lo + A.sz + B.sz)).a = ((lo + A.sz - 1 : Nat) : Int) := by rw [hz]; simp only; omega
   have hb : (nodeAt ns (lo + A.sz + B.sz)).b = ((lo + A.sz + B.sz - 1 : Nat) : Int) := by rw [hz]; simp only; omega
   have hl : loAt ns (lo + A.sz + B.sz) = some lo := by
    rw [loAt_eq, loNode, if_neg h0, if_neg h5, if_pos ⟨by omega, by omega⟩, losF_get ns (by omega), q1]
    dsimp only
    rw [if_pos ⟨by omega, by omega⟩, losF_get ns (by omega), r1]
   have pa : partA (boxesF xs ns (lo + A.sz + B.sz)) (nodeAt ns (lo + A.sz + B.sz)) = A.bx xs := by rw [partA, ha, Int.toNat_natCast, box_get xs ns (by omega), r3]
   have pb : partB (boxesF xs ns (lo + A.sz + B.sz)) (nodeAt ns (lo + A.sz + B.sz)) = B.bx xs := by rw [partB, if_neg h5, hb, Int.toNat_natCast, box_get xs ns (by omega), q3]
   have hsd : signed k = decide (k = 2) := by
    rcases kk with rfl | rfl | rfl | rfl <;> decide
   have ps : signB xs (boxesF xs ns (lo + A.sz + B.sz)) (nodeAt ns (lo + A.sz + B.sz)) = if k = 2 then sbox xs s else A.bx xs := by
    rw [signB, hk, hsd, hz]
    by_cases h2 : k = 2
    · rw [if_pos h2, if_pos (by simpa using h2)]; rfl
    · rw [if_neg h2, if_neg (by simpa using h2), ← hz, pa]
   have e : lo + AT.sz (.two k s A B) - 1 = lo + A.sz + B.sz := by simp only [AT.sz]; omega
   have e1 : lo + AT.sz (.two k s A B) = lo + A.sz + B.sz + 1 := by simp only [AT.sz]; omega
   rw [e, e1]
   refine ⟨hl, ?_, ?_, ?_, ?_⟩
   · intro j h1 h2
     by_cases hj : j < lo + A.sz
     · exact r2 j h1 hj
     · by_cases hj2 : j < lo + A.sz + B.sz
       · exact q2 j (by omega) hj2
       · obtain rfl : j = lo + A.sz + B.sz := by omega
         rw [goodAt_eq, hl, fitsNode_ne xs h0, pa, pb, ps, hk, o4, plainOk, if_neg h0, if_neg h5, hk]
         rw [okTwo] at o3
         by_cases h2 : k = 2
         · rw [if_pos h2] at o3 ⊢
           rw [hz]; simp only [Option.isSome_some, Bool.true_and, Bool.and_true, decide_eq_true_eq]
           exact o3
         · rw [if_neg h2] at o3 ⊢
           rw [hz]; simp only [Option.isSome_some, Bool.true_and, Bool.and_true, Bool.and_eq_true, decide_eq_true_eq]
           exact ⟨o3.1, by rw [o3.2]; rfl⟩
   · rw [boxAt, boxNode, if_neg h0, pa, pb, ps]; rfl
   · rw [costF_own, ownNode, if_neg h0, pa, pb, ps, hk, q4, r4, AT.cost]; omega
   · rw [symsF_succ ns (by omega), symsF_split ns (show lo ≤ lo + A.sz by omega) (show lo + A.sz ≤ lo + A.sz + B.sz by omega), r5, q5, symOf, if_neg h0, hk, hsd, AT.syms, hz]
     by_cases h2 : k = 2
     · simp [h2]
     · simp [h2]
end
theorem useK_some {us vs : List Bool} {k : Int} (h : useK us k = some vs) : ∃ n : Nat, k = n ∧ us[n]? = some false ∧ vs = us.set n true := by
 unfold useK at h
 split at h
 · rename_i h1
   injection h with h
   obtain ⟨h0, hl, hf⟩ := h1
   refine ⟨k.toNat, by omega, ?_, h.symm⟩
   have hlt : k.toNat < us.length := by omega
   rw [List.getD_eq_getElem?_getD, List.getElem?_eq_getElem hlt] at hf
   rw [List.getElem?_eq_getElem hlt]; simpa using hf
 · cases h
theorem useAll_nodup : ∀ {l : List Int} {us vs : List Bool}, useAll us l = some vs → l.Nodup ∧ (∀ s ∈ l, ∃ n : Nat, s = n ∧ us[n]? = some false) ∧ ∀ n : Nat, n < us.length → (vs[n]? = some true ↔ us[n]? = some true ∨ (n : Int) ∈ l)
 | [], us, vs, h => by
   simp only [useAll, List.foldlM_nil] at h
   obtain rfl : us = vs := Option.some.inj h
   exact ⟨List.nodup_nil, by simp, by simp⟩
 | k :: l, us, vs, h => by
   rw [useAll_cons] at h
   cases e : useK us k with
   | none => rw [e] at h; cases h
   | some ws =>
     rw [e] at h
     obtain ⟨n, rfl, hn, rfl⟩ := useK_some e
     have hlt : n < us.length := by
      rcases Nat.lt_or_ge n us.length with h1 | h1
      · exact h1
      · rw [List.getElem?_eq_none h1] at hn; cases hn
     obtain ⟨h1, h2, h3⟩ := useAll_nodup (show useAll _ l = some vs from h)
     refine ⟨List.nodup_cons.2 ⟨fun hm => ?_, h1⟩, ?_, ?_⟩
     · obtain ⟨m, hm1, hm2⟩ := h2 _ hm
       obtain rfl : m = n := by omega
       rw [List.getElem?_set_self hlt] at hm2; cases hm2
     · intro s hs
       rcases List.mem_cons.1 hs with rfl | hs
       · exact ⟨n, rfl, hn⟩
       · obtain ⟨m, rfl, hm⟩ := h2 s hs
         refine ⟨m, rfl, ?_⟩
         by_cases hmn : n = m
         · subst hmn; rw [List.getElem?_set_self hlt] at hm; cases hm
         · rw [List.getElem?_set_ne hmn] at hm; exact hm
     · intro m hm
       rw [h3 m (by rw [List.length_set]; exact hm)]
       by_cases hmn : n = m
       · subst hmn; rw [List.getElem?_set_self hlt]; simp
       · rw [List.getElem?_set_ne hmn]
         have hne : ¬ (m : Int) = (n : Int) := by intro h; exact hmn (by omega)
         simp [hne]
theorem useAll_ok : ∀ {l : List Int} {us : List Bool}, l.Nodup → (∀ s ∈ l, ∃ n : Nat, s = n ∧ us[n]? = some false) → ∃ vs, useAll us l = some vs
 | [], us, _, _ => ⟨us, rfl⟩
 | k :: l, us, hn, h => by
   obtain ⟨n, rfl, hf⟩ := h k (List.mem_cons_self ..)
   have hlt : n < us.length := by
    rcases Nat.lt_or_ge n us.length with h1 | h1
    · exact h1
    · rw [List.getElem?_eq_none h1] at hf; cases hf
   have hu : useK us (n : Int) = some (us.set n true) := by
    rw [useK, if_pos ⟨by omega, by omega, by rw [Int.toNat_natCast, List.getD_eq_getElem?_getD, hf]; rfl⟩, Int.toNat_natCast]
   rw [List.nodup_cons] at hn
   obtain ⟨vs, hv⟩ := useAll_ok (us := us.set n true) hn.2 (fun s hs => by
    obtain ⟨m, rfl, hm⟩ := h s (List.mem_cons_of_mem _ hs)
    refine ⟨m, rfl, ?_⟩
    have hmn : n ≠ m := by rintro rfl; exact hn.1 hs
    rw [List.getElem?_set_ne hmn]; exact hm)
   exact ⟨vs, by rw [useAll_cons, hu]; exact hv⟩
def AT.all (T : AT) (n : Nat) : Prop := T.syms.Nodup ∧ ∀ i, i ∈ T.syms ↔ i < n
theorem AT.all_len {T : AT} {n : Nat} (h : T.all n) : T.syms.length = n := by
 have : T.syms.Perm (List.range n) := (List.perm_ext_iff_of_nodup h.1 List.nodup_range).2 (fun i => by rw [h.2, List.mem_range])
 rw [this.length_eq, List.length_range]
theorem tree_abs {xs : List PSymbol} {ns : List PNode} (h : treeB xs ns = true) : ∃ T : AT, T.ok xs ∧ T.all xs.length ∧ T.sz = ns.length ∧ T.bx xs = boxAt xs ns (ns.length - 1) ∧ T.cost xs = costF xs ns ns.length ∧ (T.syms.map Int.ofNat).Perm (symsF ns 0 ns.length) := by
 have hg := fun k hk => tree_good h (k := k) hk
 unfold treeB at h
 simp only [Bool.and_eq_true, decide_eq_true_eq] at h
 obtain ⟨⟨h1, h15⟩, -, hl, hu⟩ := h
 cases e : useAll (List.replicate xs.length false) (symsF ns 0 ns.length) with
 | none => rw [e] at hu; cases hu
 | some us =>
   rw [e] at hu
   dsimp only at hu
   obtain ⟨u1, u2, u3⟩ := useAll_nodup e
   have el : ns.length - 1 + 1 = ns.length := by omega
   obtain ⟨T, t1, t2, t3, t4, t5⟩ := tree_of xs ns (ns.length - 1) 0 hl (fun j _ hj => hg j (by omega)) (by rw [el]; intro s hs; obtain ⟨n, rfl, _⟩ := u2 s hs; omega)
   rw [el] at t2 t4 t5
   refine ⟨T, t1, ⟨?_, ?_⟩, by omega, t3, by rw [t4]; simp [costF], t5⟩
   · have hm : (T.syms.map Int.ofNat).Nodup := t5.nodup_iff.2 u1
     rw [List.Nodup, List.pairwise_map] at hm
     exact hm.imp (fun hne he => hne (by rw [he]))
   · intro i
     have hi : i ∈ T.syms ↔ (i : Int) ∈ symsF ns 0 ns.length := by
      rw [← t5.mem_iff, List.mem_map]
      constructor
      · intro h; exact ⟨i, h, rfl⟩
      · rintro ⟨j, hj, he⟩
        obtain rfl : j = i := Int.ofNat.inj he
        exact hj
     rw [hi]
     constructor
     · intro hm
       obtain ⟨n, hn, hf⟩ := u2 _ hm
       obtain rfl : n = i := by omega
       rcases Nat.lt_or_ge n xs.length with h1 | h1
       · exact h1
       · rw [List.getElem?_eq_none (by simpa using h1)] at hf; cases hf
     · intro hlt
       have hv := (u3 i (by simpa using hlt)).1 ?_
       · rcases hv with hv | hv
         · rw [List.getElem?_replicate] at hv; simp [hlt] at hv
         · exact hv
       · have hul := useAll_len e
         rw [List.length_replicate] at hul
         rw [List.all_eq_true] at hu
         have := hu us[i] (List.getElem_mem (by omega))
         rw [List.getElem?_eq_getElem (by omega)]
         simpa using this
theorem abs_tree {xs : List PSymbol} {T : AT} (ok : T.ok xs) (h : T.all xs.length) (h8 : xs.length ≤ 8) : treeB xs (T.nodes 0) = true ∧ costF xs (T.nodes 0) (T.nodes 0).length = T.cost xs := by
 have len := T.nodes_len 0
 have pos := T.sz_pos
 have sle := T.sz_le
 rw [AT.all_len h] at sle
 obtain ⟨r1, r2, r3, r4, r5⟩ := good_of xs (T.nodes 0) T 0 ok (fun i _ => by rw [Nat.zero_add])
 rw [Nat.zero_add] at r1 r3 r4 r5
 refine ⟨?_, by rw [len, r4]; simp [costF]⟩
 unfold treeB
 simp only [Bool.and_eq_true, decide_eq_true_eq, len]
 refine ⟨⟨pos, by omega⟩, ?_, r1, ?_⟩
 · rw [allGood, List.all_eq_true]
   intro j hj
   rw [List.mem_range] at hj
   exact r2 j (Nat.zero_le _) (by omega)
 · rw [r5]
   have inj : ∀ a b : Nat, Int.ofNat a = Int.ofNat b → a = b := fun a b h => Int.ofNat.inj h
   obtain ⟨us, hu⟩ := useAll_ok (l := T.syms.map Int.ofNat) (us := List.replicate xs.length false) (by
    rw [List.Nodup, List.pairwise_map]
    exact h.1.imp (fun hne he => hne (inj _ _ he))) (by
    intro s hs
    obtain ⟨n, hn, rfl⟩ := List.mem_map.1 hs
    refine ⟨n, rfl, ?_⟩
    rw [List.getElem?_replicate, if_pos ((h.2 n).1 hn)])
   rw [hu]
   dsimp only
   obtain ⟨-, -, u3⟩ := useAll_nodup hu
   have hul := useAll_len hu
   rw [List.length_replicate] at hul
   rw [List.all_eq_true]
   intro b hb
   obtain ⟨i, hi, rfl⟩ := List.mem_iff_getElem.1 hb
   have hv := (u3 i (by rw [List.length_replicate]; omega)).2 (.inr (List.mem_map.2 ⟨i, (h.2 i).2 (by omega), rfl⟩))
   rw [List.getElem?_eq_getElem hi] at hv
   simpa using hv
end Go.Proofs.Ytmopioaojdlnkaa
