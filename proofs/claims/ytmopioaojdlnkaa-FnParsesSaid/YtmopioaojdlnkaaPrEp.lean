/- All symbols, the best tree among all, and how many trees there may be. No program is named here. Conditions: none. -/
import Derived.Test.YtmopioaojdlnkaaPrBp
namespace Go.Proofs.Ytmopioaojdlnkaa
open Go Go.RowKit

/-! ### All symbols -/
theorem full_bit {n i : Nat} : (2 ^ n - 1).testBit i = true ↔ i < n := by
 rw [Nat.testBit_two_pow_sub_one, decide_eq_true_iff]
theorem all_cov {T : AT} {n : Nat} : T.all n ↔ T.cov (2 ^ n - 1) := by
 constructor
 · rintro ⟨h1, h2⟩; exact ⟨h1, fun i => by rw [h2, full_bit]⟩
 · rintro ⟨h1, h2⟩; exact ⟨h1, fun i => by rw [h2, full_bit]⟩
theorem full_pos {n : Nat} (h : n ≠ 0) : 2 ^ n - 1 ≠ 0 ∧ 2 ^ n - 1 < 2 ^ n := by
 obtain ⟨m, rfl⟩ := Nat.exists_eq_succ_of_ne_zero h
 have := Nat.one_le_two_pow (n := m)
 rw [Nat.pow_succ]; omega
/-- How many trees the symbols have. -/
def manyT (xs : List PSymbol) : Nat := if xs.length = 0 then 0 else (cellAt xs (2 ^ xs.length - 1)).ways
def leastT (xs : List PSymbol) : Int := (cellAt xs (2 ^ xs.length - 1)).cost
def bestT (xs : List PSymbol) : List PNode := (treeAt xs (2 ^ xs.length - 1)).nodes 0
/-- The best tree is a tree with the cost that is told. -/
theorem best_is {xs : List PSymbol} (h8 : xs.length ≤ 8) (h : manyT xs ≠ 0) : treeB xs (bestT xs) = true ∧ costF xs (bestT xs) (bestT xs).length = leastT xs := by
 rw [manyT] at h
 split at h
 · exact absurd rfl h
 · rename_i h0
   obtain ⟨t1, t2, t3⟩ := (chart xs _ (full_pos h0).1 (full_pos h0).2).1 h
   obtain ⟨r1, r2⟩ := abs_tree t1 (all_cov.2 t2) h8
   exact ⟨r1, by rw [bestT, r2, t3]; rfl⟩
/-- No other tree has a lesser cost. -/
theorem best_least {xs : List PSymbol} {ns : List PNode} (h : treeB xs ns = true) : manyT xs ≠ 0 ∧ leastT xs ≤ costF xs ns ns.length := by
 obtain ⟨T, t1, t2, -, -, t5, -⟩ := tree_abs h
 have h0 : xs.length ≠ 0 := by
  intro h0
  have := AT.all_len t2
  have := T.syms_pos
  omega
 obtain ⟨w, le⟩ := (chart xs _ (full_pos h0).1 (full_pos h0).2).2 T t1 (all_cov.1 t2)
 rw [manyT, if_neg h0, leastT, ← t5]
 exact ⟨w, le⟩
/-! ### How many trees there are -/
def pcn (n s : Nat) : Nat := (List.range n).countP fun i => s.testBit i
theorem pcn_succ (n s : Nat) : pcn (n + 1) s = s % 2 + pcn n (s / 2) := by
 rw [pcn, List.range_succ_eq_map, List.countP_cons, List.countP_map, pcn, Nat.add_comm]
 congr 1
 · rw [Nat.testBit_zero]
   have := Nat.mod_two_eq_zero_or_one s
   rcases this with h | h <;> simp [h]
 · congr 1
   funext i
   simp [Nat.testBit_succ]
theorem filter_range2 (p : Nat → Bool) : ∀ m, ((List.range (2 * m)).filter p).length = ((List.range m).filter fun i => p (2 * i)).length + ((List.range m).filter fun i => p (2 * i + 1)).length
 | 0 => rfl
 | m + 1 => by
   rw [show 2 * (m + 1) = 2 * m + 1 + 1 from rfl, List.range_succ, List.range_succ, List.filter_append, List.filter_append, List.length_append, List.length_append, filter_range2 p m]
   rw [List.range_succ, List.filter_append, List.filter_append, List.length_append, List.length_append]
   simp only [List.filter_cons, List.filter_nil]
   cases p (2 * m) <;> cases p (2 * m + 1) <;> simp <;> omega
theorem and_double (a r : Nat) : ((2 * a) &&& r = 2 * a ↔ a &&& (r / 2) = a) ∧ ((2 * a + 1) &&& r = 2 * a + 1 ↔ r % 2 = 1 ∧ a &&& (r / 2) = a) := by
 rw [sub_iff, sub_iff, sub_iff]
 have e0 : ∀ i, (2 * a).testBit (i + 1) = a.testBit i := fun i => by rw [Nat.testBit_succ]; congr 1; omega
 have e1 : ∀ i, (2 * a + 1).testBit (i + 1) = a.testBit i := fun i => by rw [Nat.testBit_succ]; congr 1; omega
 have z0 : (2 * a).testBit 0 = false := by rw [Nat.testBit_zero]; simp
 have z1 : (2 * a + 1).testBit 0 = true := by rw [Nat.testBit_zero]; simp
 have er : ∀ i, r.testBit (i + 1) = (r / 2).testBit i := fun i => Nat.testBit_succ r i
 constructor
 · constructor
   · intro h i hi; rw [← er]; exact h (i + 1) (by rw [e0]; exact hi)
   · intro h i hi
     cases i with
     | zero => rw [z0] at hi; cases hi
     | succ i => rw [er]; exact h i (by rw [← e0]; exact hi)
 · constructor
   · intro h
     refine ⟨?_, fun i hi => by rw [← er]; exact h (i + 1) (by rw [e1]; exact hi)⟩
     have := h 0 z1
     rw [Nat.testBit_zero, decide_eq_true_iff] at this
     exact this
   · rintro ⟨h0, h⟩ i hi
     cases i with
     | zero => rw [Nat.testBit_zero, decide_eq_true_iff]; exact h0
     | succ i => rw [er]; exact h i (by rw [← e1]; exact hi)
theorem count_subs : ∀ n r : Nat, ((List.range (2 ^ n)).filter fun a => decide (a &&& r = a)).length = 2 ^ pcn n r
 | 0, r => by simp [pcn]
 | n + 1, r => by
   have ih := count_subs n (r / 2)
   rw [show 2 ^ (n + 1) = 2 * 2 ^ n by rw [Nat.pow_succ, Nat.mul_comm], filter_range2, pcn_succ]
   have e0 : (fun i => decide ((2 * i) &&& r = 2 * i)) = fun i => decide (i &&& (r / 2) = i) := by
    funext i; rw [decide_eq_decide]; exact (and_double i r).1
   rw [e0, ih]
   rcases Nat.mod_two_eq_zero_or_one r with h | h
   · have e1 : (fun i => decide ((2 * i + 1) &&& r = 2 * i + 1)) = fun _ => false := by
      funext i; rw [decide_eq_false_iff_not, (and_double i r).2, h]; simp
     rw [e1, h]; simp
   · have e1 : (fun i => decide ((2 * i + 1) &&& r = 2 * i + 1)) = fun i => decide (i &&& (r / 2) = i) := by
      funext i; rw [decide_eq_decide, (and_double i r).2, h]; simp
     rw [e1, ih, h, Nat.pow_add]; omega
theorem subs_few {n r : Nat} (h : r < 2 ^ n) : (subs r).length ≤ 2 ^ pcn n r := by
 rw [← count_subs, subs]
 obtain ⟨d, hd⟩ := Nat.le.dest (Nat.le_of_lt h)
 rw [← hd, List.range_add, List.filter_append, List.length_append]
 refine Nat.le_trans ?_ (Nat.le_add_right _ _)
 rw [← List.countP_eq_length_filter, ← List.countP_eq_length_filter]
 refine List.countP_mono_left fun a _ ha => ?_
 rw [Bool.and_eq_true] at ha
 exact ha.2
theorem countP_three {p q s : Nat → Bool} {e : Nat → Bool} : ∀ l : List Nat, (∀ i ∈ l, (p i).toNat + (q i).toNat + (e i).toNat ≤ (s i).toNat) → l.countP p + l.countP q + l.countP e ≤ l.countP s
 | [], _ => Nat.le_refl _
 | i :: l, h => by
   have ih := countP_three l (fun j hj => h j (List.mem_cons_of_mem _ hj))
   have h0 := h i (List.mem_cons_self ..)
   simp only [List.countP_cons]
   revert h0
   cases p i <;> cases q i <;> cases e i <;> cases s i <;> simp <;> omega
/-- The parts of a way have together fewer symbols, if it has a sign. -/
theorem opt_pcn {xs : List PSymbol} {s : Nat} {o : Opt} (hs : s < 2 ^ xs.length) (h : IsOpt xs s o) (h1 : ∀ i, s ≠ 2 ^ i) : pcn xs.length o.a + pcn xs.length o.b + (if o.kind = 2 ∨ o.kind = 5 then 1 else 0) ≤ pcn xs.length s := by
 obtain ⟨a0, b0, b5, hb, hd, hsg⟩ := opt_bits xs h h1
 have h3 := countP_three (p := fun i => o.a.testBit i) (q := fun i => o.b.testBit i) (s := fun i => s.testBit i) (e := fun i => decide ((o.kind = 2 ∨ o.kind = 5) ∧ i = o.sign)) (List.range xs.length) (fun i _ => by
  have hbi := hb i
  have hdi := hd i
  by_cases hk : (o.kind = 2 ∨ o.kind = 5) ∧ i = o.sign
  · obtain ⟨k1, rfl⟩ := hk
    obtain ⟨s1, s2⟩ := hsg k1
    rw [hbi.2 (.inr (.inr ⟨k1, rfl⟩)), s1, s2]; exact Nat.le_trans (Nat.add_le_add_left (Bool.toNat_le _) _) (by simp)
  · rw [decide_eq_false hk]
    cases ha : o.a.testBit i with
    | true => rw [hdi ha, hbi.2 (.inl ha)]; simp
    | false =>
      cases hb' : o.b.testBit i with
      | true => rw [hbi.2 (.inr (.inl hb'))]; simp
      | false => simp)
 refine Nat.le_trans (Nat.add_le_add_left ?_ _) h3
 split
 · rename_i hk
   have hq : o.sign < xs.length := bit_lt hs ((hb o.sign).2 (.inr (.inr ⟨hk, rfl⟩)))
   exact List.countP_pos_iff.2 ⟨o.sign, List.mem_range.2 hq, by simpa using hk⟩
 · exact Nat.zero_le _

theorem rest_pcn {n s q : Nat} (hs : s < 2 ^ n) (h : s.testBit q = true) : pcn n (s ^^^ 2 ^ q) + 1 ≤ pcn n s := by
 have h3 := countP_three (p := fun i => (s ^^^ 2 ^ q).testBit i) (q := fun _ => false) (s := fun i => s.testBit i) (e := fun i => decide (i = q)) (List.range n) (fun i _ => by
  rw [Nat.testBit_xor, Nat.testBit_two_pow]
  by_cases e : i = q
  · subst e; simp [h]
  · rw [decide_eq_false e, decide_eq_false (fun h => e h.symm)]; simp)
 have : 1 ≤ (List.range n).countP fun i => decide (i = q) := List.countP_pos_iff.2 ⟨q, List.mem_range.2 (bit_lt hs h), by simp⟩
 unfold pcn
 omega
theorem pcn_pos {n s : Nat} (hs : s < 2 ^ n) (h : s ≠ 0) : 1 ≤ pcn n s := by
 obtain ⟨i, hi⟩ := ne_zero_bit h
 exact List.countP_pos_iff.2 ⟨i, List.mem_range.2 (bit_lt hs hi), hi⟩
theorem pcn_le (n s : Nat) : pcn n s ≤ n := by
 have := List.countP_le_length (p := fun i => s.testBit i) (l := List.range n)
 rwa [List.length_range] at this
def tabF : Nat → Nat
 | 0 => 1
 | 1 => 1
 | m + 2 => (3 * 2 ^ (m + 2) + ((m + 2) * 2 ^ (m + 1) + (m + 2))) * tabF (m + 1)
theorem tabF_mul : ∀ i ≤ 8, ∀ j ≤ 8, 1 ≤ i → 1 ≤ j → i + j ≤ 8 → tabF i * tabF j ≤ tabF (i + j - 1) := by decide
theorem tabF_mono : ∀ j ≤ 8, ∀ i ≤ j, tabF i ≤ tabF j := by decide
theorem tabF_eight : tabF 8 ≤ 10000000000000000 := by decide
theorem sum_le {α : Type} (f : α → Nat) (B : Nat) : ∀ l : List α, (∀ x ∈ l, f x ≤ B) → (l.map f).sum ≤ l.length * B
 | [], _ => by simp
 | x :: l, h => by
   have ih := sum_le f B l (fun y hy => h y (List.mem_cons_of_mem _ hy))
   have := h x (List.mem_cons_self ..)
   rw [List.map_cons, List.sum_cons, List.length_cons, Nat.add_mul]; omega
theorem flat_le {α : Type} (p c : Nat → Bool) (g : Nat → List α) (X : Nat) : ∀ l : List Nat, (∀ i ∈ l, p i = true → c i = true ∧ (g i).length ≤ X) → (l.flatMap fun i => if p i = true then g i else []).length ≤ l.countP c * X
 | [], _ => by simp
 | i :: l, h => by
   have ih := flat_le p c g X l (fun j hj => h j (List.mem_cons_of_mem _ hj))
   have h0 := h i (List.mem_cons_self ..)
   rw [List.flatMap_cons, List.length_append, List.countP_cons, Nat.add_mul]
   by_cases hp : p i = true
   · rw [if_pos hp, if_pos (h0 hp).1]; have := (h0 hp).2; omega
   · rw [if_neg hp]; simp only [List.length_nil]; omega
theorem opts_few {xs : List PSymbol} {s m : Nat} (hs : s < 2 ^ xs.length) (hm : pcn xs.length s = m + 2) : (optsF xs s).length ≤ 3 * 2 ^ (m + 2) + ((m + 2) * 2 ^ (m + 1) + (m + 2)) := by
 have h1 : ∀ k i, (splitO k i s).length ≤ 2 ^ (m + 2) := fun k i => by rw [splitO, List.length_map, ← hm]; exact subs_few hs
 have hx : ∀ q, s.testBit q = true → s ^^^ 2 ^ q < 2 ^ xs.length := fun q hq => Nat.xor_lt_two_pow hs (Nat.pow_lt_pow_right (by decide) (bit_lt hs hq))
 have h2 : (overO xs s).length ≤ (m + 2) * 2 ^ (m + 1) := by
  rw [← hm, overO]
  refine flat_le (fun i => hasS xs s i minus1) (fun i => s.testBit i) (fun i => splitO 2 i (s ^^^ 2 ^ i)) (2 ^ (m + 1)) _ (fun i _ hi => ?_)
  simp only [hasS, Bool.and_eq_true] at hi
  refine ⟨hi.1, ?_⟩
  rw [splitO, List.length_map]
  refine Nat.le_trans (subs_few (hx i hi.1)) (Nat.pow_le_pow_right (by decide) ?_)
  have := rest_pcn hs hi.1
  omega
 have h3 : (rootO xs s).length ≤ m + 2 := by
  rw [← hm, rootO]
  have := flat_le (fun i => hasS xs s i root1) (fun i => s.testBit i) (fun i => [(⟨5, i, s ^^^ 2 ^ i, 0⟩ : Opt)]) 1 (List.range xs.length) (fun i _ hi => by
   simp only [hasS, Bool.and_eq_true] at hi
   exact ⟨hi.1, by simp⟩)
  rw [Nat.mul_one] at this
  exact this
 rw [optsF]
 simp only [List.length_append]
 have a1 := h1 1 0; have a3 := h1 3 0; have a4 := h1 4 0
 omega
theorem not_one_pcn {n s : Nat} (hs : s < 2 ^ n) (h0 : s ≠ 0) (h : s ≠ 2 ^ s.log2) : 2 ≤ pcn n s := by
 obtain ⟨i, hi⟩ := ne_zero_bit h0
 have h1 := rest_pcn hs hi
 have h2 : s ^^^ 2 ^ i ≠ 0 := by
  intro hz
  apply not_single h i
  apply Nat.eq_of_testBit_eq
  intro j
  have : (s ^^^ 2 ^ i).testBit j = false := by rw [hz]; simp
  rw [Nat.testBit_xor] at this
  revert this
  cases s.testBit j <;> cases (2 ^ i).testBit j <;> simp
 have := pcn_pos (Nat.xor_lt_two_pow hs (Nat.pow_lt_pow_right (by decide) (bit_lt hs hi))) h2
 omega
theorem ways_le {xs : List PSymbol} (h8 : xs.length ≤ 8) : ∀ s, s ≠ 0 → s < 2 ^ xs.length → (cellAt xs s).ways ≤ tabF (pcn xs.length s) := by
 intro s
 induction s using Nat.strongRecOn with
 | _ s ih =>
 intro s0 hs
 have hp8 := pcn_le xs.length s
 by_cases h1 : s = 2 ^ s.log2
 · rw [cellAt_single xs hs h1]
   exact tabF_mono _ (by omega) 0 (Nat.zero_le _)
 · have hns := not_single h1
   have hC := cellAt_of xs hs h1
   have hp := not_one_pcn hs s0 h1
   obtain ⟨m, hm⟩ : ∃ m, pcn xs.length s = m + 2 := ⟨pcn xs.length s - 2, by omega⟩
   rw [hC.ways, hm, tabF]
   refine Nat.le_trans (sum_le _ (tabF (m + 1)) _ fun o ho => ?_) (Nat.mul_le_mul_right _ (opts_few hs hm))
   have hop := (mem_optsF xs hs).1 ho
   obtain ⟨la, lb⟩ := opt_lt xs hop hns
   obtain ⟨a0, b0, b5, -, -, -⟩ := opt_bits xs hop hns
   have hpc := opt_pcn hs hop hns
   have iha := ih o.a la a0 (by omega)
   rw [wayL]
   split
   · rw [waysO]
     split
     · rename_i hb
       have h5 : o.kind = 5 := by
        rcases Classical.em (o.kind = 5) with h | h
        · exact h
        · exact absurd hb (b0 h)
       rw [if_pos (.inr h5)] at hpc
       rw [Nat.mul_one]
       exact Nat.le_trans iha (tabF_mono _ (by omega) _ (by omega))
     · rename_i hb
       have ihb := ih o.b lb hb (by omega)
       have pa := pcn_pos (n := xs.length) (by omega) a0
       have pb := pcn_pos (n := xs.length) (by omega) hb
       refine Nat.le_trans (Nat.mul_le_mul iha ihb) (Nat.le_trans (tabF_mul _ (by omega) _ (by omega) pa pb (by omega)) (tabF_mono _ (by omega) _ (by omega)))
   · exact Nat.zero_le _
theorem ways_small {xs : List PSymbol} (h8 : xs.length ≤ 8) {s : Nat} (h0 : s ≠ 0) (hs : s < 2 ^ xs.length) : (cellAt xs s).ways ≤ 10000000000000000 :=
 Nat.le_trans (ways_le h8 s h0 hs) (Nat.le_trans (tabF_mono 8 (Nat.le_refl _) _ (Nat.le_trans (pcn_le _ _) h8)) tabF_eight)
end Go.Proofs.Ytmopioaojdlnkaa
namespace Go.Proofs.Ytmopioaojdlnkaa
open Go Go.RowKit

section
variable {xs : List PSymbol}
theorem lexO_ne {x y : Opt} (h : lexO x y) : x ≠ y := by
 rintro rfl
 rcases h with h | ⟨_, h | ⟨_, h⟩⟩ <;> omega
theorem optsF_nodup (xs : List PSymbol) (s : Nat) : (optsF xs s).Nodup := (optsF_lex xs s).imp lexO_ne
end
end Go.Proofs.Ytmopioaojdlnkaa
namespace Go.Proofs.Ytmopioaojdlnkaa
open Go Go.RowKit

/-! ### The ways in another order -/
instance (x y : Opt) : Decidable (lexO x y) := by unfold lexO; infer_instance
theorem lexO_total {xs : List PSymbol} {s : Nat} {x y : Opt} (hx : IsOpt xs s x) (hy : IsOpt xs s y) : x = y ∨ lexO x y ∨ lexO y x := by
 by_cases hk : x.kind = y.kind
 · by_cases hs : x.sign = y.sign
   · by_cases ha : x.a = y.a
     · left
       have hb : x.b = y.b := by
        rcases hx with ⟨h1, h2, h3, h4⟩ | ⟨h1, h2, h3, h4⟩ | ⟨h1, h2, h3, h4⟩
        · rcases hy with ⟨g1, g2, g3, g4⟩ | ⟨g1, g2, g3, g4⟩ | ⟨g1, g2, g3, g4⟩
          · rw [h4, g4, ha]
          · omega
          · omega
        · rcases hy with ⟨g1, g2, g3, g4⟩ | ⟨g1, g2, g3, g4⟩ | ⟨g1, g2, g3, g4⟩
          · omega
          · rw [h4, g4, ha, hs]
          · omega
        · rcases hy with ⟨g1, g2, g3, g4⟩ | ⟨g1, g2, g3, g4⟩ | ⟨g1, g2, g3, g4⟩
          · omega
          · omega
          · rw [h4, g4]
       obtain ⟨k, q, a, b⟩ := x
       obtain ⟨k', q', a', b'⟩ := y
       simp only at hk hs ha hb
       rw [hk, hs, ha, hb]
     · right
       rcases Nat.lt_or_gt_of_ne ha with h | h
       · exact .inl (.inr ⟨hk, .inr ⟨hs, h⟩⟩)
       · exact .inr (.inr ⟨hk.symm, .inr ⟨hs.symm, h⟩⟩)
   · right
     rcases Nat.lt_or_gt_of_ne hs with h | h
     · exact .inl (.inr ⟨hk, .inl h⟩)
     · exact .inr (.inr ⟨hk.symm, .inl h⟩)
 · right
   rcases Int.lt_or_gt_of_ne hk with h | h
   · exact .inl (.inl h)
   · exact .inr (.inl h)
section
variable (xs : List PSymbol) (c : Nat → Cell)
def stepI (m : Cell) (o : Opt) : Cell :=
 if liveO xs c o = true then (if m.ways = 0 ∨ costO xs c o < m.cost ∨ costO xs c o = m.cost ∧ lexO o ⟨m.kind, m.sign, m.a, m.b⟩ then ⟨m.ways + waysO c o, costO xs c o, o.kind, o.sign, o.a, o.b⟩ else { m with ways := m.ways + waysO c o }) else m
theorem lexO_trans {x y z : Opt} (h : lexO x y) (k : lexO y z) : lexO x z := by
 unfold lexO at *
 omega
theorem CellOf.stepI {P : List Opt} {m : Cell} (h : CellOf xs c P m) {q : Opt} (hq : ∀ p ∈ P, p = q ∨ lexO p q ∨ lexO q p) : CellOf xs c (P ++ [q]) (stepI xs c m q) := by
 by_cases hl : liveO xs c q = true
 · have hpos := live_pos xs c hl
   have hw : wayL xs c q = waysO c q := if_pos hl
   have hsum : ∀ n, n = m.ways + waysO c q → n = ((P ++ [q]).map (wayL xs c)).sum := by
    rintro n rfl
    rw [List.map_append, List.sum_append, ← h.ways]; simp [hw]
   rcases h.best with ⟨rfl, hd⟩ | ⟨h0, o, ho, hlo, hm, hb⟩
   · rw [Go.Proofs.Ytmopioaojdlnkaa.stepI, if_pos hl, if_pos (.inl rfl)]
     refine ⟨hsum _ rfl, .inr ⟨by simp [cell0]; omega, q, by simp, hl, rfl, ?_⟩⟩
     intro p hp hlp
     rcases List.mem_append.1 hp with hp | hp
     · rw [hd p hp] at hlp; cases hlp
     · rw [List.mem_singleton] at hp; exact .inr ⟨by rw [hp], .inl hp⟩
   · have hmc : m.cost = costO xs c o := by rw [hm]
     have hmo : (⟨m.kind, m.sign, m.a, m.b⟩ : Opt) = o := by rw [hm]
     rw [Go.Proofs.Ytmopioaojdlnkaa.stepI, if_pos hl, hmo]
     by_cases hc : costO xs c q < m.cost ∨ costO xs c q = m.cost ∧ lexO q o
     · rw [if_pos (.inr hc)]
       refine ⟨hsum _ rfl, .inr ⟨by dsimp only; omega, q, by simp, hl, rfl, ?_⟩⟩
       intro p hp hlp
       rcases List.mem_append.1 hp with hp | hp
       · have h1 := hb p hp hlp
         rcases hc with hc | ⟨hc, hx⟩
         · left; omega
         · rcases h1 with h1 | ⟨h1, h2⟩
           · left; omega
           · refine .inr ⟨by omega, .inr ?_⟩
             rcases h2 with rfl | h2
             · exact hx
             · exact lexO_trans hx h2
       · rw [List.mem_singleton] at hp; exact .inr ⟨by rw [hp], .inl hp⟩
     · rw [if_neg (fun h => h.elim h0 hc)]
       refine ⟨hsum _ rfl, .inr ⟨by dsimp only; omega, o, List.mem_append_left _ ho, hlo, by rw [hm], ?_⟩⟩
       intro p hp hlp
       rcases List.mem_append.1 hp with hp | hp
       · exact hb p hp hlp
       · rw [List.mem_singleton] at hp; subst hp
         rw [hmc] at hc
         rcases Int.lt_trichotomy (costO xs c o) (costO xs c p) with h1 | h1 | h1
         · exact .inl h1
         · refine .inr ⟨h1, ?_⟩
           rcases hq o ho with h2 | h2 | h2
           · exact .inl h2.symm
           · exact .inr h2
           · exact absurd (.inr ⟨h1.symm, h2⟩) hc
         · exact absurd (.inl h1) hc
 · have hl' : liveO xs c q = false := by simpa using hl
   rw [Go.Proofs.Ytmopioaojdlnkaa.stepI, if_neg hl]
   refine ⟨by rw [List.map_append, List.sum_append, ← h.ways]; simp [wayL, hl'], ?_⟩
   rcases h.best with ⟨h1, h2⟩ | ⟨h0, o, ho, hlo, hm, hb⟩
   · refine .inl ⟨h1, fun p hp => ?_⟩
     rcases List.mem_append.1 hp with hp | hp
     · exact h2 p hp
     · rw [List.mem_singleton] at hp; rw [hp]; exact hl'
   · refine .inr ⟨h0, o, List.mem_append_left _ ho, hlo, hm, fun p hp hlp => ?_⟩
     rcases List.mem_append.1 hp with hp | hp
     · exact hb p hp hlp
     · rw [List.mem_singleton] at hp; rw [hp, hl'] at hlp; cases hlp
theorem cellOf_foldI : ∀ (R P : List Opt) (m : Cell), CellOf xs c P m → (∀ p ∈ P ++ R, ∀ q ∈ P ++ R, p = q ∨ lexO p q ∨ lexO q p) → CellOf xs c (P ++ R) (R.foldl (stepI xs c) m)
 | [], P, m, h, _ => by rw [List.append_nil]; exact h
 | q :: R, P, m, h, hp => by
   have e : P ++ q :: R = (P ++ [q]) ++ R := by simp
   have hp' := hp
   rw [e] at hp ⊢
   exact cellOf_foldI R (P ++ [q]) _ (h.stepI xs c (fun p hpm => hp' p (List.mem_append_left _ hpm) q (by simp))) hp
theorem lexO_asymm {x y : Opt} (h : lexO x y) (k : lexO y x) : False := by
 unfold lexO at *
 omega
/-- What a cell says is settled by the ways. -/
theorem cellOf_same {P Q : List Opt} {m k : Cell} (h : CellOf xs c P m) (g : CellOf xs c Q k) (hp : P.Perm Q) : m = k := by
 have hw : m.ways = k.ways := by rw [h.ways, g.ways]; exact (hp.map _).sum_nat
 rcases h.best with ⟨h1, h2⟩ | ⟨h0, o, ho, hlo, hm, hb⟩
 · rcases g.best with ⟨g1, _⟩ | ⟨g0, p, hp', hlp, _⟩
   · rw [h1, g1]
   · rw [h2 p (hp.mem_iff.2 hp')] at hlp; cases hlp
 · rcases g.best with ⟨g1, g2⟩ | ⟨g0, p, hp', hlp, gm, gb⟩
   · rw [g2 o (hp.mem_iff.1 ho)] at hlo; cases hlo
   · have c1 := hb p (hp.mem_iff.2 hp') hlp
     have c2 := gb o (hp.mem_iff.1 ho) hlo
     have e : o = p := by
      rcases c1 with c1 | ⟨c1, c3⟩
      · rcases c2 with c2 | ⟨c2, _⟩ <;> omega
      · rcases c2 with c2 | ⟨c2, c4⟩
        · omega
        · rcases c3 with c3 | c3
          · exact c3.symm
          · rcases c4 with c4 | c4
            · exact c4
            · exact (lexO_asymm c3 c4).elim
     rw [hm, gm, e, hw]
end
/-- The program's order of the ways. -/
def threeO (s a : Nat) : List Opt := [⟨1, 0, a, s ^^^ a⟩, ⟨3, 0, a, s ^^^ a⟩, ⟨4, 0, a, s ^^^ a⟩]
def subsD (r : Nat) : List Nat := (subs r).reverse
def signO (xs : List PSymbol) (s i : Nat) : List Opt :=
 if s.testBit i = true then (if (symAt xs i).label = minus1 then (subsD (s ^^^ 2 ^ i)).map fun a => ⟨2, i, a, (s ^^^ 2 ^ i) ^^^ a⟩ else if (symAt xs i).label = root1 then [⟨5, i, s ^^^ 2 ^ i, 0⟩] else []) else []
def optsI (xs : List PSymbol) (s : Nat) : List Opt := (subsD s).flatMap (threeO s) ++ (List.range xs.length).flatMap (signO xs s)
theorem minus_root : minus1 ≠ root1 := by decide
theorem mem_subsD {a r : Nat} : a ∈ subsD r ↔ a ∈ subs r := by rw [subsD, List.mem_reverse]
theorem mem_optsI {xs : List PSymbol} {s : Nat} (hs : s < 2 ^ xs.length) {o : Opt} : o ∈ optsI xs s ↔ IsOpt xs s o := by
 rw [optsI, List.mem_append, List.mem_flatMap, List.mem_flatMap]
 constructor
 · rintro (⟨a, ha, ho⟩ | ⟨i, hi, ho⟩)
   · rw [mem_subsD] at ha
     simp only [threeO, List.mem_cons, List.not_mem_nil, or_false] at ho
     rcases ho with rfl | rfl | rfl
     · exact .inl ⟨.inl rfl, rfl, ha, rfl⟩
     · exact .inl ⟨.inr (.inl rfl), rfl, ha, rfl⟩
     · exact .inl ⟨.inr (.inr rfl), rfl, ha, rfl⟩
   · rw [signO] at ho
     split at ho
     · rename_i hb
       split at ho
       · rename_i hl
         obtain ⟨a, ha, rfl⟩ := List.mem_map.1 ho
         exact .inr (.inl ⟨rfl, by rw [hasS, hb]; simpa using hl, mem_subsD.1 ha, rfl⟩)
       · split at ho
         · rename_i hl
           rw [List.mem_singleton] at ho; subst ho
           exact .inr (.inr ⟨rfl, by rw [hasS, hb]; simpa using hl, rfl, rfl⟩)
         · cases ho
     · cases ho
 · obtain ⟨k, q, a, b⟩ := o
   rintro (⟨h1, h2, h3, h4⟩ | ⟨h1, h2, h3, h4⟩ | ⟨h1, h2, h3, h4⟩)
   · simp only at h1 h2 h3 h4
     subst h2; subst h4
     refine .inl ⟨a, mem_subsD.2 h3, ?_⟩
     rcases h1 with rfl | rfl | rfl <;> simp [threeO]
   · simp only at h1 h2 h3 h4
     subst h1; subst h4
     rw [hasS, Bool.and_eq_true, decide_eq_true_iff] at h2
     refine .inr ⟨q, List.mem_range.2 (bit_lt hs h2.1), ?_⟩
     rw [signO, if_pos h2.1, if_pos h2.2]
     exact List.mem_map.2 ⟨a, mem_subsD.2 h3, rfl⟩
   · simp only at h1 h2 h3 h4
     subst h1; subst h4; subst h3
     rw [hasS, Bool.and_eq_true, decide_eq_true_iff] at h2
     refine .inr ⟨q, List.mem_range.2 (bit_lt hs h2.1), ?_⟩
     rw [signO, if_pos h2.1, if_neg (by rw [h2.2]; exact fun h => minus_root h.symm), if_pos h2.2]
     simp
theorem subsD_nodup (r : Nat) : (subsD r).Nodup := by
 rw [subsD, List.Nodup, List.pairwise_reverse]
 exact (subs_lt r).imp fun h => by omega
theorem optsI_nodup (xs : List PSymbol) (s : Nat) : (optsI xs s).Nodup := by
 rw [optsI, List.nodup_append]
 refine ⟨?_, ?_, ?_⟩
 · rw [List.Nodup, List.pairwise_flatMap]
   refine ⟨fun a _ => by simp [threeO], (subsD_nodup s).imp fun {a b} hab x hx y hy he => ?_⟩
   apply hab
   simp only [threeO, List.mem_cons, List.not_mem_nil, or_false] at hx hy
   have e1 : x.a = a := by rcases hx with rfl | rfl | rfl <;> rfl
   have e2 : y.a = b := by rcases hy with rfl | rfl | rfl <;> rfl
   rw [← e1, ← e2, he]
 · have hsg : ∀ i, ∀ o ∈ signO xs s i, o.sign = i := by
    intro i o ho
    rw [signO] at ho
    split at ho
    · split at ho
      · obtain ⟨a, _, rfl⟩ := List.mem_map.1 ho; rfl
      · split at ho
        · rw [List.mem_singleton] at ho; rw [ho]
        · cases ho
    · cases ho
   rw [List.Nodup, List.pairwise_flatMap]
   refine ⟨fun i _ => ?_, List.nodup_range.imp fun {a b} hab x hx y hy he => ?_⟩
   · rw [signO]
     split
     · split
       · rw [List.pairwise_map]
         exact (subsD_nodup _).imp fun {a b} hab he => hab (Opt.mk.inj he).2.2.1
       · split
         · exact List.pairwise_singleton _ _
         · exact .nil
     · exact .nil
   · apply hab
     rw [← hsg a x hx, ← hsg b y hy, he]
 · rintro x hx y hy rfl
   obtain ⟨a, _, ha⟩ := List.mem_flatMap.1 hx
   obtain ⟨i, _, hi⟩ := List.mem_flatMap.1 hy
   have h1 : x.kind = 1 ∨ x.kind = 3 ∨ x.kind = 4 := by
    simp only [threeO, List.mem_cons, List.not_mem_nil, or_false] at ha
    rcases ha with rfl | rfl | rfl <;> simp
   have h2 : x.kind = 2 ∨ x.kind = 5 := by
    rw [signO] at hi
    split at hi
    · split at hi
      · obtain ⟨a, _, rfl⟩ := List.mem_map.1 hi; exact .inl rfl
      · split at hi
        · rw [List.mem_singleton] at hi; rw [hi]; exact .inr rfl
        · cases hi
    · cases hi
   omega
/-- The program's cell is the chart's. -/
theorem cellI_eq {xs : List PSymbol} {s : Nat} (hs : s < 2 ^ xs.length) (h1 : s ≠ 2 ^ s.log2) : (optsI xs s).foldl (stepI xs (cellAt xs)) cell0 = cellAt xs s := by
 have h := cellOf_foldI xs (cellAt xs) (optsI xs s) [] cell0 (cellOf_nil xs _) (fun p hp q hq => lexO_total ((mem_optsI hs).1 hp) ((mem_optsI hs).1 hq))
 rw [List.nil_append] at h
 refine cellOf_same xs _ h (cellAt_of xs hs h1) ((List.perm_ext_iff_of_nodup (optsI_nodup xs s) (optsF_nodup xs s)).2 fun o => ?_)
 rw [mem_optsI hs, mem_optsF xs hs]
theorem sub_pred : ∀ (a m r : Nat), a &&& r = a → m &&& r = m → m < a → m ≤ (a - 1) &&& r := by
 intro a
 induction a using Nat.strongRecOn with
 | _ a ih =>
 intro m r ha hm hlt
 have ha2 : a / 2 &&& r / 2 = a / 2 := by rw [← Nat.and_div_two, ha]
 have hm2 : m / 2 &&& r / 2 = m / 2 := by rw [← Nat.and_div_two, hm]
 have hx := Nat.and_div_two (a := a - 1) (b := r)
 rcases Nat.mod_two_eq_zero_or_one a with h0 | h0
 · have e : (a - 1) / 2 = a / 2 - 1 := by omega
   rw [e] at hx
   have hmod : ((a - 1) &&& r) % 2 = r % 2 := by
    have t : ((a - 1) &&& r).testBit 0 = r.testBit 0 := by
     rw [Nat.testBit_and]
     have : (a - 1).testBit 0 = true := by rw [Nat.testBit_zero, decide_eq_true_iff]; omega
     rw [this, Bool.true_and]
    rw [Nat.testBit_zero, Nat.testBit_zero, decide_eq_decide] at t
    omega
   have hmr : m % 2 ≤ r % 2 := by
    have t := congrArg (fun x => x.testBit 0) hm
    simp only [Nat.testBit_and] at t
    rw [Nat.testBit_zero, Nat.testBit_zero] at t
    rcases Nat.mod_two_eq_zero_or_one m with h | h
    · omega
    · rcases Nat.mod_two_eq_zero_or_one r with h' | h'
      · rw [h, h'] at t; simp at t
      · omega
   by_cases hml : m / 2 < a / 2
   · have := ih (a / 2) (by omega) (m / 2) (r / 2) ha2 hm2 hml
     omega
   · omega
 · have e : (a - 1) / 2 = a / 2 := by omega
   rw [e, ha2] at hx
   omega
/-- The parts below a part, from above. -/
def downF (r a : Nat) : List Nat := ((subs r).filter fun m => decide (m < a)).reverse
theorem down_step {r a : Nat} (ha : a &&& r = a) : downF r a = if (a - 1) &&& r = 0 then [] else ((a - 1) &&& r) :: downF r ((a - 1) &&& r) := by
 have hx : ((a - 1) &&& r) &&& r = (a - 1) &&& r := by rw [Nat.and_assoc, Nat.and_self]
 have hle : (a - 1) &&& r ≤ a - 1 := Nat.and_le_left
 have har : a ≤ r := by rw [← ha]; exact Nat.and_le_right
 have hmem : ∀ m, m ∈ subs r → (m < a ↔ m ≤ (a - 1) &&& r) := by
  intro m hm
  rw [mem_subs, ← sub_iff] at hm
  exact ⟨fun h => sub_pred a m r ha hm.2.2 h, fun h => by omega⟩
 generalize hd : (a - 1) &&& r = d at *
 by_cases hz : d = 0
 · rw [if_pos hz, downF, List.reverse_eq_nil_iff, List.filter_eq_nil_iff]
   intro m hm
   rw [decide_eq_true_iff, hmem m hm]
   rw [mem_subs] at hm
   omega
 · rw [if_neg hz, downF, downF]
   have hds : d ∈ subs r := by rw [mem_subs, ← sub_iff]; exact ⟨hz, by omega, hx⟩
   have e1 : (subs r).filter (fun m => decide (m < a)) = (subs r).filter (fun m => decide (m < d)) ++ [d] := by
    have key : ∀ l : List Nat, l.Pairwise (· < ·) → d ∈ l → (∀ m ∈ l, (m < a ↔ m ≤ d)) → l.filter (fun m => decide (m < a)) = l.filter (fun m => decide (m < d)) ++ [d] := by
     intro l
     induction l with
     | nil => intro _ h; cases h
     | cons x l ih =>
       intro hp hin hm
       rw [List.pairwise_cons] at hp
       have hmx := hm x (List.mem_cons_self ..)
       by_cases hxd : x = d
       · subst hxd
         have hr1 : l.filter (fun m => decide (m < a)) = [] := List.filter_eq_nil_iff.2 fun m hm' => by
          rw [decide_eq_true_iff, hm m (List.mem_cons_of_mem _ hm')]; have := hp.1 m hm'; omega
         have hr2 : l.filter (fun m => decide (m < x)) = [] := List.filter_eq_nil_iff.2 fun m hm' => by
          rw [decide_eq_true_iff]; have := hp.1 m hm'; omega
         rw [List.filter_cons_of_pos (by rw [decide_eq_true_iff]; omega), List.filter_cons_of_neg (by simp), hr1, hr2]; rfl
       · have hin' : d ∈ l := by
          rcases List.mem_cons.1 hin with h | h
          · exact absurd h.symm hxd
          · exact h
         have hlt := hp.1 d hin'
         rw [List.filter_cons_of_pos (by rw [decide_eq_true_iff]; omega), List.filter_cons_of_pos (by rw [decide_eq_true_iff]; omega), ih hp.2 hin' (fun m hm' => hm m (List.mem_cons_of_mem _ hm'))]; rfl
    exact key (subs r) (subs_lt r) hds hmem
   rw [e1, List.reverse_append]; rfl
theorem down_all (r : Nat) : downF r r = subsD r := by
 rw [downF, subsD]
 congr 1
 rw [List.filter_eq_self]
 intro m hm
 rw [decide_eq_true_iff]
 rw [mem_subs] at hm
 exact bits_lt hm.2.2 hm.2.1
end Go.Proofs.Ytmopioaojdlnkaa
