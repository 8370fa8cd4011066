/- All symbols, the best tree among all, and how many trees there may be. No program is named here. Conditions: none. -/
import Derived.Test.YtmopioaojdlnkaaPrBt
namespace Go.Proofs.Ytmopioaojdlnkaa
open Go Go.RowKit
theorem full_bit {n i : Nat} : (2 ^ n - 1).testBit i = true ↔ i < n := by
 rw [Nat.testBit_two_pow_sub_one, decide_eq_true_iff]
theorem all_cov {T : AT} {n : Nat} : T.all n ↔ T.cov (2 ^ n - 1) := by
 constructor
 · rintro ⟨h1, h2⟩; exact ⟨h1, fun i => by rw [h2, full_bit]⟩
 · rintro ⟨h1, h2⟩; exact ⟨h1, fun i => by rw [h2, full_bit]⟩
theorem full_pos {n : Nat} (h : n ≠ 0) : 2 ^ n - 1 ≠ 0 ∧ 2 ^ n - 1 < 2 ^ n := by
 obtain ⟨m, rfl⟩ := Nat.exists_eq_succ_of_ne_zero h
 have := Nat.one_le_two_pow (n := m)
 rw [Nat.pow_succ]; omega
def manyT (xs : List PSymbol) : Nat := if xs.length = 0 then 0 else (cellAt xs (2 ^ xs.length - 1)).ways
def leastT (xs : List PSymbol) : Int := (cellAt xs (2 ^ xs.length - 1)).cost
def bestT (xs : List PSymbol) : List PNode := (treeAt xs (2 ^ xs.length - 1)).nodes 0
theorem best_is {xs : List PSymbol} (h8 : xs.length ≤ 8) (h : manyT xs ≠ 0) : treeB xs (bestT xs) = true ∧ costF xs (bestT xs) (bestT xs).length = leastT xs := by
 rw [manyT] at h
 split at h
 · exact absurd rfl h
 · rename_i h0
   obtain ⟨t1, t2, t3⟩ := (chart xs _ (full_pos h0).1 (full_pos h0).2).1 h
   obtain ⟨r1, r2⟩ := abs_tree t1 (all_cov.2 t2) h8
   exact ⟨r1, by rw [bestT, r2, t3]; rfl⟩
def pcn (n s : Nat) : Nat := (List.range n).countP fun i => s.testBit i
theorem pcn_succ (n s : Nat) : pcn (n + 1) s = s % 2 + pcn n (s / 2) := by
 rw [pcn, List.range_succ_eq_map, List.countP_cons, List.countP_map, pcn, Nat.add_comm]
 congr 1
 · rw [Nat.testBit_zero]
   have := Nat.mod_two_eq_zero_or_one s
   rcases this with h | h <;> simp [h]
 · congr 1
   funext i
   simp [Nat.testBit_succ]
theorem filter_range2 (p : Nat → Bool) : ∀ m, ((List.range (2 * m)).filter p).length = ((List.range m).filter fun i => p (2 * i)).length + ((List.range m).filter fun i => p (2 * i + 1)).length
 | 0 => rfl
 | m + 1 => by
   rw [show 2 * (m + 1) = 2 * m + 1 + 1 from rfl, List.range_succ, List.range_succ, List.filter_append, List.filter_append, List.length_append, List.length_append, filter_range2 p m]
   rw [List.range_succ, List.filter_append, List.filter_append, List.length_append, List.length_append]
   simp only [List.filter_cons, List.filter_nil]
   cases p (2 * m) <;> cases p (2 * m + 1) <;> simp <;> omega
theorem and_double (a r : Nat) : ((2 * a) &&& r = 2 * a ↔ a &&& (r / 2) = a) ∧ ((2 * a + 1) &&& r = 2 * a + 1 ↔ r % 2 = 1 ∧ a &&& (r / 2) = a) := by
 rw [sub_iff, sub_iff, sub_iff]
 have e0 : ∀ i, (2 * a).testBit (i + 1) = a.testBit i := fun i => by rw [Nat.testBit_succ]; congr 1; omega
 have e1 : ∀ i, (2 * a + 1).testBit (i + 1) = a.testBit i := fun i => by rw [Nat.testBit_succ]; congr 1; omega
 have z0 : (2 * a).testBit 0 = false := by rw [Nat.testBit_zero]; simp
 have z1 : (2 * a + 1).testBit 0 = true := by rw [Nat.testBit_zero]; simp
 have er : ∀ i, r.testBit (i + 1) = (r / 2).testBit i := fun i => Nat.testBit_succ r i
 constructor
 · constructor
   · intro h i hi; rw [← er]; exact h (i + 1) (by rw [e0]; exact hi)
   · intro h i hi
     cases i with
     | zero => rw [z0] at hi; cases hi
     | succ i => rw [er]; exact h i (by rw [← e0]; exact hi)
 · constructor
   · intro h
     refine ⟨?_, fun i hi => by rw [← er]; exact h (i + 1) (by rw [e1]; exact hi)⟩
     have := h 0 z1
     rw [Nat.testBit_zero, decide_eq_true_iff] at this
     exact this
   · rintro ⟨h0, h⟩ i hi
     cases i with
     | zero => rw [Nat.testBit_zero, decide_eq_true_iff]; exact h0
     | succ i => rw [er]; exact h i (by rw [← e1]; exact hi)
theorem count_subs : ∀ n r : Nat, ((List.range (2 ^ n)).filter fun a => decide (a &&& r = a)).length = 2 ^ pcn n r
 | 0, r => by simp [pcn]
 | n + 1, r => by
   have ih := count_subs n (r / 2)
   rw [show 2 ^ (n + 1) = 2 * 2 ^ n by rw [Nat.pow_succ, Nat.mul_comm], filter_range2, pcn_succ]
   have e0 : (fun i => decide ((2 * i) &&& r = 2 * i)) = fun i => decide (i &&& (r / 2) = i) := by
    funext i; rw [decide_eq_decide]; exact (and_double i r).1
   rw [e0, ih]
   rcases Nat.mod_two_eq_zero_or_one r with h | h
   · have e1 : (fun i => decide ((2 * i + 1) &&& r = 2 * i + 1)) = fun _ => false := by
      funext i; rw [decide_eq_false_iff_not, (and_double i r).2, h]; simp
     rw [e1, h]; simp
   · have e1 : (fun i => decide ((2 * i + 1) &&& r = 2 * i + 1)) = fun i => decide (i &&& (r / 2) = i) := by
      funext i; rw [decide_eq_decide, (and_double i r).2, h]; simp
     rw [e1, ih, h, Nat.pow_add]; omega
theorem subs_few {n r : Nat} (h : r < 2 ^ n) : (subs r).length ≤ 2 ^ pcn n r := by
 rw [← count_subs, subs]
 obtain ⟨d, hd⟩ := Nat.le.dest (Nat.le_of_lt h)
 rw [← hd, List.range_add, List.filter_append, List.length_append]
 refine Nat.le_trans ?_ (Nat.le_add_right _ _)
 rw [← List.countP_eq_length_filter, ← List.countP_eq_length_filter]
 refine List.countP_mono_left fun a _ ha => ?_
 rw [Bool.and_eq_true] at ha
 exact ha.2
theorem countP_three {p q s : Nat → Bool} {e : Nat → Bool} : ∀ l : List Nat, (∀ i ∈ l, (p i).toNat + (q i).toNat + (e i).toNat ≤ (s i).toNat) → l.countP p + l.countP q + l.countP e ≤ l.countP s
 | [], _ => Nat.le_refl _
 | i :: l, h => by
   have ih := countP_three l (fun j hj => h j (List.mem_cons_of_mem _ hj))
   have h0 := h i (List.mem_cons_self ..)
   simp only [List.countP_cons]
   revert h0
   cases p i <;> cases q i <;> cases e i <;> cases s i <;> simp <;> omega
theorem opt_pcn {xs : List PSymbol} {s : Nat} {o : Opt} (hs : s < 2 ^ xs.length) (h : IsOpt xs s o) (h1 : ∀ i, s ≠ 2 ^ i) : pcn xs.length o.a + pcn xs.length o.b + (if o.kind = 2 ∨ o.kind = 5 then 1 else 0) ≤ pcn xs.length s := by
 obtain ⟨a0, b0, b5, hb, hd, hsg⟩ := opt_bits xs h h1
 have h3 := countP_three (p := fun i => o.a.testBit i) (q := fun i => o.b.testBit i) (s := fun i => s.testBit i) (e := fun i => decide ((o.kind = 2 ∨ o.kind = 5) ∧ i = o.sign)) (List.range xs.length) (fun i _ => by
  have hbi := hb i
  have hdi := hd i
  by_cases hk : (o.kind = 2 ∨ o.kind = 5) ∧ i = o.sign
  · obtain ⟨k1, rfl⟩ := hk
    obtain ⟨s1, s2⟩ := hsg k1
    rw [hbi.2 (.inr (.inr ⟨k1, rfl⟩)), s1, s2]; exact Nat.le_trans (Nat.add_le_add_left (Bool.toNat_le _) _) (by simp)
  · rw [decide_eq_false hk]
    cases ha : o.a.testBit i with
    | true => rw [hdi ha, hbi.2 (.inl ha)]; simp
    | false =>
      cases hb' : o.b.testBit i with
      | true => rw [hbi.2 (.inr (.inl hb'))]; simp
      | false => simp)
 refine Nat.le_trans (Nat.add_le_add_left ?_ _) h3
 split
 · rename_i hk
   have hq : o.sign < xs.length := bit_lt hs ((hb o.sign).2 (.inr (.inr ⟨hk, rfl⟩)))
   exact List.countP_pos_iff.2 ⟨o.sign, List.mem_range.2 hq, by simpa using hk⟩
 · exact Nat.zero_le _
theorem rest_pcn {n s q : Nat} (hs : s < 2 ^ n) (h : s.testBit q = true) : pcn n (s ^^^ 2 ^ q) + 1 ≤ pcn n s := by
 have h3 := countP_three (p := fun i => (s ^^^ 2 ^ q).testBit i) (q := fun _ => false) (s := fun i => s.testBit i) (e := fun i => decide (i = q)) (List.range n) (fun i _ => by
  rw [Nat.testBit_xor, Nat.testBit_two_pow]
  by_cases e : i = q
  · subst e; simp [h]
  · rw [decide_eq_false e, decide_eq_false (fun h => e h.symm)]; simp)
 have : 1 ≤ (List.range n).countP fun i => decide (i = q) := List.countP_pos_iff.2 ⟨q, List.mem_range.2 (bit_lt hs h), by simp⟩
 unfold pcn
 omega
theorem pcn_pos {n s : Nat} (hs : s < 2 ^ n) (h : s ≠ 0) : 1 ≤ pcn n s := by
 obtain ⟨i, hi⟩ := ne_zero_bit h
 exact List.countP_pos_iff.2 ⟨i, List.mem_range.2 (bit_lt hs hi), hi⟩
theorem pcn_le (n s : Nat) : pcn n s ≤ n := by
 have := List.countP_le_length (p := fun i => s.testBit i) (l := List.range n)
 rwa [List.length_range] at this
def tabF : Nat → Nat
 | 0 => 1
 | 1 => 1
 | m + 2 => (3 * 2 ^ (m + 2) + ((m + 2) * 2 ^ (m + 1) + (m + 2))) * tabF (m + 1)
theorem tabF_mul : ∀ i ≤ 8, ∀ j ≤ 8, 1 ≤ i → 1 ≤ j → i + j ≤ 8 → tabF i * tabF j ≤ tabF (i + j - 1) := by decide
theorem tabF_mono : ∀ j ≤ 8, ∀ i ≤ j, tabF i ≤ tabF j := by decide
theorem tabF_eight : tabF 8 ≤ 10000000000000000 := by decide
theorem sum_le {α : Type} (f : α → Nat) (B : Nat) : ∀ l : List α, (∀ x ∈ l, f x ≤ B) → (l.map f).sum ≤ l.length * B
 | [], _ => by simp
 | x :: l, h => by
   have ih := sum_le f B l (fun y hy => h y (List.mem_cons_of_mem _ hy))
   have := h x (List.mem_cons_self ..)
   rw [List.map_cons, List.sum_cons, List.length_cons, Nat.add_mul]; omega
theorem flat_le {α : Type} (p c : Nat → Bool) (g : Nat → List α) (X : Nat) : ∀ l : List Nat, (∀ i ∈ l, p i = true → c i = true ∧ (g i).length ≤ X) → (l.flatMap fun i => if p i = true then g i else []).length ≤ l.countP c * X
 | [], _ => by simp
 | i :: l, h => by
   have ih := flat_le p c g X l (fun j hj => h j (List.mem_cons_of_mem _ hj))
   have h0 := h i (List.mem_cons_self ..)
   rw [List.flatMap_cons, List.length_append, List.countP_cons, Nat.add_mul]
   by_cases hp : p i = true
   · rw [if_pos hp, if_pos (h0 hp).1]; have := (h0 hp).2; omega
   · rw [if_neg hp]; simp only [List.length_nil]; omega
theorem opts_few {xs : List PSymbol} {s m : Nat} (hs : s < 2 ^ xs.length) (hm : pcn xs.length s = m + 2) : (optsF xs s).length ≤ 3 * 2 ^ (m + 2) + ((m + 2) * 2 ^ (m + 1) + (m + 2)) := by
 have h1 : ∀ k i, (splitO k i s).length ≤ 2 ^ (m + 2) := fun k i => by rw [splitO, List.length_map, ← hm]; exact subs_few hs
 have hx : ∀ q, s.testBit q = true → s ^^^ 2 ^ q < 2 ^ xs.length := fun q hq => Nat.xor_lt_two_pow hs (Nat.pow_lt_pow_right (by decide) (bit_lt hs hq))
 have h2 : (overO xs s).length ≤ (m + 2) * 2 ^ (m + 1) := by
  rw [← hm, overO]
  refine flat_le (fun i => hasS xs s i minus1) (fun i => s.testBit i) (fun i => splitO 2 i (s ^^^ 2 ^ i)) (2 ^ (m + 1)) _ (fun i _ hi => ?_)
  simp only [hasS, Bool.and_eq_true] at hi
  refine ⟨hi.1, ?_⟩
  rw [splitO, List.length_map]
  refine Nat.le_trans (subs_few (hx i hi.1)) (Nat.pow_le_pow_right (by decide) ?_)
  have := rest_pcn hs hi.1
  omega
 have h3 : (rootO xs s).length ≤ m + 2 := by
  rw [← hm, rootO]
  have := flat_le (fun i => hasS xs s i root1) (fun i => s.testBit i) (fun i => [(⟨5, i, s ^^^ 2 ^ i, 0⟩ : Opt)]) 1 (List.range xs.length) (fun i _ hi => by
   simp only [hasS, Bool.and_eq_true] at hi
   exact ⟨hi.1, by simp⟩)
  rw [Nat.mul_one] at this
  exact this
 rw [optsF]
 simp only [List.length_append]
 have a1 := h1 1 0; have a3 := h1 3 0; have a4 := h1 4 0
 omega
theorem not_one_pcn {n s : Nat} (hs : s < 2 ^ n) (h0 : s ≠ 0) (h : s ≠ 2 ^ s.log2) : 2 ≤ pcn n s := by
 obtain ⟨i, hi⟩ := ne_zero_bit h0
 have h1 := rest_pcn hs hi
 have h2 : s ^^^ 2 ^ i ≠ 0 := by
  intro hz
  apply not_single h i
  apply Nat.eq_of_testBit_eq
  intro j
  have : (s ^^^ 2 ^ i).testBit j = false := by rw [hz]; simp
  rw [Nat.testBit_xor] at this
  revert this
  cases s.testBit j <;> cases (2 ^ i).testBit j <;> simp
 have := pcn_pos (Nat.xor_lt_two_pow hs (Nat.pow_lt_pow_right (by decide) (bit_lt hs hi))) h2
 omega
theorem ways_le {xs : List PSymbol} (h8 : xs.length ≤ 8) : ∀ s, s ≠ 0 → s < 2 ^ xs.length → (cellAt xs s).ways ≤ tabF (pcn xs.length s) := by
 intro s
 induction s using Nat.strongRecOn with
 | _ s ih =>
 intro s0 hs
 have hp8 := pcn_le xs.length s
 by_cases h1 : s = 2 ^ s.log2
 · rw [cellAt_single xs hs h1]
   exact tabF_mono _ (by omega) 0 (Nat.zero_le _)
 · have hns := not_single h1
   have hC := cellAt_of xs hs h1
   have hp := not_one_pcn hs s0 h1
   obtain ⟨m, hm⟩ : ∃ m, pcn xs.length s = m + 2 := ⟨pcn xs.length s - 2, by omega⟩
   rw [hC.ways, hm, tabF]
   refine Nat.le_trans (sum_le _ (tabF (m + 1)) _ fun o ho => ?_) (Nat.mul_le_mul_right _ (opts_few hs hm))
   have hop := (mem_optsF xs hs).1 ho
   obtain ⟨la, lb⟩ := opt_lt xs hop hns
   obtain ⟨a0, b0, b5, -, -, -⟩ := opt_bits xs hop hns
   have hpc := opt_pcn hs hop hns
   have iha := ih o.a la a0 (by omega)
   rw [wayL]
   split
   · rw [waysO]
     split
     · rename_i hb
       have h5 : o.kind = 5 := by
        rcases Classical.em (o.kind = 5) with h | h
        · exact h
        · exact absurd hb (b0 h)
       rw [if_pos (.inr h5)] at hpc
       rw [Nat.mul_one]
       exact Nat.le_trans iha (tabF_mono _ (by omega) _ (by omega))
     · rename_i hb
       have ihb := ih o.b lb hb (by omega)
       have pa := pcn_pos (n := xs.length) (by omega) a0
       have pb := pcn_pos (n := xs.length) (by omega) hb
       refine Nat.le_trans (Nat.mul_le_mul iha ihb) (Nat.le_trans (tabF_mul _ (by omega) _ (by omega) pa pb (by omega)) (tabF_mono _ (by omega) _ (by omega)))
   · exact Nat.zero_le _
theorem ways_small {xs : List PSymbol} (h8 : xs.length ≤ 8) {s : Nat} (h0 : s ≠ 0) (hs : s < 2 ^ xs.length) : (cellAt xs s).ways ≤ 10000000000000000 :=
 Nat.le_trans (ways_le h8 s h0 hs) (Nat.le_trans (tabF_mono 8 (Nat.le_refl _) _ (Nat.le_trans (pcn_le _ _) h8)) tabF_eight)
def rv (n s : Nat) : Nat := maskOf ((elems n s).map fun i => n - 1 - i)
theorem rv_bit {n s j : Nat} : (rv n s).testBit j = true ↔ j < n ∧ s.testBit (n - 1 - j) = true := by
 rw [rv, maskOf_bit, decide_eq_true_iff, List.mem_map]
 constructor
 · rintro ⟨i, hi, rfl⟩
   rw [elems, List.mem_filter, List.mem_range] at hi
   refine ⟨by omega, ?_⟩
   rw [show n - 1 - (n - 1 - i) = i by omega]; exact hi.2
 · rintro ⟨h1, h2⟩
   exact ⟨n - 1 - j, by rw [elems, List.mem_filter, List.mem_range]; exact ⟨by omega, h2⟩, by omega⟩
theorem rv_lt (n s : Nat) : rv n s < 2 ^ n := by
 apply Nat.lt_pow_two_of_testBit
 intro i hi
 rw [Bool.eq_false_iff, Ne, rv_bit]
 omega
theorem bits_eq {a b : Nat} (h : ∀ i, a.testBit i = true ↔ b.testBit i = true) : a = b :=
 Nat.eq_of_testBit_eq fun i => by rw [Bool.eq_iff_iff]; exact h i
theorem rv_rv {n s : Nat} (hs : s < 2 ^ n) : rv n (rv n s) = s := by
 apply bits_eq
 intro i
 rw [rv_bit, rv_bit]
 constructor
 · rintro ⟨h1, h2, h3⟩
   rwa [show n - 1 - (n - 1 - i) = i by omega] at h3
 · intro h
   have := bit_lt hs h
   refine ⟨this, by omega, ?_⟩
   rwa [show n - 1 - (n - 1 - i) = i by omega]
theorem rv_zero (n : Nat) : rv n 0 = 0 := by
 apply bits_eq; intro i; rw [rv_bit]; simp
theorem rv_ne {n s : Nat} (hs : s < 2 ^ n) (h : s ≠ 0) : rv n s ≠ 0 := by
 intro h0
 have := rv_rv hs
 rw [h0, rv_zero] at this
 exact h this.symm
theorem rv_xor (n s t : Nat) : rv n (s ^^^ t) = rv n s ^^^ rv n t := by
 apply bits_eq
 intro i
 have h1 := rv_bit (n := n) (s := s) (j := i)
 have h2 := rv_bit (n := n) (s := t) (j := i)
 rw [rv_bit, Nat.testBit_xor, Nat.testBit_xor]
 by_cases hi : i < n
 · simp only [hi, true_and] at h1 h2 ⊢
   rw [← Bool.eq_iff_iff] at h1 h2
   rw [h1, h2]
 · have e1 : (rv n s).testBit i = false := by rw [Bool.eq_false_iff]; intro h; exact hi (h1.1 h).1
   have e2 : (rv n t).testBit i = false := by rw [Bool.eq_false_iff]; intro h; exact hi (h2.1 h).1
   rw [e1, e2]; simp [hi]
theorem rv_pow {n q : Nat} (h : q < n) : rv n (2 ^ q) = 2 ^ (n - 1 - q) := by
 apply bits_eq
 intro i
 rw [rv_bit, Nat.testBit_two_pow, Nat.testBit_two_pow, decide_eq_true_iff, decide_eq_true_iff]
 omega
theorem rv_full (n : Nat) : rv n (2 ^ n - 1) = 2 ^ n - 1 := by
 apply bits_eq
 intro i
 rw [rv_bit, full_bit, full_bit]; omega
theorem rv_subs {n a r : Nat} (hr : r < 2 ^ n) (h : a ∈ subs r) : rv n a ∈ subs (rv n r) := by
 rw [mem_subs] at h ⊢
 obtain ⟨h0, hne, hs⟩ := h
 have ha : a < 2 ^ n := Nat.lt_trans (bits_lt hs hne) hr
 refine ⟨rv_ne ha h0, ?_, ?_⟩
 · intro he
   apply hne
   rw [← rv_rv ha, he, rv_rv hr]
 · intro i hi
   rw [rv_bit] at hi ⊢
   exact ⟨hi.1, hs _ hi.2⟩
def rvO (n : Nat) (o : Opt) : Opt := ⟨o.kind, if o.kind = 2 ∨ o.kind = 5 then n - 1 - o.sign else 0, rv n o.a, rv n o.b⟩
section
variable {xs : List PSymbol}
theorem symAt_rev {i : Nat} (h : i < xs.length) : symAt xs.reverse ((xs.length - 1 - i : Nat) : Int) = symAt xs (i : Int) := by
 rw [symAt, symAt, Int.toNat_natCast, Int.toNat_natCast, List.getD_eq_getElem?_getD, List.getD_eq_getElem?_getD, List.getElem?_reverse (by omega)]
 congr 2
 omega
theorem sbox_rev {i : Nat} (h : i < xs.length) : sbox xs.reverse (xs.length - 1 - i) = sbox xs i := by rw [sbox, sbox, symAt_rev h]
theorem hasS_rev {s i : Nat} {l : ByteArray} (hs : s < 2 ^ xs.length) (h : hasS xs s i l = true) : hasS xs.reverse (rv xs.length s) (xs.length - 1 - i) l = true := by
 rw [hasS, Bool.and_eq_true, decide_eq_true_iff] at h ⊢
 have hi := bit_lt hs h.1
 refine ⟨?_, by rw [symAt_rev hi]; exact h.2⟩
 rw [rv_bit]
 refine ⟨by omega, ?_⟩
 rw [show xs.length - 1 - (xs.length - 1 - i) = i by omega]; exact h.1
theorem isOpt_rev {s : Nat} {o : Opt} (hs : s < 2 ^ xs.length) (h : IsOpt xs s o) : IsOpt xs.reverse (rv xs.length s) (rvO xs.length o) := by
 rcases h with ⟨hk, h2, h3, h4⟩ | ⟨hk, h2, h3, h4⟩ | ⟨hk, h2, h3, h4⟩
 · refine .inl ⟨hk, ?_, rv_subs hs h3, ?_⟩
   · show (if o.kind = 2 ∨ o.kind = 5 then _ else 0) = 0
     rw [if_neg (by omega)]
   · show rv xs.length o.b = _
     rw [h4, rv_xor]; rfl
 · have hq : o.sign < xs.length := by rw [hasS, Bool.and_eq_true] at h2; exact bit_lt hs h2.1
   have e : (rvO xs.length o).sign = xs.length - 1 - o.sign := by rw [rvO]; simp only [hk, true_or, if_true]
   have ex : rv xs.length (s ^^^ 2 ^ o.sign) = rv xs.length s ^^^ 2 ^ (xs.length - 1 - o.sign) := by rw [rv_xor, rv_pow hq]
   refine .inr (.inl ⟨hk, by rw [e]; exact hasS_rev hs h2, ?_, ?_⟩)
   · rw [e, ← ex]; exact rv_subs (Nat.xor_lt_two_pow hs (Nat.pow_lt_pow_right (by decide) hq)) h3
   · rw [e, ← ex]
     show rv xs.length o.b = _ ^^^ rv xs.length o.a
     rw [h4, rv_xor]
 · have hq : o.sign < xs.length := by rw [hasS, Bool.and_eq_true] at h2; exact bit_lt hs h2.1
   have e : (rvO xs.length o).sign = xs.length - 1 - o.sign := by rw [rvO]; simp only [hk, or_true, if_true]
   refine .inr (.inr ⟨hk, by rw [e]; exact hasS_rev hs h2, ?_, ?_⟩)
   · rw [e, ← rv_pow hq, ← rv_xor, ← h3]; rfl
   · show rv xs.length o.b = 0
     rw [h4, rv_zero]
theorem rvO_rvO {s : Nat} {o : Opt} (hs : s < 2 ^ xs.length) (h : IsOpt xs s o) (h1 : ∀ i, s ≠ 2 ^ i) : rvO xs.length (rvO xs.length o) = o := by
 obtain ⟨la, lb⟩ := opt_lt xs h h1
 have ha := rv_rv (n := xs.length) (s := o.a) (by omega)
 have hb := rv_rv (n := xs.length) (s := o.b) (by omega)
 have hsg : (if o.kind = 2 ∨ o.kind = 5 then xs.length - 1 - (if o.kind = 2 ∨ o.kind = 5 then xs.length - 1 - o.sign else 0) else 0) = o.sign := by
  rcases h with ⟨hk, h2, _⟩ | ⟨hk, h2, _⟩ | ⟨hk, h2, _⟩
  · rw [if_neg (by omega), h2]
  · rw [hasS, Bool.and_eq_true] at h2
    have hq := bit_lt hs h2.1
    rw [if_pos (.inl hk), if_pos (.inl hk)]; omega
  · rw [hasS, Bool.and_eq_true] at h2
    have hq := bit_lt hs h2.1
    rw [if_pos (.inr hk), if_pos (.inr hk)]; omega
 obtain ⟨k, q, a, b⟩ := o
 simp only [rvO] at *
 rw [ha, hb, hsg]
theorem boxS_rev {s : Nat} (hs : s < 2 ^ xs.length) : boxS xs.reverse (rv xs.length s) = boxS xs s := by
 rw [boxS, boxS, List.length_reverse]
 have hp : (elems xs.length (rv xs.length s)).Perm ((elems xs.length s).map fun i => xs.length - 1 - i) := by
  refine (List.perm_ext_iff_of_nodup (elems_nodup _ _) ?_).2 fun j => ?_
  · rw [List.Nodup, List.pairwise_map]
    refine List.Pairwise.imp_of_mem ?_ (elems_nodup xs.length s)
    intro a b ha hb hne he
    rw [mem_elems hs] at ha hb
    have := bit_lt hs ha; have := bit_lt hs hb
    omega
  · rw [mem_elems (rv_lt _ _), rv, maskOf_bit, decide_eq_true_iff]
 rw [joinN_perm (hp.map _), List.map_map]
 congr 1
 apply List.map_congr_left
 intro i hi
 rw [mem_elems hs] at hi
 exact sbox_rev (bit_lt hs hi)
theorem lexO_ne {x y : Opt} (h : lexO x y) : x ≠ y := by
 rintro rfl
 rcases h with h | ⟨_, h | ⟨_, h⟩⟩ <;> omega
theorem optsF_nodup (xs : List PSymbol) (s : Nat) : (optsF xs s).Nodup := (optsF_lex xs s).imp lexO_ne
theorem rv_not_one {n s : Nat} (hs : s < 2 ^ n) (h : s ≠ 2 ^ s.log2) : ∀ i, rv n s ≠ 2 ^ i := by
 intro i he
 have hi : i < n := by
  have := rv_lt n s
  rw [he] at this
  exact (Nat.pow_lt_pow_iff_right (by decide)).1 this
 have := rv_rv hs
 rw [he, rv_pow hi] at this
 exact not_single h _ this.symm
theorem optsF_rev {s : Nat} (hs : s < 2 ^ xs.length) (h : s ≠ 2 ^ s.log2) : (optsF xs.reverse (rv xs.length s)).Perm ((optsF xs s).map (rvO xs.length)) := by
 have hns := not_single h
 have hn2 := rv_not_one hs h
 have hl : xs.reverse.length = xs.length := List.length_reverse
 have hs2 : rv xs.length s < 2 ^ xs.reverse.length := by rw [hl]; exact rv_lt _ _
 refine (List.perm_ext_iff_of_nodup (optsF_nodup _ _) ?_).2 fun o => ?_
 · rw [List.Nodup, List.pairwise_map]
   refine List.Pairwise.imp_of_mem ?_ (optsF_nodup xs s)
   intro a b ha hb hne he
   apply hne
   rw [← rvO_rvO hs ((mem_optsF xs hs).1 ha) hns, he, rvO_rvO hs ((mem_optsF xs hs).1 hb) hns]
 · rw [mem_optsF _ hs2, List.mem_map]
   constructor
   · intro ho
     have h1 := isOpt_rev hs2 ho
     rw [hl, List.reverse_reverse, rv_rv hs] at h1
     refine ⟨_, (mem_optsF xs hs).2 h1, ?_⟩
     have := rvO_rvO hs2 ho hn2
     rwa [hl] at this
   · rintro ⟨p, hp, rfl⟩
     exact isOpt_rev hs ((mem_optsF xs hs).1 hp)
def CellSame (x y : Cell) : Prop := x.ways = y.ways ∧ (x.ways ≠ 0 → x.cost = y.cost)
theorem cell_rev : ∀ s, s < 2 ^ xs.length → s ≠ 0 → CellSame (cellAt xs s) (cellAt xs.reverse (rv xs.length s)) := by
 intro s
 induction s using Nat.strongRecOn with
 | _ s ih =>
 intro hs s0
 have hl : xs.reverse.length = xs.length := List.length_reverse
 have hs2 : rv xs.length s < 2 ^ xs.reverse.length := by rw [hl]; exact rv_lt _ _
 by_cases h1 : s = 2 ^ s.log2
 · have hq : s.log2 < xs.length := by
    have : 2 ^ s.log2 < 2 ^ xs.length := by rw [← h1]; exact hs
    exact (Nat.pow_lt_pow_iff_right (by decide)).1 this
   have e : rv xs.length s = 2 ^ (xs.length - 1 - s.log2) := by
    have := rv_pow hq
    rwa [← h1] at this
   rw [cellAt_single xs hs h1, cellAt_single xs.reverse hs2 (single_log e)]
   exact ⟨rfl, fun _ => rfl⟩
 · have hns := not_single h1
   have hn2 := rv_not_one hs h1
   have C1 := cellAt_of xs hs h1
   have C2 := cellAt_of xs.reverse hs2 (hn2 _)
   have hp := optsF_rev hs h1
   -- each way says the same
   have key : ∀ o ∈ optsF xs s, waysO (cellAt xs.reverse) (rvO xs.length o) = waysO (cellAt xs) o ∧ liveO xs.reverse (cellAt xs.reverse) (rvO xs.length o) = liveO xs (cellAt xs) o ∧
    (liveO xs (cellAt xs) o = true → costO xs.reverse (cellAt xs.reverse) (rvO xs.length o) = costO xs (cellAt xs) o) := by
    intro o ho
    have hop := (mem_optsF xs hs).1 ho
    obtain ⟨la, lb⟩ := opt_lt xs hop hns
    obtain ⟨a0, b0, b5, hbt, -, hsg⟩ := opt_bits xs hop hns
    obtain ⟨wa, ca⟩ := ih o.a la (by omega) a0
    have hB : o.b = 0 ↔ rv xs.length o.b = 0 := by
     constructor
     · intro h; rw [h, rv_zero]
     · intro h
       rcases Nat.eq_zero_or_pos o.b with h' | h'
       · exact h'
       · exact absurd h (rv_ne (by omega) (by omega))
    have ew : waysO (cellAt xs.reverse) (rvO xs.length o) = waysO (cellAt xs) o := by
     rw [waysO, waysO]
     show (cellAt xs.reverse (rv xs.length o.a)).ways * (if rv xs.length o.b = 0 then 1 else (cellAt xs.reverse (rv xs.length o.b)).ways) = _
     rw [← wa]
     by_cases hb0 : o.b = 0
     · rw [if_pos hb0, if_pos (hB.1 hb0)]
     · rw [if_neg hb0, if_neg (fun h => hb0 (hB.2 h)), ← (ih o.b lb (by omega) hb0).1]
    have eb1 : boxS xs.reverse (rv xs.length o.a) = boxS xs o.a := boxS_rev (by omega)
    have eb2 : boxBo xs.reverse (rvO xs.length o) = boxBo xs o := by
     rw [boxBo, boxBo]
     show (if rv xs.length o.b = 0 then boxS xs.reverse (rv xs.length o.a) else boxS xs.reverse (rv xs.length o.b)) = _
     by_cases hb0 : o.b = 0
     · rw [if_pos hb0, if_pos (hB.1 hb0), eb1]
     · rw [if_neg hb0, if_neg (fun h => hb0 (hB.2 h)), boxS_rev (by omega)]
    have eb3 : signS xs.reverse (rvO xs.length o) = signS xs o := by
     rw [signS, signS]
     show (if o.kind = 2 ∨ o.kind = 5 then sbox xs.reverse (if o.kind = 2 ∨ o.kind = 5 then xs.length - 1 - o.sign else 0) else boxS xs.reverse (rv xs.length o.a)) = _
     by_cases hk : o.kind = 2 ∨ o.kind = 5
     · rw [if_pos hk, if_pos hk, if_pos hk, sbox_rev (bit_lt hs ((hbt _).2 (.inr (.inr ⟨hk, rfl⟩))))]
     · rw [if_neg hk, if_neg hk, eb1]
    have ef : fitO xs.reverse (rvO xs.length o) = fitO xs o := by
     rw [fitO, fitO, eb2, eb3]
     show fitsF o.kind (boxS xs.reverse (rv xs.length o.a)) _ _ = _
     rw [eb1]
    have eo : ownO xs.reverse (rvO xs.length o) = ownO xs o := by
     rw [ownO, ownO, eb2, eb3]
     show ownF o.kind (boxS xs.reverse (rv xs.length o.a)) _ _ = _
     rw [eb1]
    refine ⟨ew, by rw [liveO, liveO, ew, ef], fun hlv => ?_⟩
    have hw := live_pos xs (cellAt xs) hlv
    rw [waysO] at hw
    have w1 : (cellAt xs o.a).ways ≠ 0 := fun h => hw (by rw [h, Nat.zero_mul])
    rw [costO, costO, eo]
    show (cellAt xs.reverse (rv xs.length o.a)).cost + (if rv xs.length o.b = 0 then 0 else (cellAt xs.reverse (rv xs.length o.b)).cost) + _ = _
    rw [← ca w1]
    by_cases hb0 : o.b = 0
    · rw [if_pos hb0, if_pos (hB.1 hb0)]
    · have w2 : (cellAt xs o.b).ways ≠ 0 := fun h => hw (by rw [if_neg hb0, h, Nat.mul_zero])
      rw [if_neg hb0, if_neg (fun h => hb0 (hB.2 h)), ← (ih o.b lb (by omega) hb0).2 w2]
   have hways : (cellAt xs s).ways = (cellAt xs.reverse (rv xs.length s)).ways := by
    rw [C1.ways, C2.ways, ((hp.map (wayL xs.reverse (cellAt xs.reverse))).sum_nat), List.map_map]
    congr 1
    apply List.map_congr_left
    intro o ho
    obtain ⟨k1, k2, _⟩ := key o ho
    simp only [Function.comp, wayL, k1, k2]
   refine ⟨hways, fun hw => ?_⟩
   rcases C1.best with ⟨hz, _⟩ | ⟨-, o, ho, hlo, hm, hb⟩
   · rw [hz] at hw; exact absurd rfl hw
   · rcases C2.best with ⟨hz, _⟩ | ⟨-, p, hpm, hlp, hm2, hb2⟩
     · rw [hways, hz] at hw; exact absurd rfl hw
     · have e1 : (cellAt xs s).cost = costO xs (cellAt xs) o := by rw [hm]
       have e2 : (cellAt xs.reverse (rv xs.length s)).cost = costO xs.reverse (cellAt xs.reverse) p := by rw [hm2]
       obtain ⟨q, hq, rfl⟩ := List.mem_map.1 (hp.mem_iff.1 hpm)
       obtain ⟨q1, q2, q3⟩ := key q hq
       obtain ⟨o1, o2, o3⟩ := key o ho
       have hlq : liveO xs (cellAt xs) q = true := by rw [← q2]; exact hlp
       have c1 := hb q hq hlq
       have c2 := hb2 (rvO xs.length o) (hp.mem_iff.2 (List.mem_map.2 ⟨o, ho, rfl⟩)) (by rw [o2]; exact hlo)
       have c3 := q3 hlq
       have c4 := o3 hlo
       rw [e1, e2]
       omega
theorem turned_same (xs : List PSymbol) : manyT xs.reverse = manyT xs ∧ (manyT xs ≠ 0 → leastT xs.reverse = leastT xs) := by
 rw [manyT, manyT, leastT, leastT, List.length_reverse]
 by_cases h0 : xs.length = 0
 · rw [if_pos h0, if_pos h0]; exact ⟨rfl, fun h => absurd rfl h⟩
 · rw [if_neg h0, if_neg h0]
   obtain ⟨h1, h2⟩ := cell_rev (xs := xs) _ (full_pos h0).2 (full_pos h0).1
   rw [rv_full] at h1 h2
   exact ⟨h1.symm, fun h => (h2 h).symm⟩
end
end Go.Proofs.Ytmopioaojdlnkaa
