/- Confusions, in plain Lean: they are as many as the distances, and none is of a text with itself. No program is named here. Conditions: none. -/
import Derived.Test.YtelkggafmnckoaaConfT
import Derived.Test.YtelkggafmnckoaaEvRate
namespace Go.Proofs.Ytelkggafmnckoaa
open Go Go.RowKit

theorem isAl_allows {a b : ByteArray} : ∀ (l : List AStep) (i j : Nat), isAl a b l i j = true → ∀ s ∈ l, allowsB a b s.i.toNat s.j.toNat s.op = true
  | [], _, _, _, s, hs => by simp at hs
  | t :: l, i, j, h, s, hs => by
    simp only [isAl, Bool.and_eq_true, decide_eq_true_eq] at h
    obtain ⟨⟨h1, h2⟩, h3, h4⟩ := h
    rcases List.mem_cons.1 hs with rfl | hs
    · rw [h1, h2]; exact h3
    · exact isAl_allows l _ _ h4 s hs
theorem key_ne {a b : ByteArray} {i j : Nat} {op : Int} (h : allowsB a b i j op = true) (h0 : op ≠ 0) : a.extract i (i + passI op) ≠ b.extract j (j + passJ op) := by
  obtain ⟨p1, p2⟩ := allows_le h
  intro he
  have hs := congrArg ByteArray.size he
  rw [ByteArray.size_extract, ByteArray.size_extract] at hs
  have hs' : passI op = passJ op := by omega
  simp only [allowsB, Bool.and_eq_true] at h
  have h5 := h.2
  rw [if_neg h0] at h5
  by_cases h1 : op = 1
  · subst h1
    rw [if_pos rfl] at h5
    have q1 : passI 1 = 1 := rfl
    have q2 : passJ 1 = 1 := rfl
    rw [q1] at p1 he
    rw [q2] at p2 he
    have hd := congrArg (fun x : ByteArray => x.data[0]?) he
    simp only [ByteArray.data_extract, Array.getElem?_extract] at hd
    have e1 : i < a.data.size := by have : a.data.size = a.size := rfl; omega
    have e2 : j < b.data.size := by have : b.data.size = b.size := rfl; omega
    have hsame : sameAt a b i j = true := by
      unfold sameAt
      rw [dif_pos ⟨by omega, by omega⟩, decide_eq_true_iff]
      have hd2 : a.data[i]? = b.data[j]? := by
        simp only [Nat.add_zero] at hd
        rw [if_pos (by omega), if_pos (by omega)] at hd
        exact hd
      rw [Array.getElem?_eq_getElem e1, Array.getElem?_eq_getElem e2, Option.some.injEq] at hd2
      show (a.data[i]).toNat = (b.data[j]).toNat
      rw [hd2]
    rw [hsame] at h5
    cases h5
  · rw [if_neg h1] at h5
    have h6 := of_decide_eq_true h5
    rcases h6 with rfl | rfl
    · have q1 : passI 2 = 1 := rfl
      have q2 : passJ 2 = 0 := rfl
      omega
    · have q1 : passI 3 = 0 := rfl
      have q2 : passJ 3 = 1 := rfl
      omega
theorem caseKeys_ne (c : ACase) : ∀ k ∈ caseKeys c, k.1 ≠ k.2 := by
  intro k hk
  unfold caseKeys stepKeys at hk
  obtain ⟨s, hs, rfl⟩ := List.mem_map.1 hk
  obtain ⟨h1, h2⟩ := List.mem_filter.1 hs
  exact key_ne (isAl_allows _ 0 0 (align_ok c.want c.got).1 s h1) (by simpa using h2)
theorem keysAll_ne (xs : List ACase) : ∀ k ∈ keysAll xs, k.1 ≠ k.2 := by
  intro k hk
  unfold keysAll at hk
  obtain ⟨c, _, hc⟩ := List.mem_flatMap.1 hk
  exact caseKeys_ne c k hc
theorem confsR_ne (xs : List ACase) : ∀ c ∈ confsR xs, c.want ≠ c.got := by
  intro c hc
  unfold confsR at hc
  split at hc
  · unfold confsK at hc
    obtain ⟨x, hx, rfl⟩ := List.mem_map.1 hc
    rcases count_mem (lt := cLess) _ _ _ hx with h | ⟨y, hy, _⟩
    · exact keysAll_ne xs _ h
    · simp at hy
  · simp at hc
theorem stepKeys_cost (a b : ByteArray) : ∀ l : List AStep, ((stepKeys a b l).length : Int) = cost l
  | [] => rfl
  | s :: l => by
    have ih := stepKeys_cost a b l
    unfold stepKeys at ih ⊢
    rw [List.length_map] at ih ⊢
    unfold cost
    by_cases h : s.op = 0
    · rw [List.filter_cons, if_neg (by simpa using h), if_pos h]; omega
    · rw [List.filter_cons, if_pos (by simpa using h), if_neg h, List.length_cons]; omega
theorem keysAll_wrongs : ∀ xs : List ACase, (keysAll xs).length = wrongs xs
  | [] => rfl
  | c :: xs => by
    have ih := keysAll_wrongs xs
    have h1 := stepKeys_cost c.want c.got (align c.want c.got)
    rw [(align_ok c.want c.got).2] at h1
    unfold keysAll wrongs at ih ⊢
    rw [List.flatMap_cons, List.length_append, ih, List.map_cons, List.sum_cons]
    unfold caseKeys
    omega
def sumC (l : List PConf) : Int := (l.map (·.count)).sum
theorem sumC_take {l : List PConf} {k : Nat} (h : k < l.length) : sumC (l.take (k + 1)) = sumC (l.take k) + l[k].count := by
  unfold sumC
  rw [List.take_succ_eq_append_getElem h, List.map_append, List.sum_append]
  simp
theorem confsR_sum {xs : List ACase} (h : casesOk xs = true) : sumC (confsR xs) = wrongs xs := by
  unfold confsR
  rw [if_pos h]
  unfold confsK sumC
  rw [List.map_map, show (PConf.count ∘ confOf) = (fun x : CKey × Int => x.2) from rfl, count_sum]
  simp only [List.map_nil, List.sum_nil]
  have := keysAll_wrongs xs
  omega
theorem sumC_bounds : ∀ {l : List PConf} {m : Int}, (∀ c ∈ l, 0 ≤ c.count ∧ c.count ≤ m) → 0 ≤ m → 0 ≤ sumC l ∧ sumC l ≤ m * l.length
  | [], _, _, _ => by simp [sumC]
  | c :: l, m, h, hm => by
    have ih := sumC_bounds (l := l) (fun x hx => h x (by simp [hx])) hm
    have h1 := h c (by simp)
    unfold sumC at ih ⊢
    simp only [List.map_cons, List.sum_cons, List.length_cons]
    have e : m * ((l.length + 1 : Nat) : Int) = m * (l.length : Int) + m := by
      rw [show ((l.length + 1 : Nat) : Int) = (l.length : Int) + 1 by omega, Int.mul_add, Int.mul_one]
    omega
theorem confsR_count (xs : List ACase) : ∀ c ∈ confsR xs, 0 ≤ c.count ∧ c.count ≤ 4000 := by
  intro c hc
  unfold confsR at hc
  split at hc
  · rename_i h
    unfold confsK at hc
    obtain ⟨x, hx, rfl⟩ := List.mem_map.1 hc
    have h1 := count_bound (keysAll xs) [] 0 (Int.le_refl _) (by simp) x hx
    simp only [casesOk, Bool.and_eq_true, decide_eq_true_eq] at h
    have h2 := keysAll_len h.2
    show 0 ≤ x.2 ∧ x.2 ≤ 4000
    omega
  · simp at hc
theorem wrongs_rights : ∀ xs : List ACase, wrongs xs = 0 ↔ rights xs = xs.length
  | [] => by simp [wrongs, rights]
  | c :: xs => by
    have ih := wrongs_rights xs
    have h1 := rights_le xs
    have h2 := edist_zero c.want c.got
    unfold wrongs rights at ih h1 ⊢
    rw [List.map_cons, List.sum_cons, List.filter_cons, List.length_cons]
    by_cases e : c.want = c.got
    · rw [if_pos (by simpa using e), List.length_cons, h2.2 e]; omega
    · rw [if_neg (by simpa using e)]
      have : edist c.want c.got ≠ 0 := fun h => e (h2.1 h)
      omega
theorem rate_all {xs : List ACase} (h : casesOk xs = true) (hn : 0 < xs.length) : rightRate xs = 1000 ↔ (wrongs xs : Int) = 0 := by
  unfold rightRate
  rw [if_pos h, if_neg (by omega)]
  have h1 := rights_le xs
  have h2 := wrongs_rights xs
  rw [show ((wrongs xs : Int) = 0) ↔ wrongs xs = 0 by omega, h2]
  constructor
  · intro e
    have := Int.ediv_mul_le (1000 * (rights xs : Int)) (b := (xs.length : Int)) (by omega)
    rw [e] at this
    omega
  · intro e
    rw [e, Int.mul_ediv_cancel _ (by omega)]
theorem rightCode_zero {xs : List ACase} (h : casesOk xs = true) : rightCode xs = 0 ∨ rightCode xs = 6 := by
  unfold rightCode
  rw [if_pos h]
  split <;> simp
theorem rightCode_len {xs : List ACase} (h : casesOk xs = true) (h0 : rightCode xs = 0) : 0 < xs.length := by
  unfold rightCode at h0
  rw [if_pos h] at h0
  split at h0
  · cases h0
  · omega
end Go.Proofs.Ytelkggafmnckoaa
