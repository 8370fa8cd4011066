/- Confusions, in plain Lean: counting into an ordered list is sorting and counting neighbours; the order of strings. No program is named here. Conditions: none. -/
import Derived.Test.YtkkignkoneeieaaStrSm
import Derived.Laws.Strings
namespace Go.Proofs.Ytkkignkoneeieaa
open Go Go.RowKit

section
variable {K : Type} [DecidableEq K] (lt : K → K → Bool)
/-- A confusion is counted. -/
def countIns (l : List (K × Int)) (k : K) : List (K × Int) := match l with
  | [] => [(k, 1)]
  | (a, n) :: r => if lt a k = true then (a, n) :: countIns r k else if a = k then (a, n + 1) :: r else (k, 1) :: (a, n) :: r
/-- A strict total order. -/
structure STO : Prop where
  irr : ∀ a, lt a a = false
  tr : ∀ a b c, lt a b = true → lt b c = true → lt a c = true
  tot : ∀ a b, lt a b = false → lt b a = false → a = b
variable {lt}
omit [DecidableEq K] in
theorem STO.asym (h : STO lt) {a b : K} (h1 : lt a b = true) : lt b a = false := by
  cases h2 : lt b a with
  | false => rfl
  | true => have := h.tr _ _ _ h1 h2; rw [h.irr] at this; cases this
omit [DecidableEq K] in
theorem STO.ne (h : STO lt) {a b : K} (h1 : lt a b = true) : a ≠ b := fun e => by rw [e, h.irr] at h1; cases h1
omit [DecidableEq K] in
theorem STO.cases (h : STO lt) (a b : K) : (lt a b = true ∧ lt b a = false ∧ a ≠ b ∧ b ≠ a) ∨ a = b ∨ (lt a b = false ∧ lt b a = true ∧ a ≠ b ∧ b ≠ a) := by
  cases h1 : lt a b with
  | true => exact .inl ⟨rfl, h.asym h1, h.ne h1, (h.ne h1).symm⟩
  | false =>
    cases h2 : lt b a with
    | true => exact .inr (.inr ⟨rfl, rfl, (h.ne h2).symm, h.ne h2⟩)
    | false => exact .inr (.inl (h.tot _ _ h1 h2))
theorem countIns_lt {a k : K} {n : Int} {r : List (K × Int)} (h : lt a k = true) : countIns lt ((a, n) :: r) k = (a, n) :: countIns lt r k := by simp [countIns, h]
theorem countIns_eq (h : STO lt) {k : K} {n : Int} {r : List (K × Int)} : countIns lt ((k, n) :: r) k = (k, n + 1) :: r := by simp [countIns, h.irr]
theorem countIns_gt (h : STO lt) {a k : K} {n : Int} {r : List (K × Int)} (h1 : lt k a = true) : countIns lt ((a, n) :: r) k = (k, 1) :: (a, n) :: r := by
  simp [countIns, h.asym h1, (h.ne h1).symm]
theorem countIns_comm (h : STO lt) (l : List (K × Int)) (a b : K) : countIns lt (countIns lt l a) b = countIns lt (countIns lt l b) a := by
  rcases h.cases a b with ⟨c1, c2, c3, c4⟩ | rfl | ⟨c1, c2, c3, c4⟩
  · induction l with
    | nil => 
      rw [show countIns lt [] a = [(a, 1)] from rfl, show countIns lt [] b = [(b, 1)] from rfl, countIns_lt c1, countIns_gt h c1]; rfl
    | cons x r ih =>
      obtain ⟨c, n⟩ := x
      rcases h.cases c a with ⟨a1, a2, a3, a4⟩ | rfl | ⟨a1, a2, a3, a4⟩
      · have b1 := h.tr _ _ _ a1 c1
        rw [countIns_lt a1, countIns_lt b1, countIns_lt b1, countIns_lt a1, ih]
      · rw [countIns_eq h, countIns_lt c1, countIns_lt c1, countIns_eq h]
      · rw [countIns_gt h a2, countIns_lt c1]
        rcases h.cases c b with ⟨b1, b2, b3, b4⟩ | rfl | ⟨b1, b2, b3, b4⟩
        · rw [countIns_lt b1, countIns_gt h a2]
        · rw [countIns_eq h, countIns_gt h a2]
        · rw [countIns_gt h b2, countIns_gt h c1]
  · rfl
  · induction l with
    | nil => 
      rw [show countIns lt [] a = [(a, 1)] from rfl, show countIns lt [] b = [(b, 1)] from rfl, countIns_lt c2, countIns_gt h c2]; rfl
    | cons x r ih =>
      obtain ⟨c, n⟩ := x
      rcases h.cases c b with ⟨a1, a2, a3, a4⟩ | rfl | ⟨a1, a2, a3, a4⟩
      · have b1 := h.tr _ _ _ a1 c2
        rw [countIns_lt a1, countIns_lt b1, countIns_lt b1, countIns_lt a1, ih]
      · rw [countIns_eq h, countIns_lt c2, countIns_lt c2, countIns_eq h]
      · rw [countIns_gt h a2, countIns_lt c2]
        rcases h.cases c a with ⟨b1, b2, b3, b4⟩ | rfl | ⟨b1, b2, b3, b4⟩
        · rw [countIns_lt b1, countIns_gt h a2]
        · rw [countIns_eq h, countIns_gt h a2]
        · rw [countIns_gt h b2, countIns_gt h c2]
theorem count_perm (h : STO lt) {l r : List K} (p : l.Perm r) : ∀ s, l.foldl (countIns lt) s = r.foldl (countIns lt) s := by
  induction p with
  | nil => intro s; rfl
  | cons x _ ih => intro s; exact ih _
  | swap x y l => intro s; simp only [List.foldl_cons]; rw [countIns_comm h]
  | trans _ _ ih1 ih2 => intro s; rw [ih1, ih2]
/-- Neighbours that are equal are counted together. -/
def groupN (l : List (K × Int)) (k : K) : List (K × Int) := match l.getLast? with
  | some (a, n) => if a = k then l.dropLast ++ [(a, n + 1)] else l ++ [(k, 1)]
  | none => [(k, 1)]
theorem countIns_above {l : List (K × Int)} {k : K} (hl : ∀ x ∈ l, lt x.1 k = true) (r : List (K × Int)) : countIns lt (l ++ r) k = l ++ countIns lt r k := by
  induction l with
  | nil => rfl
  | cons x l ih =>
    obtain ⟨a, n⟩ := x
    rw [List.cons_append, countIns_lt (hl (a, n) (by simp)), ih (fun y hy => hl y (by simp [hy]))]; rfl
/-- Rising. -/
def Rises (lt : K → K → Bool) (l : List (K × Int)) : Prop := l.Pairwise fun x y => lt x.1 y.1 = true
theorem group_count (h : STO lt) {l : List (K × Int)} {k : K} (hr : Rises lt l) (hk : ∀ x ∈ l, lt k x.1 = false) : groupN l k = countIns lt l k ∧ Rises lt (groupN l k) ∧ ∀ x ∈ groupN l k, lt k x.1 = false := by
  rcases List.eq_nil_or_concat l with rfl | ⟨m, ⟨a, n⟩, rfl⟩
  · refine ⟨rfl, List.pairwise_singleton _ _, ?_⟩
    intro x hx
    simp [groupN] at hx
    rw [hx]; exact h.irr _
  · rw [List.concat_eq_append] at *
    have hm : Rises lt m := (List.pairwise_append.1 hr).1
    have hma : ∀ x ∈ m, lt x.1 a = true := fun x hx => (List.pairwise_append.1 hr).2.2 x hx (a, n) (by simp)
    unfold groupN
    simp only [List.getLast?_append, List.getLast?_singleton, Option.some_or, List.dropLast_concat]
    by_cases e : a = k
    · subst e
      rw [if_pos rfl, countIns_above hma, countIns_eq h]
      refine ⟨rfl, ?_, ?_⟩
      · refine List.pairwise_append.2 ⟨hm, List.pairwise_singleton _ _, fun x hx y hy => ?_⟩
        simp at hy
        rw [hy]; exact hma x hx
      · intro x hx
        rcases List.mem_append.1 hx with hx | hx
        · exact h.asym (hma x hx)
        · simp at hx; rw [hx]; exact h.irr _
    · rw [if_neg e]
      have hak : lt a k = true := by
        have := hk (a, n) (by simp)
        rcases h.cases a k with h1 | h1 | h1
        · exact h1.1
        · exact absurd h1 e
        · rw [h1.2.1] at this; cases this
      have hall : ∀ x ∈ m ++ [(a, n)], lt x.1 k = true := by
        intro x hx
        rcases List.mem_append.1 hx with hx | hx
        · exact h.tr _ _ _ (hma x hx) hak
        · simp at hx; rw [hx]; exact hak
      have := countIns_above hall []
      rw [List.append_nil] at this
      rw [this]
      refine ⟨rfl, ?_, ?_⟩
      · refine List.pairwise_append.2 ⟨hr, List.pairwise_singleton _ _, fun x hx y hy => ?_⟩
        simp at hy
        rw [hy]; exact hall x hx
      · intro x hx
        rcases List.mem_append.1 hx with hx | hx
        · exact h.asym (hall x hx)
        · simp at hx; rw [hx]; exact h.irr _
theorem group_all (h : STO lt) : ∀ (ks : List K) (l : List (K × Int)), Rises lt l → (∀ x ∈ l, ∀ k ∈ ks, lt k x.1 = false) → ks.Pairwise (fun x y => lt y x = false) → ks.foldl groupN l = ks.foldl (countIns lt) l
  | [], _, _, _, _ => rfl
  | k :: ks, l, hr, hk, hs => by
    obtain ⟨h1, h2, h3⟩ := group_count h hr (fun x hx => hk x hx k (by simp))
    have hp := List.pairwise_cons.1 hs
    rw [List.foldl_cons, List.foldl_cons, ← h1]
    refine group_all h ks _ h2 ?_ hp.2
    intro x hx j hj
    have a1 := h3 x hx
    have a2 := hp.1 j hj
    rcases h.cases j x.1 with c | c | c
    · rcases h.cases k x.1 with d | d | d
      · rw [d.1] at a1; cases a1
      · rw [d, c.1] at a2; cases a2
      · have := h.tr _ _ _ c.1 d.2.1; rw [this] at a2; cases a2
    · rw [c]; exact h.irr _
    · exact c.1
/-- What sorting and counting neighbours finds is what counting into an ordered list finds. -/
theorem group_sorted (h : STO lt) {ks ss : List K} (hp : ss.Perm ks) (hs : ss.Pairwise (fun x y => lt y x = false)) : ss.foldl groupN [] = ks.foldl (countIns lt) [] := by
  rw [group_all h ss [] List.Pairwise.nil (by simp) hs]
  exact count_perm h hp _
omit [DecidableEq K] in
theorem sum_append' (l r : List (K × Int)) : ((l ++ r).map (·.2)).sum = (l.map (·.2)).sum + (r.map (·.2)).sum := by simp
theorem countIns_sum (l : List (K × Int)) (k : K) : ((countIns lt l k).map (·.2)).sum = (l.map (·.2)).sum + 1 := by
  induction l with
  | nil => rfl
  | cons x r ih =>
    obtain ⟨a, n⟩ := x
    unfold countIns
    split
    · simp only [List.map_cons, List.sum_cons, ih]; omega
    · split <;> simp only [List.map_cons, List.sum_cons] <;> omega
theorem count_sum : ∀ (ks : List K) (l : List (K × Int)), ((ks.foldl (countIns lt) l).map (·.2)).sum = (l.map (·.2)).sum + ks.length
  | [], l => by simp
  | k :: ks, l => by rw [List.foldl_cons, count_sum ks, countIns_sum, List.length_cons]; omega
theorem countIns_mem {l : List (K × Int)} {k : K} {x : K × Int} (h : x ∈ countIns lt l k) : x.1 = k ∨ ∃ y ∈ l, y.1 = x.1 := by
  induction l with
  | nil => simp [countIns] at h; rw [h]; exact .inl rfl
  | cons z r ih =>
    obtain ⟨a, n⟩ := z
    unfold countIns at h
    split at h
    · rcases List.mem_cons.1 h with rfl | h
      · exact .inr ⟨(a, n), by simp, rfl⟩
      · rcases ih h with h | ⟨y, hy, e⟩
        · exact .inl h
        · exact .inr ⟨y, by simp [hy], e⟩
    · split at h
      · rcases List.mem_cons.1 h with rfl | h
        · rename_i e; exact .inl e
        · exact .inr ⟨x, by simp [h], rfl⟩
      · rcases List.mem_cons.1 h with rfl | h
        · exact .inl rfl
        · exact .inr ⟨x, h, rfl⟩
theorem count_mem : ∀ (ks : List K) (l : List (K × Int)) (x : K × Int), x ∈ ks.foldl (countIns lt) l → x.1 ∈ ks ∨ ∃ y ∈ l, y.1 = x.1
  | [], _, x, h => .inr ⟨x, h, rfl⟩
  | k :: ks, l, x, h => by
    rcases count_mem ks _ x h with h | ⟨y, hy, e⟩
    · exact .inl (by simp [h])
    · rcases countIns_mem hy with h1 | ⟨z, hz, e2⟩
      · exact .inl (by rw [← e, h1]; simp)
      · exact .inr ⟨z, hz, e2.trans e⟩
end

/-! ### The order of strings -/
theorem bl_irr : ∀ l : List UInt8, Op.bytesLess l l = false
  | [] => rfl
  | a :: l => by simp [Op.bytesLess, bl_irr l]
theorem bl_tr : ∀ x y z : List UInt8, Op.bytesLess x y = true → Op.bytesLess y z = true → Op.bytesLess x z = true
  | _, [], _, h, _ => by cases ‹List UInt8› <;> simp [Op.bytesLess] at h
  | _, _ :: _, [], _, h => by simp [Op.bytesLess] at h
  | [], _ :: _, _ :: _, _, _ => rfl
  | a :: x, b :: y, c :: z, h1, h2 => by
    simp only [Op.bytesLess, Bool.or_eq_true, Bool.and_eq_true, decide_eq_true_eq, beq_iff_eq] at h1 h2 ⊢
    rcases h1 with h1 | ⟨rfl, h1⟩
    · rcases h2 with h2 | ⟨rfl, h2⟩
      · exact .inl (UInt8.lt_trans h1 h2)
      · exact .inl h1
    · rcases h2 with h2 | ⟨rfl, h2⟩
      · exact .inl h2
      · exact .inr ⟨rfl, bl_tr x y z h1 h2⟩
theorem bl_tot : ∀ x y : List UInt8, Op.bytesLess x y = false → Op.bytesLess y x = false → x = y
  | [], [], _, _ => rfl
  | [], _ :: _, h, _ => by simp [Op.bytesLess] at h
  | _ :: _, [], _, h => by simp [Op.bytesLess] at h
  | a :: x, b :: y, h1, h2 => by
    simp only [Op.bytesLess, Bool.or_eq_false_iff, decide_eq_false_iff_not] at h1 h2
    have e : a = b := by
      have l1 := UInt8.not_lt.1 h1.1
      have l2 := UInt8.not_lt.1 h2.1
      exact UInt8.le_antisymm l2 l1
    subst e
    rw [bl_tot x y (by simpa using h1.2) (by simpa using h2.2)]
def bLess (a b : ByteArray) : Bool := Op.bytesLess a.toList b.toList
theorem toList_inj {a b : ByteArray} (h : a.toList = b.toList) : a = b := by
  have := str_eq a b
  rw [h] at this
  simpa using this.symm
theorem bLess_sto : STO bLess := ⟨fun a => bl_irr _, fun a b c => bl_tr _ _ _, fun a b h1 h2 => toList_inj (bl_tot _ _ h1 h2)⟩
abbrev CKey := ByteArray × ByteArray
def cLess (x y : CKey) : Bool := bLess x.1 y.1 || (decide (x.1 = y.1) && bLess x.2 y.2)
theorem cLess_sto : STO cLess := by
  refine ⟨fun a => by simp [cLess, bLess_sto.irr], fun a b c h1 h2 => ?_, fun a b h1 h2 => ?_⟩
  · simp only [cLess, Bool.or_eq_true, Bool.and_eq_true, decide_eq_true_eq] at h1 h2 ⊢
    rcases h1 with h1 | ⟨e1, h1⟩
    · rcases h2 with h2 | ⟨e2, h2⟩
      · exact .inl (bLess_sto.tr _ _ _ h1 h2)
      · exact .inl (e2 ▸ h1)
    · rcases h2 with h2 | ⟨e2, h2⟩
      · exact .inl (e1 ▸ h2)
      · exact .inr ⟨e1.trans e2, bLess_sto.tr _ _ _ h1 h2⟩
  · simp only [cLess, Bool.or_eq_false_iff, Bool.and_eq_false_iff, decide_eq_false_iff_not] at h1 h2
    have e1 := bLess_sto.tot _ _ h1.1 h2.1
    have e2 := bLess_sto.tot _ _ (h1.2.resolve_left (fun h => h e1)) (h2.2.resolve_left (fun h => h e1.symm))
    exact Prod.ext e1 e2
def cmpF (x y : ByteArray) : Int := if bLess x y then -1 else if bLess y x then 1 else 0
theorem cmpF_neg (x y : ByteArray) : cmpF x y < 0 ↔ bLess x y = true := by
  unfold cmpF
  split
  · simp [*]
  · split <;> simp [*]
theorem cmpF_zero (x y : ByteArray) : cmpF x y = 0 ↔ x = y := by
  unfold cmpF
  rcases bLess_sto.cases x y with h | rfl | h
  · simp [h.1, h.2.2.1]
  · simp [bLess_sto.irr]
  · simp [h.1, h.2.1, h.2.2.1]
def cmpC (x y : CKey) : Int := if cmpF x.1 y.1 ≠ 0 then cmpF x.1 y.1 else cmpF x.2 y.2
theorem cmpC_neg (x y : CKey) : decide (cmpC x y < 0) = cLess x y := by
  unfold cmpC cLess
  rw [Bool.eq_iff_iff]
  by_cases h : cmpF x.1 y.1 = 0
  · rw [if_neg (by simpa using h), decide_eq_true_iff, cmpF_neg]
    have e := (cmpF_zero _ _).1 h
    simp [e, bLess_sto.irr]
  · rw [if_pos h, decide_eq_true_iff, cmpF_neg]
    have e : x.1 ≠ y.1 := fun e => h ((cmpF_zero _ _).2 e)
    simp [e]
theorem cmpC_zero (x y : CKey) : cmpC x y = 0 ↔ x = y := by
  unfold cmpC
  by_cases h : cmpF x.1 y.1 = 0
  · rw [if_neg (by simpa using h), cmpF_zero]
    have e := (cmpF_zero _ _).1 h
    exact ⟨fun e2 => Prod.ext e e2, fun e2 => by rw [e2]⟩
  · rw [if_pos h]
    exact ⟨fun e => absurd e h, fun e => absurd ((cmpF_zero _ _).2 (by rw [e])) h⟩
theorem cmpF_range (x y : ByteArray) : -1 ≤ cmpF x y ∧ cmpF x y ≤ 1 := by
  unfold cmpF; split <;> (try split) <;> omega
theorem cmpC_range (x y : CKey) : -1 ≤ cmpC x y ∧ cmpC x y ≤ 1 := by
  unfold cmpC; split <;> exact cmpF_range _ _
end Go.Proofs.Ytkkignkoneeieaa
