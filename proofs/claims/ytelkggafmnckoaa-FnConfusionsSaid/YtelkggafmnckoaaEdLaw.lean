/- The distance of two lists: it is symmetric, no way over a third is shorter, it is 0 at equal lists alone, and it lies between the greater length less what is common and the greater length. No program is named here. Conditions: none. -/
import Derived.Test.YtelkggafmnckoaaLib
namespace Go.Proofs.Ytelkggafmnckoaa

section
variable {α : Type} [DecidableEq α]
/-- The least cost of turning a list into another. -/
def ed : List α → List α → Nat
  | [], ys => ys.length
  | x :: xs, [] => (x :: xs).length
  | x :: xs, y :: ys => if x = y then ed xs ys else 1 + min (ed xs ys) (min (ed xs (y :: ys)) (ed (x :: xs) ys))
termination_by xs ys => xs.length + ys.length
theorem ed_nil (ys : List α) : ed [] ys = ys.length := by rw [ed]
theorem ed_nil' (xs : List α) : ed xs [] = xs.length := by cases xs <;> rw [ed] <;> rfl
theorem ed_cons (x y : α) (xs ys : List α) : ed (x :: xs) (y :: ys) = if x = y then ed xs ys else 1 + min (ed xs ys) (min (ed xs (y :: ys)) (ed (x :: xs) ys)) := by rw [ed]
theorem ed_near : ∀ (n : Nat) (xs ys : List α), xs.length + ys.length = n → (∀ z, ed (z :: xs) ys ≤ ed xs ys + 1 ∧ ed xs ys ≤ ed (z :: xs) ys + 1) ∧ (∀ z, ed xs (z :: ys) ≤ ed xs ys + 1 ∧ ed xs ys ≤ ed xs (z :: ys) + 1) := by
  intro n
  induction n using Nat.strongRecOn with
  | _ n ih =>
    intro xs ys hn
    refine ⟨fun z => ⟨?_, ?_⟩, fun z => ⟨?_, ?_⟩⟩
    · cases ys with
      | nil => rw [ed_nil', ed_nil']; simp
      | cons y ys =>
        rw [ed_cons]
        split
        · have := ((ih (xs.length + ys.length) (by simp at hn; omega) xs ys rfl).2 y).2; omega
        · omega
    · cases ys with
      | nil => rw [ed_nil', ed_nil']; simp; omega
      | cons y ys =>
        rw [ed_cons]
        have h1 := ((ih (xs.length + ys.length) (by simp at hn; omega) xs ys rfl).2 y).1
        have h2 := ((ih (xs.length + ys.length) (by simp at hn; omega) xs ys rfl).1 z).2
        split <;> omega
    · cases xs with
      | nil => rw [ed_nil, ed_nil]; simp
      | cons x xs =>
        rw [ed_cons]
        split
        · have := ((ih (xs.length + ys.length) (by simp at hn; omega) xs ys rfl).1 x).2; omega
        · omega
    · cases xs with
      | nil => rw [ed_nil, ed_nil]; simp; omega
      | cons x xs =>
        rw [ed_cons]
        have h1 := ((ih (xs.length + ys.length) (by simp at hn; omega) xs ys rfl).1 x).1
        have h2 := ((ih (xs.length + ys.length) (by simp at hn; omega) xs ys rfl).2 z).2
        split <;> omega
theorem ed_del (x : α) (xs ys : List α) : ed (x :: xs) ys ≤ ed xs ys + 1 := ((ed_near _ xs ys rfl).1 x).1
theorem ed_ins (y : α) (xs ys : List α) : ed xs (y :: ys) ≤ ed xs ys + 1 := ((ed_near _ xs ys rfl).2 y).1
theorem ed_sub (x y : α) (xs ys : List α) : ed (x :: xs) (y :: ys) ≤ ed xs ys + (if x = y then 0 else 1) := by
  rw [ed_cons]; split <;> omega
/-- How the cost of two lists that are not empty comes about. -/
theorem ed_how (x y : α) (xs ys : List α) : ed (x :: xs) (y :: ys) = ed xs ys + (if x = y then 0 else 1) ∨ ed (x :: xs) (y :: ys) = ed xs (y :: ys) + 1 ∨ ed (x :: xs) (y :: ys) = ed (x :: xs) ys + 1 := by
  rw [ed_cons]
  split
  · exact .inl (by omega)
  · rcases Nat.le_total (ed xs ys) (min (ed xs (y :: ys)) (ed (x :: xs) ys)) with h | h
    · exact .inl (by omega)
    · rcases Nat.le_total (ed xs (y :: ys)) (ed (x :: xs) ys) with h2 | h2
      · exact .inr (.inl (by omega))
      · exact .inr (.inr (by omega))
theorem ed_symm : ∀ (n : Nat) (xs ys : List α), xs.length + ys.length = n → ed xs ys = ed ys xs := by
  intro n
  induction n using Nat.strongRecOn with
  | _ n ih =>
    intro xs ys hn
    cases xs with
    | nil => rw [ed_nil, ed_nil']
    | cons x xs =>
      cases ys with
      | nil => rw [ed_nil, ed_nil']
      | cons y ys =>
        simp only [List.length_cons] at hn
        rw [ed_cons, ed_cons, ih (xs.length + ys.length) (by omega) xs ys rfl, ih (xs.length + (y :: ys).length) (by simp; omega) xs (y :: ys) rfl, ih ((x :: xs).length + ys.length) (by simp; omega) (x :: xs) ys rfl]
        by_cases h : x = y
        · rw [if_pos h, if_pos h.symm]
        · rw [if_neg h, if_neg (fun e => h e.symm)]; omega
theorem ed_comm (xs ys : List α) : ed xs ys = ed ys xs := ed_symm _ xs ys rfl
theorem ed_bounds : ∀ (n : Nat) (xs ys : List α), xs.length + ys.length = n → xs.length ≤ ys.length + ed xs ys ∧ ys.length ≤ xs.length + ed xs ys ∧ ed xs ys ≤ max xs.length ys.length := by
  intro n
  induction n using Nat.strongRecOn with
  | _ n ih =>
    intro xs ys hn
    cases xs with
    | nil => rw [ed_nil]; simp
    | cons x xs =>
      cases ys with
      | nil => rw [ed_nil']; simp
      | cons y ys =>
        simp only [List.length_cons] at hn
        have h1 := ih (xs.length + ys.length) (by omega) xs ys rfl
        have h2 := ih (xs.length + (y :: ys).length) (by simp; omega) xs (y :: ys) rfl
        have h3 := ih ((x :: xs).length + ys.length) (by simp; omega) (x :: xs) ys rfl
        simp only [List.length_cons] at *
        rw [ed_cons]
        split <;> omega
theorem ed_tri : ∀ (n : Nat) (xs ys zs : List α), xs.length + ys.length + zs.length = n → ed xs zs ≤ ed xs ys + ed ys zs := by
  intro n
  induction n using Nat.strongRecOn with
  | _ n ih =>
    intro xs ys zs hn
    cases xs with
    | nil => rw [ed_nil, ed_nil]; have := ed_bounds _ ys zs rfl; omega
    | cons x xs =>
      cases zs with
      | nil => rw [ed_nil', ed_nil']; have := ed_bounds _ (x :: xs) ys rfl; omega
      | cons z zs =>
        cases ys with
        | nil => rw [ed_nil, ed_nil']; have := ed_bounds _ (x :: xs) (z :: zs) rfl; omega
        | cons y ys =>
          simp only [List.length_cons] at hn
          have a1 := ih _ (by simp; omega) xs (y :: ys) (z :: zs) rfl
          have a2 := ih _ (by simp; omega) (x :: xs) (y :: ys) zs rfl
          have a3 := ih _ (by simp; omega) (x :: xs) ys (z :: zs) rfl
          have a4 := ih _ (by simp; omega) (x :: xs) ys zs rfl
          have a5 := ih _ (by simp; omega) xs ys (z :: zs) rfl
          have a6 := ih _ (by omega) xs ys zs rfl
          have d := ed_del x xs (z :: zs)
          have i := ed_ins z (x :: xs) zs
          have s := ed_sub x z xs zs
          have t : (if x = z then 0 else 1) ≤ (if x = y then 0 else 1) + (if y = z then 0 else 1) := by
            by_cases h1 : x = y
            · by_cases h2 : y = z
              · simp [h1, h2]
              · rw [if_neg h2]; split <;> omega
            · rw [if_neg h1]; split <;> omega
          rcases ed_how x y xs ys with h1 | h1 | h1 <;> rcases ed_how y z ys zs with h2 | h2 | h2 <;> omega
theorem ed_triangle (xs ys zs : List α) : ed xs zs ≤ ed xs ys + ed ys zs := ed_tri _ xs ys zs rfl
theorem ed_zero : ∀ (xs ys : List α), ed xs ys = 0 ↔ xs = ys := by
  intro xs
  induction xs with
  | nil => intro ys; rw [ed_nil]; cases ys <;> simp
  | cons x xs ih =>
    intro ys
    cases ys with
    | nil => rw [ed_nil']; simp
    | cons y ys =>
      rw [ed_cons]
      by_cases h : x = y
      · rw [if_pos h, ih]; simp [h]
      · rw [if_neg h]; simp [h]
/-- The greatest length of what two lists have in common. -/
def lc : List α → List α → Nat
  | [], _ => 0
  | _ :: _, [] => 0
  | x :: xs, y :: ys => if x = y then lc xs ys + 1 else max (lc (x :: xs) ys) (lc xs (y :: ys))
termination_by xs ys => xs.length + ys.length
theorem lc_cons (x y : α) (xs ys : List α) : lc (x :: xs) (y :: ys) = if x = y then lc xs ys + 1 else max (lc (x :: xs) ys) (lc xs (y :: ys)) := by rw [lc]
theorem lc_sub : ∀ (n : Nat) (xs ys l : List α), xs.length + ys.length = n → List.Sublist l xs → List.Sublist l ys → l.length ≤ lc xs ys := by
  intro n
  induction n using Nat.strongRecOn with
  | _ n ih =>
    intro xs ys l hn h1 h2
    cases xs with
    | nil => rw [List.sublist_nil.1 h1]; simp
    | cons x xs =>
      cases ys with
      | nil => rw [List.sublist_nil.1 h2]; simp
      | cons y ys =>
        simp only [List.length_cons] at hn
        rw [lc_cons]
        by_cases h : x = y
        · rw [if_pos h]
          have t1 : List.Sublist l.tail xs := by simpa using h1.tail
          have t2 : List.Sublist l.tail ys := by simpa using h2.tail
          have := ih _ (by omega) xs ys l.tail rfl t1 t2
          rw [List.length_tail] at this
          omega
        · rw [if_neg h]
          cases h1 with
          | cons _ h1 => have := ih _ (by simp; omega) xs (y :: ys) l rfl h1 h2; omega
          | cons_cons _ h1 =>
            cases h2 with
            | cons _ h2 => have := ih _ (by simp; omega) (x :: xs) ys _ rfl (h1.cons_cons x) h2; omega
            | cons_cons _ h2 => exact absurd rfl h
/-- What stays when a list is turned into another at least cost. -/
theorem ed_common : ∀ (n : Nat) (xs ys : List α), xs.length + ys.length = n → ∃ l, List.Sublist l xs ∧ List.Sublist l ys ∧ xs.length ≤ l.length + ed xs ys ∧ ys.length ≤ l.length + ed xs ys := by
  intro n
  induction n using Nat.strongRecOn with
  | _ n ih =>
    intro xs ys hn
    cases xs with
    | nil => exact ⟨[], by simp, by simp, by simp, by rw [ed_nil]; simp⟩
    | cons x xs =>
      cases ys with
      | nil => exact ⟨[], by simp, by simp, by rw [ed_nil']; simp, by simp⟩
      | cons y ys =>
        simp only [List.length_cons] at hn
        by_cases h : x = y
        · subst h
          obtain ⟨l, h1, h2, h3, h4⟩ := ih _ (by omega) xs ys rfl
          have e : ed (x :: xs) (x :: ys) = ed xs ys := by rw [ed_cons, if_pos rfl]
          exact ⟨x :: l, h1.cons_cons x, h2.cons_cons x, by rw [e]; simp; omega, by rw [e]; simp; omega⟩
        · rcases ed_how x y xs ys with e | e | e
          · obtain ⟨l, h1, h2, h3, h4⟩ := ih _ (by omega) xs ys rfl
            rw [if_neg h] at e
            exact ⟨l, h1.cons x, h2.cons y, by rw [e]; simp; omega, by rw [e]; simp; omega⟩
          · obtain ⟨l, h1, h2, h3, h4⟩ := ih _ (by simp; omega) xs (y :: ys) rfl
            exact ⟨l, h1.cons x, h2, by rw [e]; simp; omega, by rw [e]; omega⟩
          · obtain ⟨l, h1, h2, h3, h4⟩ := ih _ (by simp; omega) (x :: xs) ys rfl
            exact ⟨l, h1, h2.cons y, by rw [e]; omega, by rw [e]; simp; omega⟩
/-- The distance and what is common are as long as the longer text. -/
theorem ed_lc (xs ys : List α) : max xs.length ys.length ≤ ed xs ys + lc xs.reverse ys.reverse := by
  obtain ⟨l, h1, h2, h3, h4⟩ := ed_common _ xs ys rfl
  have := lc_sub _ xs.reverse ys.reverse l.reverse rfl h1.reverse h2.reverse
  rw [List.length_reverse] at this
  omega
end
end Go.Proofs.Ytelkggafmnckoaa
