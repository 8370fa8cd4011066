/- Pages: the text of a page. Conditions: none. -/
import Derived.Test.YtahoopmiipmgpaaDoorShelf
import Derived.Test.YtahoopmiipmgpaaDoorPgDo4
namespace Go.Proofs.YtahoopmiipmgpaaDoor
open Go Go.RowKit

/-- Words, separated by blanks. -/
def joinB (xs : List ByteArray) : List UInt8 := Lib.join (xs.map (·.data.toList)) [32]
def lineT (l : PLine) : List UInt8 := joinB l ++ [10]
def textL (ls : List PLine) : List UInt8 := (ls.map lineT).flatten
def pageText (p : PPage) : ByteArray := if validB p then ⟨(textL p.lines).toArray⟩ else .empty
theorem joinB_succ {xs : List ByteArray} {k : Nat} (h : k < xs.length) : joinB (xs.take (k + 1)) = joinB (xs.take k) ++ ((if 0 < k then [32] else []) ++ xs[k].data.toList) := by
  cases xs with
  | nil => simp at h
  | cons x r =>
    cases k with
    | zero => simp [joinB, Lib.join, List.intercalate]
    | succ k =>
      simp only [List.length_cons] at h
      have e : (r.map (·.data.toList))[k]? = some ((x :: r)[k + 1].data.toList) := by simp; exact ⟨r[k]'(by omega), List.getElem?_eq_getElem (by omega), rfl⟩
      simp only [joinB, List.take_succ_cons, List.map_cons, Lib.join_cons, List.map_take, Nat.zero_lt_succ, if_true]
      rw [Lib.joinTail_take_succ _ _ k _ e]
      simp [List.append_assoc]
theorem joinB_len {xs : List ByteArray} {n : Nat} (hs : ∀ s ∈ xs, s.size ≤ n) : (joinB xs).length ≤ xs.length * (n + 1) := by
  have key : ∀ k, k ≤ xs.length → (joinB (xs.take k)).length ≤ k * (n + 1) := by
    intro k
    induction k with
    | zero => intro _; simp [joinB, Lib.join, List.intercalate]
    | succ k ih =>
      intro hk
      have h1 := ih (by omega)
      rw [joinB_succ (by omega)]
      have h2 := hs _ (List.getElem_mem (show k < xs.length by omega))
      have h3 : xs[k].data.toList.length = xs[k].size := Array.length_toList
      have h4 : (if 0 < k then ([32] : List UInt8) else []).length ≤ 1 := by split <;> simp
      simp only [List.length_append, h3]
      rw [Nat.succ_mul]
      omega
  have := key xs.length (Nat.le_refl _)
  rwa [List.take_length] at this

theorem bapp (a b : ByteArray) : (a ++ b).data.toList = a.data.toList ++ b.data.toList := by simp
theorem ret_str {a b : ByteArray} (h : a = b) : Ending.returned (.string a) = .returned (.string b) := by rw [h]
theorem textL_succ {ls : List PLine} {k : Nat} (h : k < ls.length) : textL (ls.take (k + 1)) = textL (ls.take k) ++ (joinB ls[k] ++ [10]) := by
  rw [textL, textL, List.take_succ_eq_append_getElem h, List.map_append, List.flatten_append]
  simp only [List.map_cons, List.map_nil, List.flatten_cons, List.flatten_nil, List.append_nil, lineT]
theorem textL_len {ls : List PLine} (h : LinesOk ls) {k : Nat} (hk : k ≤ ls.length) : (textL (ls.take k)).length ≤ k * 200 := by
  induction k with
  | zero => simp [textL]
  | succ k ih =>
    have h1 := ih (by omega)
    have h2 := h.each _ (List.getElem_mem (show k < ls.length by omega))
    have h3 := joinB_len (xs := ls[k]'(by omega)) (n := 10) (fun s hs => (isWord_size (h.word _ (List.getElem_mem (show k < ls.length by omega)) s hs)).2)
    have h4 : (ls[k]'(by omega)).length * (10 + 1) ≤ 12 * 11 := Nat.mul_le_mul_right _ h2
    rw [textL_succ (by omega)]
    simp only [List.length_append, List.length_cons, List.length_nil]
    rw [Nat.succ_mul]
    omega
theorem toList_size (b : ByteArray) : b.size = b.data.toList.length := Array.length_toList.symm
end Go.Proofs.YtahoopmiipmgpaaDoor
