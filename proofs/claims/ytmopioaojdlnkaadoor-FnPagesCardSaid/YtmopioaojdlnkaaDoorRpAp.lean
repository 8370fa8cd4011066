/- Reading a page's text, as plain data: lines between newlines, words between blanks. Conditions: none. -/
import Derived.Test.YtmopioaojdlnkaaDoorPgTextp
import Derived.Lib.SplitLaws
import Derived.Lib.IndexBytes
import Derived.Lib.Strings
namespace Go.Proofs.YtmopioaojdlnkaaDoor
open Go Go.RowKit
def splitC (c : UInt8) : List UInt8 → List (List UInt8)
 | [] => [[]]
 | b :: l => if b = c then [] :: splitC c l else (b :: (splitC c l).headD []) :: (splitC c l).tail
section
variable {c : UInt8}
theorem splitC_ne (l : List UInt8) : splitC c l ≠ [] := by
 cases l with
 | nil => simp [splitC]
 | cons b l => rw [splitC]; split <;> simp
theorem splitC_word {w : List UInt8} (h : ∀ b ∈ w, b ≠ c) : splitC c w = [w] := by
 induction w with
 | nil => rfl
 | cons b w ih =>
   rw [splitC, if_neg (h b (List.mem_cons_self ..)), ih (fun d hd => h d (List.mem_cons_of_mem _ hd))]; rfl
theorem splitC_app {w r : List UInt8} (h : ∀ b ∈ w, b ≠ c) : splitC c (w ++ c :: r) = w :: splitC c r := by
 induction w with
 | nil => rw [List.nil_append, splitC, if_pos rfl]
 | cons b w ih =>
   rw [List.cons_append, splitC, if_neg (h b (List.mem_cons_self ..)), ih (fun d hd => h d (List.mem_cons_of_mem _ hd))]; rfl
theorem splitC_sum (l : List UInt8) : ((splitC c l).map fun w => w.length + 1).sum = l.length + 1 := by
 induction l with
 | nil => rfl
 | cons b l ih =>
   cases hs : splitC c l with
   | nil => exact absurd hs (splitC_ne l)
   | cons v r =>
     rw [hs] at ih
     rw [splitC, hs]
     split
     · simp only [List.map_cons, List.sum_cons, List.length_nil, List.length_cons] at ih ⊢; omega
     · simp only [List.map_cons, List.sum_cons, List.length_cons, List.headD_cons, List.tail_cons] at ih ⊢; omega
theorem sum_mem {f : List UInt8 → Nat} : ∀ {r : List (List UInt8)} {w : List UInt8}, w ∈ r → f w ≤ (r.map f).sum
 | a :: r, w, h => by
   rw [List.map_cons, List.sum_cons]
   rcases List.mem_cons.1 h with rfl | h
   · omega
   · have := sum_mem (f := f) h; omega
theorem splitC_le (l : List UInt8) : (∀ w ∈ splitC c l, w.length ≤ l.length) ∧ (splitC c l).length ≤ l.length + 1 := by
 have h := splitC_sum (c := c) l
 refine ⟨fun w hw => ?_, ?_⟩
 · have : w.length + 1 ≤ ((splitC c l).map fun w => w.length + 1).sum := sum_mem (f := fun w => w.length + 1) hw
   omega
 · have : ∀ r : List (List UInt8), r.length ≤ (r.map fun w => w.length + 1).sum := by
    intro r
    induction r with
    | nil => simp
    | cons a r ih => simp only [List.map_cons, List.sum_cons, List.length_cons]; omega
   have := this (splitC c l)
   omega
theorem splitC_end (l : List UInt8) : splitC c (l ++ [c]) = splitC c l ++ [[]] := by
 induction l with
 | nil => simp [splitC]
 | cons b l ih =>
   rw [List.cons_append, splitC, ih]
   cases hs : splitC c l with
   | nil => exact absurd hs (splitC_ne l)
   | cons v r =>
     rw [splitC, hs]
     split <;> simp
theorem splitC_flat (l : List UInt8) : ((splitC c l).map fun w => w ++ [c]).flatten = l ++ [c] := by
 induction l with
 | nil => rfl
 | cons b l ih =>
   cases hs : splitC c l with
   | nil => exact absurd hs (splitC_ne l)
   | cons v r =>
     rw [hs] at ih
     rw [splitC, hs]
     split
     · rename_i hb; subst hb; rw [List.map_cons, List.flatten_cons, ih]; rfl
     · simp only [List.map_cons, List.flatten_cons, List.headD_cons, List.tail_cons, List.cons_append] at ih ⊢; rw [ih]
theorem nil_or_end {α : Type} (l : List α) : l = [] ∨ ∃ r b, l = r ++ [b] := by
 rcases List.eq_nil_or_concat l with h | ⟨r, b, h⟩
 · exact .inl h
 · exact .inr ⟨r, b, by rw [h, List.concat_eq_append]⟩
theorem splitC_last {l : List UInt8} (h : (splitC c l).getLast? = some []) : l = [] ∨ ∃ r, l = r ++ [c] := by
 rcases nil_or_end l with rfl | ⟨r, b, rfl⟩
 · exact .inl rfl
 · right
   by_cases hb : b = c
   · subst hb; exact ⟨r, rfl⟩
   · exfalso
     have h2 := splitC_flat (c := c) (r ++ [b])
     obtain ⟨q, hq⟩ : ∃ q, splitC c (r ++ [b]) = q ++ [[]] := by
      rcases nil_or_end (splitC c (r ++ [b])) with h0 | ⟨q, x, h0⟩
      · exact absurd h0 (splitC_ne _)
      · rw [h0] at h; simp at h; subst h; exact ⟨q, h0⟩
     rw [hq, List.map_append, List.flatten_append] at h2
     simp only [List.map_cons, List.map_nil, List.nil_append, List.flatten_cons, List.flatten_nil, List.append_nil] at h2
     have h3 := List.append_inj_left' h2 rfl
     rcases nil_or_end q with rfl | ⟨q', x, rfl⟩
     · simp at h3
     · simp only [List.map_append, List.map_cons, List.map_nil, List.flatten_append, List.flatten_cons, List.flatten_nil, List.append_nil] at h3
       rw [← List.append_assoc] at h3
       have h4 := List.append_inj_right' h3 rfl
       simp at h4
       exact hb h4.symm
end
def joinL : List (List UInt8) → List UInt8
 | [] => []
 | [w] => w
 | w :: v :: r => w ++ 32 :: joinL (v :: r)
theorem join_split (l : List UInt8) : joinL (splitC 32 l) = l := by
 induction l with
 | nil => rfl
 | cons b l ih =>
   rw [splitC]
   cases hs : splitC 32 l with
   | nil => exact absurd hs (splitC_ne l)
   | cons w r =>
     rw [hs] at ih
     split
     · rename_i h; subst h
       rw [joinL, ih]; rfl
     · cases r with
       | nil => simp only [joinL, List.headD_cons, List.tail_cons] at ih ⊢; rw [ih]
       | cons v r => simp only [joinL, List.headD_cons, List.tail_cons] at ih ⊢; rw [← ih]; rfl
def baOf (l : List UInt8) : ByteArray := ⟨l.toArray⟩
theorem baOf_list (l : List UInt8) : (baOf l).data.toList = l := rfl
theorem baOf_of (s : ByteArray) : baOf s.data.toList = s := rfl
theorem baOf_size (l : List UInt8) : (baOf l).size = l.length := rfl
theorem of_bytes {ws : List ByteArray} {ls : List (List UInt8)} (h : ws.map (fun b : ByteArray => b.data.toList) = ls) : ws = ls.map baOf := by
 rw [← h, List.map_map]
 conv => lhs; rw [← List.map_id ws]
 exact List.map_congr_left fun b _ => rfl
theorem bytes_of (ls : List (List UInt8)) : (ls.map baOf).map (fun b : ByteArray => b.data.toList) = ls := by
 rw [List.map_map]
 conv => rhs; rw [← List.map_id ls]
 exact List.map_congr_left fun b _ => rfl
def lineOf (l : ByteArray) : PLine := if l = .empty then [] else (splitC 32 l.data.toList).map baOf
def endB (l : List UInt8) : Bool := decide ((splitC 10 l).getLast? = some [])
def lns (s : ByteArray) : List ByteArray := if endB s.data.toList = true then ((splitC 10 s.data.toList).dropLast).map baOf else []
def readOkP (s : ByteArray) : Bool := endB s.data.toList && linesOkB ((lns s).map lineOf)
def readP (s : ByteArray) : PPage := if readOkP s = true then ⟨(lns s).map lineOf, [], []⟩ else nilPage
theorem lines_one {l : List UInt8} (h : endB l = true) : l = [] ∨ ∃ r, l = r ++ [10] := splitC_last (of_decide_eq_true h)
theorem endB_app (r : List UInt8) : endB (r ++ [10]) = true := by
 rw [endB, splitC_end]; simp
theorem lns_app {s : ByteArray} {r : List UInt8} (h : s.data.toList = r ++ [10]) : lns s = (splitC 10 r).map baOf := by
 rw [lns, h, if_pos (endB_app r), splitC_end]; simp
theorem lns_nil : lns .empty = [] := rfl
theorem not_end {l : List UInt8} (h0 : l ≠ []) (h : Lib.hasSuffix l [10] = false) : endB l = false := by
 cases he : endB l
 · rfl
 · rcases lines_one he with rfl | ⟨r, rfl⟩
   · exact absurd rfl h0
   · exfalso
     rw [Lib.hasSuffix] at h
     have h2 : ([10] : List UInt8).isSuffixOf (r ++ [10]) = true := by rw [List.isSuffixOf_iff_suffix]; exact ⟨r, rfl⟩
     rw [h2] at h; cases h
theorem end_suffix {l : List UInt8} (h : Lib.hasSuffix l [10] = true) : ∃ r, l = r ++ [10] := by
 rw [Lib.hasSuffix, List.isSuffixOf_iff_suffix] at h
 obtain ⟨r, hr⟩ := h
 exact ⟨r, hr.symm⟩
theorem lns_sum (s : ByteArray) : ((lns s).map fun b => b.size + 1).sum ≤ s.size := by
 by_cases he : endB s.data.toList = true
 · rcases lines_one he with h | ⟨r, h⟩
   · have : s = .empty := by rw [← baOf_of s, h]; rfl
     subst this; simp [lns_nil]
   · rw [lns_app h, List.map_map, toList_size s, h]
     have h2 := splitC_sum (c := 10) r
     have e : ((splitC 10 r).map ((fun b : ByteArray => b.size + 1) ∘ baOf)).sum = ((splitC 10 r).map fun w => w.length + 1).sum := rfl
     rw [e, h2]; simp
 · rw [lns, if_neg he]; simp
theorem line_size (l : ByteArray) : (lineOf l).length ≤ l.size + 1 ∧ ∀ w ∈ lineOf l, w.size ≤ l.size := by
 rw [lineOf]
 split
 · simp
 · have h := splitC_le (c := 32) l.data.toList
   rw [← toList_size] at h
   refine ⟨by rw [List.length_map]; exact h.2, fun w hw => ?_⟩
   obtain ⟨x, hx, rfl⟩ := List.mem_map.1 hw
   exact h.1 x hx
theorem sum_le_map {α : Type} {f g : α → Nat} : ∀ {l : List α}, (∀ a ∈ l, f a ≤ g a) → (l.map f).sum ≤ (l.map g).sum
 | [], _ => Nat.le_refl _
 | a :: l, h => by
   have h1 := h a (List.mem_cons_self ..)
   have h2 := sum_le_map (f := f) (g := g) (l := l) (fun b hb => h b (List.mem_cons_of_mem _ hb))
   simp only [List.map_cons, List.sum_cons]; omega
theorem len_sum (l : List ByteArray) : l.length ≤ (l.map fun b => b.size + 1).sum := by
 induction l with
 | nil => simp
 | cons a l ih => simp only [List.map_cons, List.sum_cons, List.length_cons]; omega
theorem mem_le_sum {l : List ByteArray} {b : ByteArray} (h : b ∈ l) : b.size + 1 ≤ (l.map fun b => b.size + 1).sum := mem_sum (List.mem_map.2 ⟨b, h, rfl⟩)
theorem read_small (s : ByteArray) (hs : s.size ≤ 1048576) : PLaw ⟨(lns s).map lineOf, [], []⟩ := by
 have h := lns_sum s
 have hl := len_sum (lns s)
 have hb : ∀ x ∈ (lns s).map lineOf, x.length ≤ 1048576 ∧ ∀ w ∈ x, w.size ≤ 1048576 := by
  intro x hx
  obtain ⟨l, hlm, rfl⟩ := List.mem_map.1 hx
  have h1 := mem_le_sum hlm
  have h2 := line_size l
  exact ⟨by omega, fun w hw => by have := h2.2 w hw; omega⟩
 have hw : wordsIn ((lns s).map lineOf) ≤ 1048576 := by
  unfold wordsIn
  rw [List.map_map]
  have := sum_le_map (f := List.length ∘ lineOf) (g := fun b : ByteArray => b.size + 1) (l := lns s) (fun a _ => (line_size a).1)
  omega
 refine ⟨⟨?_, fun x hx => (hb x hx).1, hw, Nat.zero_le _, Nat.zero_le _⟩, ⟨fun x hx => (hb x hx).2, by simp, by simp⟩, ?_⟩
 · rw [List.length_map]; omega
 · unfold marksIn; simp only [List.length_nil]; omega
theorem libjoin_joinL : ∀ ws : List (List UInt8), Lib.join ws [32] = joinL ws
 | [] => rfl
 | [w] => by simp [Lib.join, List.intercalate, joinL]
 | w :: v :: r => by
   rw [joinL, ← libjoin_joinL (v :: r), Lib.join_cons]
   rw [Lib.join_cons]
   simp [Lib.joinTail]
theorem joinB_line (l : ByteArray) : joinB (lineOf l) = l.data.toList := by
 rw [lineOf]
 split
 · rename_i h; subst h; rfl
 · rw [joinB, bytes_of, libjoin_joinL, join_split]
theorem textL_read {s : ByteArray} (he : endB s.data.toList = true) : textL ((lns s).map lineOf) = s.data.toList := by
 rcases lines_one he with h | ⟨r, h⟩
 · have : s = .empty := by rw [← baOf_of s, h]; rfl
   subst this; rfl
 · rw [lns_app h, h, ← splitC_flat, textL, List.map_map, List.map_map]
   congr 1
   exact List.map_congr_left fun w _ => by simp only [Function.comp, lineT, joinB_line, baOf_list]
theorem valid_read (ls : List PLine) : validB ⟨ls, [], []⟩ = linesOkB ls := by
 simp [validB, followB]
theorem pageText_read {s : ByteArray} (he : endB s.data.toList = true) (hv : linesOkB ((lns s).map lineOf) = true) : pageText ⟨(lns s).map lineOf, [], []⟩ = s := by
 rw [pageText, valid_read, if_pos hv, textL_read he]
end Go.Proofs.YtmopioaojdlnkaaDoor
