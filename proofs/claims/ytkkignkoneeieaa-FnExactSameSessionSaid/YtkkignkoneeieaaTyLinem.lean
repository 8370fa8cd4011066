/- The type TextLine: its data, how it lies in memory, and the law's own helpers over it. Conditions: none. -/
import Derived.Test.YtkkignkoneeieaaRows
import Derived.Test.YtkkignkoneeieaaTyStepm
namespace Go.Proofs.Ytkkignkoneeieaa
open Go Go.RowKit

abbrev PLine := List ByteArray
def pLine : Ty PLine := strs 9
def pLines (e : TypeId) : Ty (List PLine) := pLine.slice e
theorem pLine_one {o : Bool} {w : World} {xs : PLine} {cs : List Value} {F : List Nat} (h : pLine.rep o w xs cs F) : ∃ v, cs = [v] := by
  obtain ⟨A, c, ec, F0, F1, rfl, _⟩ := h
  exact ⟨_, rfl⟩
theorem pLines_open {o : Bool} {w : World} {e : TypeId} {xs : List PLine} {v : Value} {F : List Nat} (h : (pLines e).rep o w xs [v] F) :
    ∃ A c, v = .slice A xs.length c ∧ xs.length ≤ c ∧ c ≤ maxLen ∧ ∀ k (hk : k < xs.length), ∃ b off u Fk, A = some ⟨b, off, none⟩ ∧ b < w.heap.size ∧ b ∈ F ∧
      (strs 9).rep o w xs[k] [u] Fk ∧ (∀ x ∈ Fk, x ∈ F) ∧ w.cell? ⟨b, off + k, none⟩ = some u := by
  obtain ⟨A, c, hv, h1, h2, h3⟩ := slice_open h
  refine ⟨A, c, hv, h1, h2, fun k hk => ?_⟩
  obtain ⟨b, off, ck, Fk, hA, hb, hin, hr, hF, hc⟩ := h3 k hk
  obtain ⟨u, rfl⟩ := pLine_one hr
  have h0 := hc 0 _ rfl
  rw [show k * pLine.size + 0 = k from Nat.mul_one k] at h0
  exact ⟨b, off, u, Fk, hA, hb, hin, hr, hF, h0⟩

end Go.Proofs.Ytkkignkoneeieaa

/- The type TextLine: the law's own to and sz over it. Conditions: none. -/
namespace Go.Proofs.Ytkkignkoneeieaa
open Go Go.RowKit



/-- What lines weigh. -/
def szLines (xs : List PLine) : Nat := xs.length + (xs.map szStrs).sum
theorem szLines_take (xs : List PLine) (k : Nat) (h : k < xs.length) : ((xs.take (k+1)).map szStrs).sum = ((xs.take k).map szStrs).sum + szStrs xs[k] := by
  rw [List.take_succ_eq_append_getElem h, List.map_append, List.sum_append]; simp
theorem mem_sum {l : List Nat} {n : Nat} (h : n ∈ l) : n ≤ l.sum := by
  induction l with
  | nil => cases h
  | cons a r ih =>
    rw [List.sum_cons]
    rcases List.mem_cons.1 h with rfl | h
    · omega
    · have := ih h; omega
theorem szStrs_each {xs : List ByteArray} {n : Nat} (h : szStrs xs ≤ n) : xs.length ≤ n ∧ ∀ s ∈ xs, s.size ≤ n := by
  unfold szStrs at h
  refine ⟨by omega, fun s hs => ?_⟩
  have := mem_sum (List.mem_map.2 ⟨s, hs, rfl⟩ : s.size ∈ xs.map ByteArray.size)
  omega
theorem szLines_each {xs : List PLine} {n : Nat} (h : szLines xs ≤ n) : xs.length ≤ n ∧ ∀ l ∈ xs, l.length ≤ n ∧ ∀ s ∈ l, s.size ≤ n := by
  unfold szLines at h
  refine ⟨by omega, fun l hl => szStrs_each ?_⟩
  have := mem_sum (List.mem_map.2 ⟨l, hl, rfl⟩ : szStrs l ∈ xs.map szStrs)
  omega

end Go.Proofs.Ytkkignkoneeieaa

/- The type TextLine: the law's own mark and held over it. Conditions: none. -/
namespace Go.Proofs.Ytkkignkoneeieaa
open Go Go.RowKit

/-- The words of all lines, counted. -/
def wordsIn (xs : List PLine) : Nat := (xs.map List.length).sum
/-- The marks from number s on. -/
def markLines : List PLine → Nat → List PLine
  | [], _ => []
  | l :: r, s => markS l.length s :: markLines r (s + l.length)
theorem markLines_len : ∀ (xs : List PLine) (s : Nat), (markLines xs s).length = xs.length
  | [], _ => rfl
  | l :: r, s => by simp [markLines, markLines_len r]
theorem wordsIn_append (xs ys : List PLine) : wordsIn (xs ++ ys) = wordsIn xs + wordsIn ys := by simp [wordsIn]
theorem markLines_append : ∀ (xs ys : List PLine) (s : Nat), markLines (xs ++ ys) s = markLines xs s ++ markLines ys (s + wordsIn xs)
  | [], _, _ => by simp [markLines, wordsIn]
  | l :: r, ys, s => by
    simp only [List.cons_append, markLines, markLines_append r ys]
    congr 2
    simp [wordsIn]; congr 1; omega
theorem wordsIn_take {xs : List PLine} {k : Nat} (h : k < xs.length) : wordsIn (xs.take (k + 1)) = wordsIn (xs.take k) + xs[k].length := by
  rw [List.take_succ_eq_append_getElem h, wordsIn_append]; simp [wordsIn]
theorem wordsIn_le {xs : List PLine} (k : Nat) : wordsIn (xs.take k) ≤ wordsIn xs := by
  have := wordsIn_append (xs.take k) (xs.drop k)
  rw [List.take_append_drop] at this; omega
theorem markLines_take {xs : List PLine} {k : Nat} (s : Nat) (h : k < xs.length) : markLines (xs.take (k + 1)) s = markLines (xs.take k) s ++ [markS xs[k].length (s + wordsIn (xs.take k))] := by
  rw [List.take_succ_eq_append_getElem h, markLines_append]; rfl
theorem markLines_get : ∀ {xs : List PLine} {s k : Nat} (h : k < xs.length), (markLines xs s)[k]'(by rw [markLines_len]; exact h) = markS xs[k].length (s + wordsIn (xs.take k))
  | l :: r, s, 0, _ => by simp [markLines, wordsIn]
  | l :: r, s, k + 1, h => by
    simp only [markLines, List.getElem_cons_succ, List.take_succ_cons]
    rw [markLines_get (by simpa using h)]
    congr 1
    simp [wordsIn]; omega


end Go.Proofs.Ytkkignkoneeieaa

/- The type Page: its data, how it lies in memory, and the law's own eq, mark, held over it. Conditions: none. -/
namespace Go.Proofs.Ytkkignkoneeieaa
open Go Go.RowKit

structure PPage where
  lines : List PLine
  done : List PStep
  undone : List PStep
  deriving DecidableEq

/-- A page's value. -/
def PageIs (el es : TypeId) (o : Bool) (w : World) (p : PPage) (v : Value) (F : List Nat) : Prop :=
  ∃ a b c F1 F2 F3, v = .agg #[a, b, c] ∧ F = F1 ++ (F2 ++ F3) ∧ (pLines el).rep o w p.lines [a] F1 ∧ (pSteps es).rep o w p.done [b] F2 ∧ (pSteps es).rep o w p.undone [c] F3
/-- A page is small. -/
structure PSmall (p : PPage) : Prop where
  l : p.lines.length ≤ 1048576
  w : ∀ x ∈ p.lines, x.length ≤ 1048576
  n : wordsIn p.lines ≤ 1048576
  d : p.done.length ≤ 1048576
  u : p.undone.length ≤ 1048576
section
variable {el es : TypeId} {o : Bool} {w w' : World} {p : PPage} {v : Value} {F G : List Nat}
theorem PageIs.below (h : PageIs el es o w p v F) (hb : Below w.heap.size w w') : PageIs el es o w' p v F := by
  obtain ⟨a, b, c, F1, F2, F3, rfl, rfl, h1, h2, h3⟩ := h
  exact ⟨a, b, c, F1, F2, F3, rfl, rfl, h1.below hb, h2.below hb, h3.below hb⟩
theorem PageIs.only (h : PageIs el es o w p v F) (hb : Only G w w') (hd : ∀ x ∈ F, x ∉ G) : PageIs el es o w' p v F := by
  obtain ⟨a, b, c, F1, F2, F3, rfl, rfl, h1, h2, h3⟩ := h
  exact ⟨a, b, c, F1, F2, F3, rfl, rfl, h1.only hb (fun x hx => hd x (by simp [hx])), h2.only hb (fun x hx => hd x (by simp [hx])), h3.only hb (fun x hx => hd x (by simp [hx]))⟩
theorem PageIs.blocks (h : PageIs el es o w p v F) : ∀ x ∈ F, x < w.heap.size := by
  obtain ⟨a, b, c, F1, F2, F3, rfl, rfl, h1, h2, h3⟩ := h
  intro x hx
  simp only [List.mem_append] at hx
  rcases hx with hx | hx | hx
  · exact h1.blocks x hx
  · exact h2.blocks x hx
  · exact h3.blocks x hx
theorem Row.only {g : Nat} {e : TypeId} {cs : List Value} (h : Row w g e cs) (ho : Only F w w') (hg : g ∉ F) : Row w' g e cs := (ho.block g h.lt hg).trans h
end


/-- The page whose cells are all marked. -/
def markP (p : PPage) (s : Nat) : PPage :=
  ⟨markLines p.lines s, markPStep p.done.length (s + wordsIn p.lines), markPStep p.undone.length (s + wordsIn p.lines + p.done.length * 5)⟩
/-- How many marks a page takes. -/
def marksIn (p : PPage) : Nat := wordsIn p.lines + p.done.length * 5 + p.undone.length * 5


end Go.Proofs.Ytkkignkoneeieaa
