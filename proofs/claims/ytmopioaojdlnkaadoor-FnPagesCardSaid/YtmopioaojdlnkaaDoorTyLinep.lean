/- The type TextLine: its data, how it lies in memory, and the law's own helpers over it. Conditions: none. -/
import Derived.Test.YtmopioaojdlnkaaDoorRows
import Derived.Test.YtmopioaojdlnkaaDoorFpWordsp
namespace Go.Proofs.YtmopioaojdlnkaaDoor
open Go Go.RowKit
abbrev PLine := List ByteArray
def pLine : Ty PLine := strs 9
def pLines (e : TypeId) : Ty (List PLine) := pLine.slice e
theorem pLine_one {o : Bool} {w : World} {xs : PLine} {cs : List Value} {F : List Nat} (h : pLine.rep o w xs cs F) : ∃ v, cs = [v] := by
 obtain ⟨A, c, ec, F0, F1, rfl, _⟩ := h
 exact ⟨_, rfl⟩
theorem pLines_open {o : Bool} {w : World} {e : TypeId} {xs : List PLine} {v : Value} {F : List Nat} (h : (pLines e).rep o w xs [v] F) :
 ∃ A c, v = .slice A xs.length c ∧ xs.length ≤ c ∧ c ≤ maxLen ∧ ∀ k (hk : k < xs.length), ∃ b off u Fk, A = some ⟨b, off, none⟩ ∧ b < w.heap.size ∧ b ∈ F ∧
  (strs 9).rep o w xs[k] [u] Fk ∧ (∀ x ∈ Fk, x ∈ F) ∧ w.cell? ⟨b, off + k, none⟩ = some u := by
 obtain ⟨A, c, hv, h1, h2, h3⟩ := slice_open h
 refine ⟨A, c, hv, h1, h2, fun k hk => ?_⟩
 obtain ⟨b, off, ck, Fk, hA, hb, hin, hr, hF, hc⟩ := h3 k hk
 obtain ⟨u, rfl⟩ := pLine_one hr
 have h0 := hc 0 _ rfl
 rw [show k * pLine.size + 0 = k from Nat.mul_one k] at h0
 exact ⟨b, off, u, Fk, hA, hb, hin, hr, hF, h0⟩
def szLines (xs : List PLine) : Nat := xs.length + (xs.map szStrs).sum
theorem mem_sum {l : List Nat} {n : Nat} (h : n ∈ l) : n ≤ l.sum := by
 induction l with
 | nil => cases h
 | cons a r ih =>
   rw [List.sum_cons]
   rcases List.mem_cons.1 h with rfl | h
   · omega
   · have := ih h; omega
theorem szStrs_each {xs : List ByteArray} {n : Nat} (h : szStrs xs ≤ n) : xs.length ≤ n ∧ ∀ s ∈ xs, s.size ≤ n := by
 unfold szStrs at h
 refine ⟨by omega, fun s hs => ?_⟩
 have := mem_sum (List.mem_map.2 ⟨s, hs, rfl⟩ : s.size ∈ xs.map ByteArray.size)
 omega
theorem szLines_each {xs : List PLine} {n : Nat} (h : szLines xs ≤ n) : xs.length ≤ n ∧ ∀ l ∈ xs, l.length ≤ n ∧ ∀ s ∈ l, s.size ≤ n := by
 unfold szLines at h
 refine ⟨by omega, fun l hl => szStrs_each ?_⟩
 have := mem_sum (List.mem_map.2 ⟨l, hl, rfl⟩ : szStrs l ∈ xs.map szStrs)
 omega
def wordsIn (xs : List PLine) : Nat := (xs.map List.length).sum
structure PPage where
 lines : List PLine
 done : List PStep
 undone : List PStep
 deriving DecidableEq
def PageIs (el es : TypeId) (o : Bool) (w : World) (p : PPage) (v : Value) (F : List Nat) : Prop :=
 ∃ a b c F1 F2 F3, v = .agg #[a, b, c] ∧ F = F1 ++ (F2 ++ F3) ∧ (pLines el).rep o w p.lines [a] F1 ∧ (pSteps es).rep o w p.done [b] F2 ∧ (pSteps es).rep o w p.undone [c] F3
structure PSmall (p : PPage) : Prop where
 l : p.lines.length ≤ 1048576
 w : ∀ x ∈ p.lines, x.length ≤ 1048576
 n : wordsIn p.lines ≤ 1048576
 d : p.done.length ≤ 1048576
 u : p.undone.length ≤ 1048576
section
variable {el es : TypeId} {o : Bool} {w w' : World} {p : PPage} {v : Value} {F G : List Nat}
theorem PageIs.below (h : PageIs el es o w p v F) (hb : Below w.heap.size w w') : PageIs el es o w' p v F := by
 obtain ⟨a, b, c, F1, F2, F3, rfl, rfl, h1, h2, h3⟩ := h
 exact ⟨a, b, c, F1, F2, F3, rfl, rfl, h1.below hb, h2.below hb, h3.below hb⟩
theorem PageIs.only (h : PageIs el es o w p v F) (hb : Only G w w') (hd : ∀ x ∈ F, x ∉ G) : PageIs el es o w' p v F := by
 obtain ⟨a, b, c, F1, F2, F3, rfl, rfl, h1, h2, h3⟩ := h
 exact ⟨a, b, c, F1, F2, F3, rfl, rfl, h1.only hb (fun x hx => hd x (by simp [hx])), h2.only hb (fun x hx => hd x (by simp [hx])), h3.only hb (fun x hx => hd x (by simp [hx]))⟩
theorem PageIs.blocks (h : PageIs el es o w p v F) : ∀ x ∈ F, x < w.heap.size := by
 obtain ⟨a, b, c, F1, F2, F3, rfl, rfl, h1, h2, h3⟩ := h
 intro x hx
 simp only [List.mem_append] at hx
 rcases hx with hx | hx | hx
 · exact h1.blocks x hx
 · exact h2.blocks x hx
 · exact h3.blocks x hx
theorem Row.only {g : Nat} {e : TypeId} {cs : List Value} (h : Row w g e cs) (ho : Only F w w') (hg : g ∉ F) : Row w' g e cs := (ho.block g h.lt hg).trans h
end
def marksIn (p : PPage) : Nat := wordsIn p.lines + p.done.length * 5 + p.undone.length * 5
def letterB (c : UInt8) : Bool := decide (97 ≤ c.toNat) && decide (c.toNat ≤ 122)
def isWordB (s : ByteArray) : Bool := s.data.toList.all letterB && (decide (1 ≤ s.size) && decide (s.size ≤ 10))
def lineOkB (l : PLine) : Bool := decide (l.length ≤ 12) && l.all isWordB
def linesOkB (ls : List PLine) : Bool := ls.all lineOkB && (decide (1 ≤ ls.length) && decide (ls.length ≤ 20))
structure LinesOk (ls : List PLine) : Prop where
 one : 1 ≤ ls.length
 few : ls.length ≤ 20
 each : ∀ l ∈ ls, l.length ≤ 12
 word : ∀ l ∈ ls, ∀ s ∈ l, isWordB s = true
theorem linesOk_iff (ls : List PLine) : linesOkB ls = true ↔ LinesOk ls := by
 constructor
 · intro h
   simp only [linesOkB, lineOkB, Bool.and_eq_true, List.all_eq_true, decide_eq_true_eq] at h
   exact ⟨h.2.1, h.2.2, fun l hl => (h.1 l hl).1, fun l hl => (h.1 l hl).2⟩
 · intro h
   simp only [linesOkB, lineOkB, Bool.and_eq_true, List.all_eq_true, decide_eq_true_eq]
   exact ⟨fun l hl => ⟨h.each l hl, h.word l hl⟩, h.one, h.few⟩
theorem isWord_size {s : ByteArray} (h : isWordB s = true) : 1 ≤ s.size ∧ s.size ≤ 10 := by
 simp only [isWordB, Bool.and_eq_true, decide_eq_true_eq] at h
 exact h.2
def lineAt (ls : List PLine) (n : Int) : PLine := ls.getD n.toNat []
def canB (ls : List PLine) (s : PStep) : Bool :=
 decide (0 ≤ s.line) && (decide (s.line ≤ (ls.length : Int) - 1) &&
 (if s.kind = 1 then decide (0 ≤ s.pos) && (decide (s.pos ≤ (lineAt ls s.line).length) && (decide (((lineAt ls s.line).length : Int) < 12) && (isWordB s.word && decide (s.old = .empty))))
  else if s.kind = 2 then decide (0 ≤ s.pos) && (decide (s.pos ≤ ((lineAt ls s.line).length : Int) - 1) && (decide ((lineAt ls s.line).getD s.pos.toNat .empty = s.word) && decide (s.old = .empty)))
  else if s.kind = 3 then decide (0 ≤ s.pos) && (decide (s.pos ≤ ((lineAt ls s.line).length : Int) - 1) && (decide ((lineAt ls s.line).getD s.pos.toNat .empty = s.old) && isWordB s.word))
  else if s.kind = 4 then decide (0 ≤ s.pos) && (decide (s.pos ≤ (lineAt ls s.line).length) && (decide ((ls.length : Int) < 20) && (decide (s.word = .empty) && decide (s.old = .empty))))
  else if s.kind = 5 then decide (s.line + 1 < (ls.length : Int)) && (decide (s.pos = (lineAt ls s.line).length) && (decide (((lineAt ls s.line).length : Int) + ((lineAt ls (s.line + 1)).length : Int) ≤ 12) && (decide (s.word = .empty) && decide (s.old = .empty))))
  else false))
def stepL (ls : List PLine) (s : PStep) : List PLine :=
 let n := s.line.toNat
 let ws := lineAt ls s.line
 let at' := s.pos.toNat
 if s.kind = 1 then ls.set n (ws.take at' ++ s.word :: ws.drop at')
 else if s.kind = 2 then ls.set n (ws.take at' ++ ws.drop (at' + 1))
 else if s.kind = 3 then ls.set n (ws.set at' s.word)
 else if s.kind = 4 then ls.take n ++ ws.take at' :: ws.drop at' :: ls.drop (n + 1)
 else if s.kind = 5 then ls.take n ++ (ws ++ lineAt ls (s.line + 1)) :: ls.drop (n + 2)
 else ls
def oppS (s : PStep) : PStep :=
 if s.kind = 1 then { s with kind := 2 } else if s.kind = 2 then { s with kind := 1 } else if s.kind = 3 then { s with word := s.old, old := s.word }
 else if s.kind = 4 then { s with kind := 5 } else if s.kind = 5 then { s with kind := 4 } else s
def flipS (b : Bool) (s : PStep) : PStep := if b then oppS s else s
def followB (b : Bool) : List PLine → List PStep → Bool
 | _, [] => true
 | ls, s :: r => canB ls (flipS b s) && followB b (stepL ls (flipS b s)) r
def validB (p : PPage) : Bool :=
 linesOkB p.lines && (decide (p.done.length ≤ 30) && (decide (p.undone.length ≤ 30) && (followB true p.lines p.done.reverse && followB false p.lines p.undone.reverse)))
def pushS (l : List PStep) (s : PStep) : List PStep := if l.length + 1 > 30 then (l ++ [s]).drop 1 else l ++ [s]
def doP (p : PPage) (s : PStep) : PPage := ⟨stepL p.lines s, pushS p.done s, []⟩
def nilPage : PPage := ⟨[], [], []⟩
def doStepR (p : PPage) (s : PStep) : PPage × Int := if validB p then if canB p.lines s then (doP p s, 0) else (nilPage, 6) else (nilPage, 1)
def inRP (n a b : Int) : Bool := decide (a ≤ n) && decide (n ≤ b)
def undoR (p : PPage) : PPage × Int :=
 if !validB p then (nilPage, 1) else match p.done.getLast? with
  | none => (nilPage, 6)
  | some s => (⟨stepL p.lines (oppS s), p.done.dropLast, pushS p.undone s⟩, 0)
def redoR (p : PPage) : PPage × Int :=
 if !validB p then (nilPage, 1) else match p.undone.getLast? with
  | none => (nilPage, 6)
  | some s => (⟨stepL p.lines s, pushS p.done s, p.undone.dropLast⟩, 0)
end Go.Proofs.YtmopioaojdlnkaaDoor
