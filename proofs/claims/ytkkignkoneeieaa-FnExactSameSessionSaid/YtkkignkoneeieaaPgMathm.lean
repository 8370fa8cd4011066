/- Pages as plain data: which lines, steps and pages are valid, and what a step does. No program is named here. Conditions: none. -/
import Derived.Test.YtkkignkoneeieaaTyLinem
namespace Go.Proofs.Ytkkignkoneeieaa
open Go Go.RowKit

def letterB (c : UInt8) : Bool := decide (97 ≤ c.toNat) && decide (c.toNat ≤ 122)
def isWordB (s : ByteArray) : Bool := s.data.toList.all letterB && (decide (1 ≤ s.size) && decide (s.size ≤ 10))
def lineOkB (l : PLine) : Bool := decide (l.length ≤ 12) && l.all isWordB
def linesOkB (ls : List PLine) : Bool := ls.all lineOkB && (decide (1 ≤ ls.length) && decide (ls.length ≤ 20))
/-- Lines that are valid. -/
structure LinesOk (ls : List PLine) : Prop where
  one : 1 ≤ ls.length
  few : ls.length ≤ 20
  each : ∀ l ∈ ls, l.length ≤ 12
  word : ∀ l ∈ ls, ∀ s ∈ l, isWordB s = true
theorem linesOk_iff (ls : List PLine) : linesOkB ls = true ↔ LinesOk ls := by
  constructor
  · intro h
    simp only [linesOkB, lineOkB, Bool.and_eq_true, List.all_eq_true, decide_eq_true_eq] at h
    exact ⟨h.2.1, h.2.2, fun l hl => (h.1 l hl).1, fun l hl => (h.1 l hl).2⟩
  · intro h
    simp only [linesOkB, lineOkB, Bool.and_eq_true, List.all_eq_true, decide_eq_true_eq]
    exact ⟨fun l hl => ⟨h.each l hl, h.word l hl⟩, h.one, h.few⟩
theorem isWord_size {s : ByteArray} (h : isWordB s = true) : 1 ≤ s.size ∧ s.size ≤ 10 := by
  simp only [isWordB, Bool.and_eq_true, decide_eq_true_eq] at h
  exact h.2

/-- The words of a line. -/
def lineAt (ls : List PLine) (n : Int) : PLine := ls.getD n.toNat []
/-- Is a step possible for valid lines? -/
def canB (ls : List PLine) (s : PStep) : Bool :=
  decide (0 ≤ s.line) && (decide (s.line ≤ (ls.length : Int) - 1) &&
  (if s.kind = 1 then decide (0 ≤ s.pos) && (decide (s.pos ≤ (lineAt ls s.line).length) && (decide (((lineAt ls s.line).length : Int) < 12) && (isWordB s.word && decide (s.old = .empty))))
   else if s.kind = 2 then decide (0 ≤ s.pos) && (decide (s.pos ≤ ((lineAt ls s.line).length : Int) - 1) && (decide ((lineAt ls s.line).getD s.pos.toNat .empty = s.word) && decide (s.old = .empty)))
   else if s.kind = 3 then decide (0 ≤ s.pos) && (decide (s.pos ≤ ((lineAt ls s.line).length : Int) - 1) && (decide ((lineAt ls s.line).getD s.pos.toNat .empty = s.old) && isWordB s.word))
   else if s.kind = 4 then decide (0 ≤ s.pos) && (decide (s.pos ≤ (lineAt ls s.line).length) && (decide ((ls.length : Int) < 20) && (decide (s.word = .empty) && decide (s.old = .empty))))
   else if s.kind = 5 then decide (s.line + 1 < (ls.length : Int)) && (decide (s.pos = (lineAt ls s.line).length) && (decide (((lineAt ls s.line).length : Int) + ((lineAt ls (s.line + 1)).length : Int) ≤ 12) && (decide (s.word = .empty) && decide (s.old = .empty))))
   else false))
/-- Lines after a possible step. -/
def stepL (ls : List PLine) (s : PStep) : List PLine :=
  let n := s.line.toNat
  let ws := lineAt ls s.line
  let at' := s.pos.toNat
  if s.kind = 1 then ls.set n (ws.take at' ++ s.word :: ws.drop at')
  else if s.kind = 2 then ls.set n (ws.take at' ++ ws.drop (at' + 1))
  else if s.kind = 3 then ls.set n (ws.set at' s.word)
  else if s.kind = 4 then ls.take n ++ ws.take at' :: ws.drop at' :: ls.drop (n + 1)
  else if s.kind = 5 then ls.take n ++ (ws ++ lineAt ls (s.line + 1)) :: ls.drop (n + 2)
  else ls
/-- The opposite of a step. -/
def oppS (s : PStep) : PStep :=
  if s.kind = 1 then { s with kind := 2 } else if s.kind = 2 then { s with kind := 1 } else if s.kind = 3 then { s with word := s.old, old := s.word }
  else if s.kind = 4 then { s with kind := 5 } else if s.kind = 5 then { s with kind := 4 } else s
def flipS (b : Bool) (s : PStep) : PStep := if b then oppS s else s
/-- Steps one after the other, from the last one to the first one. -/
def followB (b : Bool) : List PLine → List PStep → Bool
  | _, [] => true
  | ls, s :: r => canB ls (flipS b s) && followB b (stepL ls (flipS b s)) r
def validB (p : PPage) : Bool :=
  linesOkB p.lines && (decide (p.done.length ≤ 30) && (decide (p.undone.length ≤ 30) && (followB true p.lines p.done.reverse && followB false p.lines p.undone.reverse)))
/-- Steps with one more, without the first one if there are too many. -/
def pushS (l : List PStep) (s : PStep) : List PStep := if l.length + 1 > 30 then (l ++ [s]).drop 1 else l ++ [s]
def doP (p : PPage) (s : PStep) : PPage := ⟨stepL p.lines s, pushS p.done s, []⟩
def nilPage : PPage := ⟨[], [], []⟩
def doStepR (p : PPage) (s : PStep) : PPage × Int := if validB p then if canB p.lines s then (doP p s, 0) else (nilPage, 6) else (nilPage, 1)
/-- How many words a line has; -1 if there is no such line. -/
def countW (p : PPage) (n : Int) : Int := if 0 ≤ n ∧ n ≤ (p.lines.length : Int) - 1 then (lineAt p.lines n).length else -1
def inRP (n a b : Int) : Bool := decide (a ≤ n) && decide (n ≤ b)
def insertR (p : PPage) (n at' : Int) (w : ByteArray) : PPage × Int :=
  if !validB p then (nilPage, 1) else if !isWordB w then (nilPage, 7) else if !inRP at' 0 (countW p n) then (nilPage, 2) else if 12 ≤ countW p n then (nilPage, 5)
  else (doP p ⟨1, n, at', w, .empty⟩, 0)
def deleteR (p : PPage) (n at' : Int) : PPage × Int :=
  if !validB p then (nilPage, 1) else if !inRP at' 0 (countW p n - 1) then (nilPage, 2) else (doP p ⟨2, n, at', (lineAt p.lines n).getD at'.toNat .empty, .empty⟩, 0)
def replaceR (p : PPage) (n at' : Int) (w : ByteArray) : PPage × Int :=
  if !validB p then (nilPage, 1) else if !isWordB w then (nilPage, 7) else if !inRP at' 0 (countW p n - 1) then (nilPage, 2) else (doP p ⟨3, n, at', w, (lineAt p.lines n).getD at'.toNat .empty⟩, 0)
def breakR (p : PPage) (n at' : Int) : PPage × Int :=
  if !validB p then (nilPage, 1) else if !inRP at' 0 (countW p n) then (nilPage, 2) else if 20 ≤ p.lines.length then (nilPage, 5) else (doP p ⟨4, n, at', .empty, .empty⟩, 0)
def joinR (p : PPage) (n : Int) : PPage × Int :=
  if !validB p then (nilPage, 1) else if !inRP n 0 ((p.lines.length : Int) - 2) then (nilPage, 2) else if 12 < countW p n + countW p (n + 1) then (nilPage, 5) else (doP p ⟨5, n, countW p n, .empty, .empty⟩, 0)
def undoR (p : PPage) : PPage × Int :=
  if !validB p then (nilPage, 1) else match p.done.getLast? with
    | none => (nilPage, 6)
    | some s => (⟨stepL p.lines (oppS s), p.done.dropLast, pushS p.undone s⟩, 0)
def redoR (p : PPage) : PPage × Int :=
  if !validB p then (nilPage, 1) else match p.undone.getLast? with
    | none => (nilPage, 6)
    | some s => (⟨stepL p.lines s, pushS p.done s, p.undone.dropLast⟩, 0)
end Go.Proofs.Ytkkignkoneeieaa
