/- Pages as plain data: which lines, steps and pages are valid, and what a step does. No program is named here. Conditions: none. -/
import Derived.Test.YtboijogahclekaaGreatDoorTyLinek
namespace Go.Proofs.YtboijogahclekaaGreatDoor
open Go Go.RowKit
def letterB (c : UInt8) : Bool := decide (97 ≤ c.toNat) && decide (c.toNat ≤ 122)
def isWordB (s : ByteArray) : Bool := s.data.toList.all letterB && (decide (1 ≤ s.size) && decide (s.size ≤ 10))
def lineOkB (l : PLine) : Bool := decide (l.length ≤ 12) && l.all isWordB
def linesOkB (ls : List PLine) : Bool := ls.all lineOkB && (decide (1 ≤ ls.length) && decide (ls.length ≤ 20))
structure LinesOk (ls : List PLine) : Prop where
 one : 1 ≤ ls.length
 few : ls.length ≤ 20
 each : ∀ l ∈ ls, l.length ≤ 12
 word : ∀ l ∈ ls, ∀ s ∈ l, isWordB s = true
theorem linesOk_iff (ls : List PLine) : linesOkB ls = true ↔ LinesOk ls := by
 constructor
 · intro h
   simp only [linesOkB, lineOkB, Bool.and_eq_true, List.all_eq_true, decide_eq_true_eq] at h
   exact ⟨h.2.1, h.2.2, fun l hl => (h.1 l hl).1, fun l hl => (h.1 l hl).2⟩
 · intro h
   simp only [linesOkB, lineOkB, Bool.and_eq_true, List.all_eq_true, decide_eq_true_eq]
   exact ⟨fun l hl => ⟨h.each l hl, h.word l hl⟩, h.one, h.few⟩
def lineAt (ls : List PLine) (n : Int) : PLine := ls.getD n.toNat []
def canB (ls : List PLine) (s : PStep) : Bool :=
 decide (0 ≤ s.line) && (decide (s.line ≤ (ls.length : Int) - 1) &&
 (if s.kind = 1 then decide (0 ≤ s.pos) && (decide (s.pos ≤ (lineAt ls s.line).length) && (decide (((lineAt ls s.line).length : Int) < 12) && (isWordB s.word && decide (s.old = .empty))))
  else if s.kind = 2 then decide (0 ≤ s.pos) && (decide (s.pos ≤ ((lineAt ls s.line).length : Int) - 1) && (decide ((lineAt ls s.line).getD s.pos.toNat .empty = s.word) && decide (s.old = .empty)))
  else if s.kind = 3 then decide (0 ≤ s.pos) && (decide (s.pos ≤ ((lineAt ls s.line).length : Int) - 1) && (decide ((lineAt ls s.line).getD s.pos.toNat .empty = s.old) && isWordB s.word))
  else if s.kind = 4 then decide (0 ≤ s.pos) && (decide (s.pos ≤ (lineAt ls s.line).length) && (decide ((ls.length : Int) < 20) && (decide (s.word = .empty) && decide (s.old = .empty))))
  else if s.kind = 5 then decide (s.line + 1 < (ls.length : Int)) && (decide (s.pos = (lineAt ls s.line).length) && (decide (((lineAt ls s.line).length : Int) + ((lineAt ls (s.line + 1)).length : Int) ≤ 12) && (decide (s.word = .empty) && decide (s.old = .empty))))
  else false))
def stepL (ls : List PLine) (s : PStep) : List PLine :=
 let n := s.line.toNat
 let ws := lineAt ls s.line
 let at' := s.pos.toNat
 if s.kind = 1 then ls.set n (ws.take at' ++ s.word :: ws.drop at')
 else if s.kind = 2 then ls.set n (ws.take at' ++ ws.drop (at' + 1))
 else if s.kind = 3 then ls.set n (ws.set at' s.word)
 else if s.kind = 4 then ls.take n ++ ws.take at' :: ws.drop at' :: ls.drop (n + 1)
 else if s.kind = 5 then ls.take n ++ (ws ++ lineAt ls (s.line + 1)) :: ls.drop (n + 2)
 else ls
def oppS (s : PStep) : PStep :=
 if s.kind = 1 then { s with kind := 2 } else if s.kind = 2 then { s with kind := 1 } else if s.kind = 3 then { s with word := s.old, old := s.word }
 else if s.kind = 4 then { s with kind := 5 } else if s.kind = 5 then { s with kind := 4 } else s
def flipS (b : Bool) (s : PStep) : PStep := if b then oppS s else s
def followB (b : Bool) : List PLine → List PStep → Bool
 | _, [] => true
 | ls, s :: r => canB ls (flipS b s) && followB b (stepL ls (flipS b s)) r
def validB (p : PPage) : Bool :=
 linesOkB p.lines && (decide (p.done.length ≤ 30) && (decide (p.undone.length ≤ 30) && (followB true p.lines p.done.reverse && followB false p.lines p.undone.reverse)))
def inRP (n a b : Int) : Bool := decide (a ≤ n) && decide (n ≤ b)
inductive Can (ls : List PLine) (s : PStep) : Prop
 | ins (n a : Nat) (hn : n < ls.length) (h1 : s.line = n) (h2 : s.pos = a) (hk : s.kind = 1) (ha : a ≤ ls[n].length) (hl : ls[n].length < 12) (hw : isWordB s.word = true) (ho : s.old = .empty)
 | del (n a : Nat) (hn : n < ls.length) (h1 : s.line = n) (h2 : s.pos = a) (hk : s.kind = 2) (ha : a < ls[n].length) (hw : ls[n][a] = s.word) (ho : s.old = .empty)
 | rep (n a : Nat) (hn : n < ls.length) (h1 : s.line = n) (h2 : s.pos = a) (hk : s.kind = 3) (ha : a < ls[n].length) (hw : ls[n][a] = s.old) (ho : isWordB s.word = true)
 | brk (n a : Nat) (hn : n < ls.length) (h1 : s.line = n) (h2 : s.pos = a) (hk : s.kind = 4) (ha : a ≤ ls[n].length) (hl : ls.length < 20) (hw : s.word = .empty) (ho : s.old = .empty)
 | join (n a : Nat) (hn : n + 1 < ls.length) (h1 : s.line = n) (h2 : s.pos = a) (hk : s.kind = 5) (ha : a = (ls[n]'(by omega)).length) (hl : (ls[n]'(by omega)).length + ls[n + 1].length ≤ 12) (hw : s.word = .empty) (ho : s.old = .empty)
theorem lineAt_nat {ls : List PLine} {n : Nat} (h : n < ls.length) : lineAt ls (n : Int) = ls[n] := by
 simp [lineAt, h]
theorem can_iff (ls : List PLine) (s : PStep) : canB ls s = true ↔ Can ls s := by
 constructor
 · intro h
   simp only [canB, Bool.and_eq_true, decide_eq_true_eq] at h
   obtain ⟨h0, h1, h⟩ := h
   obtain ⟨n, hn⟩ := Int.eq_ofNat_of_zero_le h0
   have hlt : n < ls.length := by omega
   rw [hn, lineAt_nat hlt] at h
   split at h
   · rename_i hk
     simp only [Bool.and_eq_true, decide_eq_true_eq] at h
     obtain ⟨p0, p1, p2, p3, p4⟩ := h
     obtain ⟨a, ha⟩ := Int.eq_ofNat_of_zero_le p0
     exact .ins n a hlt hn ha hk (by omega) (by omega) p3 p4
   · split at h
     · rename_i hk
       simp only [Bool.and_eq_true, decide_eq_true_eq] at h
       obtain ⟨p0, p1, p2, p3⟩ := h
       obtain ⟨a, ha⟩ := Int.eq_ofNat_of_zero_le p0
       have hal : a < ls[n].length := by omega
       rw [ha] at p2
       exact .del n a hlt hn ha hk hal (by simpa [hal] using p2) p3
     · split at h
       · rename_i hk
         simp only [Bool.and_eq_true, decide_eq_true_eq] at h
         obtain ⟨p0, p1, p2, p3⟩ := h
         obtain ⟨a, ha⟩ := Int.eq_ofNat_of_zero_le p0
         have hal : a < ls[n].length := by omega
         rw [ha] at p2
         exact .rep n a hlt hn ha hk hal (by simpa [hal] using p2) p3
       · split at h
         · rename_i hk
           simp only [Bool.and_eq_true, decide_eq_true_eq] at h
           obtain ⟨p0, p1, p2, p3, p4⟩ := h
           obtain ⟨a, ha⟩ := Int.eq_ofNat_of_zero_le p0
           exact .brk n a hlt hn ha hk (by omega) (by omega) p3 p4
         · split at h
           · rename_i hk
             simp only [Bool.and_eq_true, decide_eq_true_eq] at h
             obtain ⟨p0, p1, p2, p3, p4⟩ := h
             have hlt2 : n + 1 < ls.length := by omega
             rw [show ((n : Int) + 1) = ((n + 1 : Nat) : Int) from by omega, lineAt_nat hlt2] at p2
             exact .join n ls[n].length hlt2 hn p1 hk rfl (by omega) p3 p4
           · simp at h
 · intro h
   simp only [canB, Bool.and_eq_true, decide_eq_true_eq]
   cases h with
   | ins n a hn h1 h2 hk ha hl hw ho => rw [h1, lineAt_nat hn, h2, if_pos hk]; refine ⟨by omega, by omega, ?_⟩; simp [hw, ho]; omega
   | del n a hn h1 h2 hk ha hw ho => rw [h1, lineAt_nat hn, h2, if_neg (by omega), if_pos hk]; refine ⟨by omega, by omega, ?_⟩; simp [ha, hw, ho]; omega
   | rep n a hn h1 h2 hk ha hw ho => rw [h1, lineAt_nat hn, h2, if_neg (by omega), if_neg (by omega), if_pos hk]; refine ⟨by omega, by omega, ?_⟩; simp [ha, hw, ho]; omega
   | brk n a hn h1 h2 hk ha hl hw ho => rw [h1, lineAt_nat hn, h2, if_neg (by omega), if_neg (by omega), if_neg (by omega), if_pos hk]; refine ⟨by omega, by omega, ?_⟩; simp [hw, ho]; omega
   | join n a hn h1 h2 hk ha hl hw ho =>
     rw [h1, lineAt_nat (by omega), h2, if_neg (by omega), if_neg (by omega), if_neg (by omega), if_neg (by omega), if_pos hk, show ((n : Int) + 1) = ((n + 1 : Nat) : Int) from by omega, lineAt_nat hn]
     refine ⟨by omega, by omega, ?_⟩; simp [hw, ho]; omega
section
variable {ls : List PLine} {s : PStep}
theorem linesOk_set (h : LinesOk ls) (n : Nat) (l : PLine) (h1 : l.length ≤ 12) (h2 : ∀ s ∈ l, isWordB s = true) : LinesOk (ls.set n l) :=
 ⟨by simpa using h.one, by simpa using h.few, fun x hx => by
  rcases List.mem_or_eq_of_mem_set hx with hx | rfl
  · exact h.each x hx
  · exact h1, fun x hx => by
  rcases List.mem_or_eq_of_mem_set hx with hx | rfl
  · exact h.word x hx
  · exact h2⟩
theorem stepL_ok (h : LinesOk ls) (hc : Can ls s) : LinesOk (stepL ls s) := by
 cases hc with
 | ins n a hn h1 h2 hk ha hl hw ho =>
   have e : stepL ls s = ls.set n (ls[n].take a ++ s.word :: ls[n].drop a) := by simp [stepL, hk, h1, h2, lineAt_nat hn]
   rw [e]
   refine linesOk_set h _ _ (by simp; omega) fun x hx => ?_
   simp only [List.mem_append, List.mem_cons] at hx
   rcases hx with hx | rfl | hx
   · exact h.word _ (List.getElem_mem hn) x (List.mem_of_mem_take hx)
   · exact hw
   · exact h.word _ (List.getElem_mem hn) x (List.mem_of_mem_drop hx)
 | del n a hn h1 h2 hk ha hw ho =>
   have e : stepL ls s = ls.set n (ls[n].take a ++ ls[n].drop (a + 1)) := by simp [stepL, hk, h1, h2, lineAt_nat hn]
   rw [e]
   have := h.each _ (List.getElem_mem hn)
   refine linesOk_set h _ _ (by simp; omega) fun x hx => ?_
   simp only [List.mem_append] at hx
   rcases hx with hx | hx
   · exact h.word _ (List.getElem_mem hn) x (List.mem_of_mem_take hx)
   · exact h.word _ (List.getElem_mem hn) x (List.mem_of_mem_drop hx)
 | rep n a hn h1 h2 hk ha hw ho =>
   have e : stepL ls s = ls.set n (ls[n].set a s.word) := by simp [stepL, hk, h1, h2, lineAt_nat hn]
   rw [e]
   have := h.each _ (List.getElem_mem hn)
   refine linesOk_set h _ _ (by simpa using this) fun x hx => ?_
   rcases List.mem_or_eq_of_mem_set hx with hx | rfl
   · exact h.word _ (List.getElem_mem hn) x hx
   · exact ho
 | brk n a hn h1 h2 hk ha hl hw ho =>
   have e : stepL ls s = ls.take n ++ ls[n].take a :: ls[n].drop a :: ls.drop (n + 1) := by simp [stepL, hk, h1, h2, lineAt_nat hn]
   rw [e]
   have h12 := h.each _ (List.getElem_mem hn)
   have hm : ∀ x ∈ ls.take n ++ ls[n].take a :: ls[n].drop a :: ls.drop (n + 1), x ∈ ls ∨ x = ls[n].take a ∨ x = ls[n].drop a := by
    intro x hx
    simp only [List.mem_append, List.mem_cons] at hx
    rcases hx with hx | rfl | rfl | hx
    · exact .inl (List.mem_of_mem_take hx)
    · exact .inr (.inl rfl)
    · exact .inr (.inr rfl)
    · exact .inl (List.mem_of_mem_drop hx)
   refine ⟨by simp; omega, by simp; omega, fun x hx => ?_, fun x hx => ?_⟩
   · rcases hm x hx with hx | rfl | rfl
     · exact h.each x hx
     · rw [List.length_take]; omega
     · rw [List.length_drop]; omega
   · rcases hm x hx with hx | rfl | rfl
     · exact h.word x hx
     · exact fun y hy => h.word _ (List.getElem_mem hn) y (List.mem_of_mem_take hy)
     · exact fun y hy => h.word _ (List.getElem_mem hn) y (List.mem_of_mem_drop hy)
 | join n a hn h1 h2 hk ha hl hw ho =>
   have e : stepL ls s = ls.take n ++ (ls[n] ++ ls[n + 1]) :: ls.drop (n + 2) := by
    have q1 := lineAt_nat (show n < ls.length by omega)
    have q2 : lineAt ls ((n : Int) + 1) = ls[n + 1] := lineAt_nat hn
    simp only [stepL, hk, h1, q1, q2]; rfl
   rw [e]
   have hm : ∀ x ∈ ls.take n ++ (ls[n] ++ ls[n + 1]) :: ls.drop (n + 2), x ∈ ls ∨ x = ls[n] ++ ls[n + 1] := by
    intro x hx
    simp only [List.mem_append, List.mem_cons] at hx
    rcases hx with hx | rfl | hx
    · exact .inl (List.mem_of_mem_take hx)
    · exact .inr rfl
    · exact .inl (List.mem_of_mem_drop hx)
   have := h.few
   refine ⟨by simp; omega, by simp; omega, fun x hx => ?_, fun x hx => ?_⟩
   · rcases hm x hx with hx | rfl
     · exact h.each x hx
     · rw [List.length_append]; exact hl
   · rcases hm x hx with hx | rfl
     · exact h.word x hx
     · intro y hy
       rcases List.mem_append.1 hy with hy | hy
       · exact h.word _ (List.getElem_mem _) y hy
       · exact h.word _ (List.getElem_mem _) y hy
end
theorem LinesOk.words {ls : List PLine} (h : LinesOk ls) : ∀ l ∈ ls, l.length ≤ 1048576 := fun l hl => by have := h.each l hl; omega
end Go.Proofs.YtboijogahclekaaGreatDoor
