/- The type Step: its data, how it lies in memory, and the law's own helpers over it. Conditions: none. -/
import Derived.Test.YtkfadfddhbpngaaGreatRows
import Derived.Test.YtkfadfddhbpngaaGreatStrSz
import Derived.Laws.IdiomStrings
namespace Go.Proofs.YtkfadfddhbpngaaGreat
open Go Go.RowKit

structure PStep where
  kind : Int
  line : Int
  pos : Int
  word : ByteArray
  old : ByteArray
  deriving DecidableEq

def pStep : Ty PStep := (int64.prod (int64.prod (int64.prod (str.prod str)))).via fun s => (s.kind, s.line, s.pos, s.word, s.old)
def pSteps (e : TypeId) : Ty (List PStep) := pStep.slice e
end Go.Proofs.YtkfadfddhbpngaaGreat
namespace Go.Proofs.YtkfadfddhbpngaaGreat
open Go Go.RowKit

abbrev PLine := List ByteArray
def pLine : Ty PLine := strs 9
def pLines (e : TypeId) : Ty (List PLine) := pLine.slice e
end Go.Proofs.YtkfadfddhbpngaaGreat
namespace Go.Proofs.YtkfadfddhbpngaaGreat
open Go Go.RowKit

structure PPage where
  lines : List PLine
  done : List PStep
  undone : List PStep
  deriving DecidableEq

/-- A page's value. -/
def PageIs (el es : TypeId) (o : Bool) (w : World) (p : PPage) (v : Value) (F : List Nat) : Prop :=
  ∃ a b c F1 F2 F3, v = .agg #[a, b, c] ∧ F = F1 ++ (F2 ++ F3) ∧ (pLines el).rep o w p.lines [a] F1 ∧ (pSteps es).rep o w p.done [b] F2 ∧ (pSteps es).rep o w p.undone [c] F3
section
variable {el es : TypeId} {o : Bool} {w w' : World} {p : PPage} {v : Value} {F G : List Nat}
theorem PageIs.below (h : PageIs el es o w p v F) (hb : Below w.heap.size w w') : PageIs el es o w' p v F := by
  obtain ⟨a, b, c, F1, F2, F3, rfl, rfl, h1, h2, h3⟩ := h
  exact ⟨a, b, c, F1, F2, F3, rfl, rfl, h1.below hb, h2.below hb, h3.below hb⟩
theorem PageIs.only (h : PageIs el es o w p v F) (hb : Only G w w') (hd : ∀ x ∈ F, x ∉ G) : PageIs el es o w' p v F := by
  obtain ⟨a, b, c, F1, F2, F3, rfl, rfl, h1, h2, h3⟩ := h
  exact ⟨a, b, c, F1, F2, F3, rfl, rfl, h1.only hb (fun x hx => hd x (by simp [hx])), h2.only hb (fun x hx => hd x (by simp [hx])), h3.only hb (fun x hx => hd x (by simp [hx]))⟩
theorem PageIs.blocks (h : PageIs el es o w p v F) : ∀ x ∈ F, x < w.heap.size := by
  obtain ⟨a, b, c, F1, F2, F3, rfl, rfl, h1, h2, h3⟩ := h
  intro x hx
  simp only [List.mem_append] at hx
  rcases hx with hx | hx | hx
  · exact h1.blocks x hx
  · exact h2.blocks x hx
  · exact h3.blocks x hx
theorem Row.only {g : Nat} {e : TypeId} {cs : List Value} (h : Row w g e cs) (ho : Only F w w') (hg : g ∉ F) : Row w' g e cs := (ho.block g h.lt hg).trans h
end

end Go.Proofs.YtkfadfddhbpngaaGreat
namespace Go.Proofs.YtkfadfddhbpngaaGreat
open Go Go.RowKit

def letterB (c : UInt8) : Bool := decide (97 ≤ c.toNat) && decide (c.toNat ≤ 122)
def isWordB (s : ByteArray) : Bool := s.data.toList.all letterB && (decide (1 ≤ s.size) && decide (s.size ≤ 10))
/-- Lines that are valid. -/
structure LinesOk (ls : List PLine) : Prop where
  one : 1 ≤ ls.length
  few : ls.length ≤ 20
  each : ∀ l ∈ ls, l.length ≤ 12
  word : ∀ l ∈ ls, ∀ s ∈ l, isWordB s = true
def inRP (n a b : Int) : Bool := decide (a ≤ n) && decide (n ≤ b)
end Go.Proofs.YtkfadfddhbpngaaGreat
namespace Go.Proofs.YtkfadfddhbpngaaGreat
open Go Go.RowKit

section
variable {ls : List PLine} {s : PStep}
end
theorem LinesOk.words {ls : List PLine} (h : LinesOk ls) : ∀ l ∈ ls, l.length ≤ 1048576 := fun l hl => by have := h.each l hl; omega
end Go.Proofs.YtkfadfddhbpngaaGreat
namespace Go.Proofs.YtkfadfddhbpngaaGreat
open Go Go.RowKit

theorem ret_boolF {a b : Bool} (h : a = b) : Ending.returned (.bool a) = .returned (.bool b) := by rw [h]
/-- An index that tells whether there is such an element. -/
def FoundAt (b : Bool) (w : World) (e : Ending) (w' : World) : Prop := ∃ r : Int, e = .returned (.int .i64 r) ∧ (decide (0 ≤ r)) = b ∧ Below w.heap.size w w'

end Go.Proofs.YtkfadfddhbpngaaGreat
namespace Go.Proofs.YtkfadfddhbpngaaGreat
open Go Go.RowKit

theorem bytes_of_string {P : Program} {src dst e : TypeId} (s : ByteArray) (w : World) (hs : P.underlying src = some .string) (hd : P.underlying dst = some (.slice e)) (he : P.underlying e = some (.int .u8)) (hm : s.size ≤ 9223372036854775807) :
    ∃ c w1, (convert src dst (.string s)).run P w = .ok (.slice (some ⟨w.heap.size, 0, none⟩) s.size c) w1 ∧ Below w.heap.size w w1 ∧ s.size ≤ c ∧ c ≤ maxLen ∧
      ∀ k (hk : k < s.size), w1.cell? ⟨w.heap.size, k, none⟩ = some (.int .u8 (s[k].toNat : Int)) := by
  refine ⟨_, _, run_bytes_of_string w src dst e s hs hd he, (Below.refl _ _).drew.alloc (Nat.le_refl _) _, grownCap_ge _ _ _ _, grownCap_le_maxLen _ _ _ _ (by unfold maxLen; omega), fun k hk => ?_⟩
  have h : (w.drew.alloc (.cells (bytesRow s (grownCap w s.size 0 e)) e ((bytesRow s (grownCap w s.size 0 e)).size, (bytesRow s (grownCap w s.size 0 e)).size + 1))).heap[w.heap.size]? = some (.cells (bytesRow s (grownCap w s.size 0 e)) e ((bytesRow s (grownCap w s.size 0 e)).size, (bytesRow s (grownCap w s.size 0 e)).size + 1)) := by
    show (w.heap.push _)[w.heap.size]? = _
    simp
  simp only [World.cell?, h]
  have hk' : k < (s.data.map (fun b => Value.int .u8 b.toNat)).size := by simpa using hk
  simp only [bytesRow]
  rw [Array.getElem?_append_left hk', Array.getElem?_eq_getElem hk']
  simp
  rfl
theorem all_take {p : UInt8 → Bool} {s : ByteArray} {k : Nat} (hk : k < s.size) : (s.data.toList.take (k + 1)).all p = ((s.data.toList.take k).all p && p s[k]) := by
  rw [List.take_succ_eq_append_getElem (by simpa using hk), List.all_append]
  simp
  rfl
theorem all_stop {p : UInt8 → Bool} {s : ByteArray} {k : Nat} (hk : k < s.size) (h : p s[k] = false) : s.data.toList.all p = false := by
  rw [List.all_eq_false]
  exact ⟨s[k], by show s.data[k] ∈ _; simp, by simp [h]⟩
theorem all_whole {p : UInt8 → Bool} {s : ByteArray} (h : (s.data.toList.take s.size).all p = true) : s.data.toList.all p = true := by
  rwa [List.take_of_length_le (by simp)] at h
end Go.Proofs.YtkfadfddhbpngaaGreat
