/- Pages as plain data: which lines, steps and pages are valid, and what a step does. No program is named here. Conditions: none. -/
import Derived.Test.YtkfadfddhbpngaaGreatTyPagev
import Derived.Test.YtkfadfddhbpngaaGreatStrSv
import Derived.Laws.IdiomStrings
namespace Go.Proofs.YtkfadfddhbpngaaGreat
open Go Go.RowKit

def letterB (c : UInt8) : Bool := decide (97 ≤ c.toNat) && decide (c.toNat ≤ 122)
def isWordB (s : ByteArray) : Bool := s.data.toList.all letterB && (decide (1 ≤ s.size) && decide (s.size ≤ 10))
/-- Lines that are valid. -/
structure LinesOk (ls : List PLine) : Prop where
 one : 1 ≤ ls.length
 few : ls.length ≤ 20
 each : ∀ l ∈ ls, l.length ≤ 12
 word : ∀ l ∈ ls, ∀ s ∈ l, isWordB s = true
end Go.Proofs.YtkfadfddhbpngaaGreat
namespace Go.Proofs.YtkfadfddhbpngaaGreat
open Go Go.RowKit

section
variable {ls : List PLine} {s : PStep}
end
theorem LinesOk.words {ls : List PLine} (h : LinesOk ls) : ∀ l ∈ ls, l.length ≤ 1048576 := fun l hl => by have := h.each l hl; omega
end Go.Proofs.YtkfadfddhbpngaaGreat
namespace Go.Proofs.YtkfadfddhbpngaaGreat
open Go Go.RowKit

theorem ret_boolF {a b : Bool} (h : a = b) : Ending.returned (.bool a) = .returned (.bool b) := by rw [h]
/-- An index that tells whether there is such an element. -/
def FoundAt (b : Bool) (w : World) (e : Ending) (w' : World) : Prop := ∃ r : Int, e = .returned (.int .i64 r) ∧ (decide (0 ≤ r)) = b ∧ Below w.heap.size w w'

end Go.Proofs.YtkfadfddhbpngaaGreat
namespace Go.Proofs.YtkfadfddhbpngaaGreat
open Go Go.RowKit

theorem bytes_of_string {P : Program} {src dst e : TypeId} (s : ByteArray) (w : World) (hs : P.underlying src = some .string) (hd : P.underlying dst = some (.slice e)) (he : P.underlying e = some (.int .u8)) (hm : s.size ≤ 9223372036854775807) :
 ∃ c w1, (convert src dst (.string s)).run P w = .ok (.slice (some ⟨w.heap.size, 0, none⟩) s.size c) w1 ∧ Below w.heap.size w w1 ∧ s.size ≤ c ∧ c ≤ maxLen ∧
  ∀ k (hk : k < s.size), w1.cell? ⟨w.heap.size, k, none⟩ = some (.int .u8 (s[k].toNat : Int)) := by
 refine ⟨_, _, run_bytes_of_string w src dst e s hs hd he, (Below.refl _ _).drew.alloc (Nat.le_refl _) _, grownCap_ge _ _ _ _, grownCap_le_maxLen _ _ _ _ (by unfold maxLen; omega), fun k hk => ?_⟩
 have h : (w.drew.alloc (.cells (bytesRow s (grownCap w s.size 0 e)) e ((bytesRow s (grownCap w s.size 0 e)).size, (bytesRow s (grownCap w s.size 0 e)).size + 1))).heap[w.heap.size]? = some (.cells (bytesRow s (grownCap w s.size 0 e)) e ((bytesRow s (grownCap w s.size 0 e)).size, (bytesRow s (grownCap w s.size 0 e)).size + 1)) := by
  show (w.heap.push _)[w.heap.size]? = _
  simp
 simp only [World.cell?, h]
 have hk' : k < (s.data.map (fun b => Value.int .u8 b.toNat)).size := by simpa using hk
 simp only [bytesRow]
 rw [Array.getElem?_append_left hk', Array.getElem?_eq_getElem hk']
 simp
 rfl
theorem all_take {p : UInt8 → Bool} {s : ByteArray} {k : Nat} (hk : k < s.size) : (s.data.toList.take (k + 1)).all p = ((s.data.toList.take k).all p && p s[k]) := by
 rw [List.take_succ_eq_append_getElem (by simpa using hk), List.all_append]
 simp
 rfl
theorem all_stop {p : UInt8 → Bool} {s : ByteArray} {k : Nat} (hk : k < s.size) (h : p s[k] = false) : s.data.toList.all p = false := by
 rw [List.all_eq_false]
 exact ⟨s[k], by show s.data[k] ∈ _; simp, by simp [h]⟩
theorem all_whole {p : UInt8 → Bool} {s : ByteArray} (h : (s.data.toList.take s.size).all p = true) : s.data.toList.all p = true := by
 rwa [List.take_of_length_le (by simp)] at h
end Go.Proofs.YtkfadfddhbpngaaGreat
