/- append onto a slice of one's own, told by its data. Conditions: none. -/
import Derived.Test.YtkfadfddhbpngaaGreatMarkx
import Derived.Laws.IdiomCopy
import Derived.ArgAppend
import Derived.Lib.AppendZerosOnto
import Derived.Lib.Overlaps
import Derived.Laws.Externs
import Derived.Laws.NewBlocks
import Derived.Deep.RegionLaw
namespace Go.Proofs.YtkfadfddhbpngaaGreat
open Go Go.RowKit

/-- Where a slice's elements' cells lie. -/
def CellsAt (w : World) (A : Option Addr) (cs : List Value) : Prop := 0 < cs.length → ∃ b off, A = some ⟨b, off, none⟩ ∧ ∀ j u, cs[j]? = some u → w.cell? ⟨b, off + j, none⟩ = some u

section
variable {P : Program} {α : Type} {T : Ty α} {t e : TypeId} {z : Value} {bytes : Nat} {w : World} {xs ys : List α} {v : Value} {F Fy : List Nat} {A : Option Addr} {c : Nat} {ec : List Value}
end
end Go.Proofs.YtkfadfddhbpngaaGreat
namespace Go.Proofs.YtkfadfddhbpngaaGreat
open Go Go.RowKit

section
variable {w w' : World} {g : Nat} {e : TypeId} {cs rest : List Value}
theorem Row.cells : ∀ (vs : List Value) (o : Nat) {w : World} {cs : List Value} (_ : Row w g e cs) (_ : o + vs.length ≤ cs.length), Row (w.setCells g o vs) g e (cs.take o ++ vs ++ cs.drop (o + vs.length))
 | [], o, w, cs, h, hl => by simpa [World.setCells] using h
 | v :: r, o, w, cs, h, hl => by
  rw [List.length_cons] at hl
  have h1 := Row.cells r (o + 1) (h.set o v) (by rw [List.length_set]; omega)
  have e1 : (cs.set o v).take (o + 1) = cs.take o ++ [v] := by
   rw [List.take_set, List.take_succ_eq_append_getElem (by omega), List.set_append_right _ _ (by simp; omega)]
   simp [Nat.min_eq_left (show o ≤ cs.length by omega)]
  have e2 : (cs.set o v).drop (o + 1 + r.length) = cs.drop (o + (v :: r).length) := by
   rw [List.drop_set_of_lt (by omega), List.length_cons]; congr 1; omega
  rw [e1, e2] at h1
  rw [World.setCells]
  simpa using h1
theorem Only.cells {F : List Nat} (hg : g ∈ F) : ∀ (vs : List Value) (o : Nat) {a b : World} (_ : Only F a b), Only F a (b.setCells g o vs)
 | [], _, _, _, h => h
 | v :: r, o, _, _, h => Only.cells hg r (o + 1) (h.set (p := ⟨g, o, none⟩) hg v)
theorem Row.shape (h : Row w g e cs) : w.shape? g = some (e, cs.length) := by
 unfold Row at h
 simp [World.shape?, h]
end

section
variable {α : Type} {T : Ty α} {o : Bool} {w w' : World} {xs ys : List α} {cs ds : List Value} {F G : List Nat}
end
end Go.Proofs.YtkfadfddhbpngaaGreat
