/- The type TextLine: the law's own to and sz over it. Conditions: none. -/
import Derived.Test.YtahoopmiipmgpaaDoorTyLine
namespace Go.Proofs.YtahoopmiipmgpaaDoor
open Go Go.RowKit

section
variable {α : Type} {T : Ty α} {o : Bool} {w w' : World} {xs : List α} {cs : List Value} {F G : List Nat}
theorem repL_below (h : repL T o w xs cs F) (hb : Below w.heap.size w w') : repL T o w' xs cs F := repL_kept h fun b hin => hb.block b (repL_lt h b hin)
theorem repL_set (h : repL T o w xs cs F) {p : Addr} (hp : p.block ∉ F) (u : Value) : repL T o (w.setCell p u) xs cs F := repL_kept h fun b hin => Below.heap_setCell w p u b (fun e => hp (e ▸ hin))
theorem repL_only (h : repL T o w xs cs F) (ho : Only G w w') (hd : ∀ x ∈ F, x ∉ G) : repL T o w' xs cs F := repL_kept h fun b hin => ho.block b (repL_lt h b hin) (hd b hin)
end



/-- What lines weigh. -/
def szLines (xs : List PLine) : Nat := xs.length + (xs.map szStrs).sum
theorem szLines_take (xs : List PLine) (k : Nat) (h : k < xs.length) : ((xs.take (k+1)).map szStrs).sum = ((xs.take k).map szStrs).sum + szStrs xs[k] := by
  rw [List.take_succ_eq_append_getElem h, List.map_append, List.sum_append]; simp
theorem mem_sum {l : List Nat} {n : Nat} (h : n ∈ l) : n ≤ l.sum := by
  induction l with
  | nil => cases h
  | cons a r ih =>
    rw [List.sum_cons]
    rcases List.mem_cons.1 h with rfl | h
    · omega
    · have := ih h; omega
theorem szStrs_each {xs : List ByteArray} {n : Nat} (h : szStrs xs ≤ n) : xs.length ≤ n ∧ ∀ s ∈ xs, s.size ≤ n := by
  unfold szStrs at h
  refine ⟨by omega, fun s hs => ?_⟩
  have := mem_sum (List.mem_map.2 ⟨s, hs, rfl⟩ : s.size ∈ xs.map ByteArray.size)
  omega
theorem szLines_each {xs : List PLine} {n : Nat} (h : szLines xs ≤ n) : xs.length ≤ n ∧ ∀ l ∈ xs, l.length ≤ n ∧ ∀ s ∈ l, s.size ≤ n := by
  unfold szLines at h
  refine ⟨by omega, fun l hl => szStrs_each ?_⟩
  have := mem_sum (List.mem_map.2 ⟨l, hl, rfl⟩ : szStrs l ∈ xs.map szStrs)
  omega

end Go.Proofs.YtahoopmiipmgpaaDoor
