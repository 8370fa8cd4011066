/- Slices of truth values; a list of one's own, an element put in its place, and its front. Conditions: none. -/
import Derived.Test.YtkickllohilciaaIntS
import Derived.Test.YtkickllohilciaaAppend
namespace Go.Proofs.Ytkickllohilciaa
open Go Go.RowKit

def boolT : Ty Bool := .flat 1 (fun b => [.bool b]) (fun _ => True) (fun _ => rfl) (by intro a u h; simp at h; subst h; rfl)
def bools (e : TypeId) : Ty (List Bool) := boolT.slice e
theorem boolT_rep {o : Bool} {w : World} {b : Bool} {cs : List Value} {F : List Nat} : boolT.rep o w b cs F ↔ cs = [.bool b] ∧ F = [] :=
  ⟨fun ⟨h1, h2, _⟩ => ⟨h1, h2⟩, fun ⟨h1, h2⟩ => ⟨h1, h2, trivial⟩⟩
theorem bools_open {o : Bool} {w : World} {e : TypeId} {xs : List Bool} {v : Value} {F : List Nat} (h : (bools e).rep o w xs [v] F) :
    ∃ A c, v = .slice A xs.length c ∧ xs.length ≤ c ∧ c ≤ maxLen ∧ ∀ k (hk : k < xs.length), ∃ b off, A = some ⟨b, off, none⟩ ∧ b < w.heap.size ∧ b ∈ F ∧ w.cell? ⟨b, off + k, none⟩ = some (.bool xs[k]) := by
  obtain ⟨A, c, hv, h1, h2, h3⟩ := slice_open h
  refine ⟨A, c, hv, h1, h2, fun k hk => ?_⟩
  obtain ⟨b, off, ck, Fk, hA, hb, hin, hr, _, hc⟩ := h3 k hk
  obtain ⟨rfl, rfl⟩ := boolT_rep.1 hr
  have h0 := hc 0 _ rfl
  rw [show k * boolT.size + 0 = k from Nat.mul_one k] at h0
  exact ⟨b, off, hA, hb, hin, h0⟩
theorem repL_bools {o : Bool} {w : World} : ∀ (xs : List Bool), repL boolT o w xs (xs.map .bool) []
  | [] => ⟨rfl, rfl⟩
  | s :: r => ⟨[.bool s], _, [], [], rfl, rfl, boolT_rep.2 ⟨rfl, rfl⟩, repL_bools r⟩
theorem repL_bools_inv {o : Bool} {w : World} : ∀ {xs : List Bool} {cs : List Value} {F : List Nat}, repL boolT o w xs cs F → cs = xs.map .bool ∧ F = []
  | [], _, _, ⟨rfl, rfl⟩ => ⟨rfl, rfl⟩
  | s :: r, _, _, ⟨c1, c2, F1, F2, rfl, rfl, h1, h2⟩ => by
    obtain ⟨rfl, rfl⟩ := boolT_rep.1 h1
    obtain ⟨rfl, rfl⟩ := repL_bools_inv h2
    exact ⟨rfl, rfl⟩
/-- An element of one's own list is put in its place. -/
theorem bools_set {w : World} {e : TypeId} {us : List Bool} {v : Value} {F : List Nat} {k : Nat} (h : (bools e).rep true w us [v] F) (hk : k < us.length) :
    ∃ g c, v = .slice (some ⟨g, 0, none⟩) us.length c ∧ F = [g] ∧ g < w.heap.size ∧ w.cell? ⟨g, k, none⟩ = some (.bool us[k]) ∧ w.frozen? ⟨g, k, none⟩ = false ∧ ∀ b, (bools e).rep true (w.setCell ⟨g, k, none⟩ (.bool b)) (us.set k b) [v] F := by
  obtain ⟨g, c, cs, rest, G, rfl, hl, hc, hrow, hrp, hlen, rfl⟩ := row_of_slice h (by omega)
  obtain ⟨rfl, rfl⟩ := repL_bools_inv hrp
  refine ⟨g, c, rfl, rfl, hrow.lt, hrow.cell' ?_, hrow.frozen k, fun b => ?_⟩
  · rw [List.getElem?_append_left (by simpa using hk)]
    simp [hk]
  · have hs := hrow.set k (.bool b)
    rw [List.set_append_left _ _ (by simpa using hk)] at hs
    refine slice_of_room (cs := (us.set k b).map .bool) (rest := rest) (by simpa using hs) (repL_bools _) (by simp) hl hc (by simpa using hlen)
/-- The front of one's own numbers. -/
theorem nums_front {w : World} {e : TypeId} {us : List Int} {v : Value} {F : List Nat} {k : Nat} (h : (nums e).rep true w us [v] F) (hk : k < us.length) :
    ∃ g c, v = .slice (some ⟨g, 0, none⟩) us.length c ∧ F = [g] ∧ us.length ≤ c ∧ (nums e).rep true w (us.take k) [.slice (some ⟨g, 0, none⟩) k c] F := by
  have hok := nums_ok h
  obtain ⟨g, c, cs, rest, G, rfl, hl, hc, hrow, hrp, hlen, rfl⟩ := row_of_slice h (by omega)
  obtain ⟨rfl, rfl⟩ := repL_nums_inv hrp
  refine ⟨g, c, rfl, rfl, hl, ?_⟩
  have hs : Row w g e ((us.take k).map (.int .i64) ++ ((us.drop k).map (.int .i64) ++ rest)) := by
    rw [← List.append_assoc, ← List.map_append, List.take_append_drop]
    exact hrow
  refine slice_of_room hs (repL_nums _ (fun s hs => hok s (List.mem_of_mem_take hs))) (by rw [List.length_take]; omega) (by omega) hc ?_
  rw [← hlen, ← List.append_assoc, ← List.map_append, List.take_append_drop]
end Go.Proofs.Ytkickllohilciaa
