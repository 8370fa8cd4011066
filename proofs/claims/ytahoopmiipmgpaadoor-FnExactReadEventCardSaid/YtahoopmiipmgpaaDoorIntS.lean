/- Slices of numbers: the law's own eq, mark, held. Conditions: none. -/
import Derived.Test.YtahoopmiipmgpaaDoorStrS
namespace Go.Proofs.YtahoopmiipmgpaaDoor
open Go Go.RowKit

def nums (e : TypeId) : Ty (List Int) := int64.slice e
theorem nums_open {o : Bool} {w : World} {e : TypeId} {xs : List Int} {v : Value} {F : List Nat} (h : (nums e).rep o w xs [v] F) :
    ∃ A c, v = .slice A xs.length c ∧ xs.length ≤ c ∧ c ≤ maxLen ∧ ∀ k (hk : k < xs.length), ∃ b off, A = some ⟨b, off, none⟩ ∧ b < w.heap.size ∧ b ∈ F ∧ w.cell? ⟨b, off + k, none⟩ = some (.int .i64 xs[k]) ∧ I64 xs[k] := by
  obtain ⟨A, c, hv, h1, h2, h3⟩ := slice_open h
  refine ⟨A, c, hv, h1, h2, fun k hk => ?_⟩
  obtain ⟨b, off, ck, Fk, hA, hb, hin, hr, _, hc⟩ := h3 k hk
  obtain ⟨rfl, rfl, i1⟩ := int64_rep.1 hr
  have h0 := hc 0 _ rfl
  rw [show k * int64.size + 0 = k from Nat.mul_one k] at h0
  exact ⟨b, off, hA, hb, hin, h0, i1⟩
theorem nums_ok {o : Bool} {w : World} {e : TypeId} {xs : List Int} {v : Value} {F : List Nat} (h : (nums e).rep o w xs [v] F) : ∀ s ∈ xs, I64 s := by
  obtain ⟨_, _, _, _, _, hr⟩ := nums_open h
  intro s hs
  obtain ⟨k, hk, rfl⟩ := List.getElem_of_mem hs
  obtain ⟨_, _, _, _, _, _, h⟩ := hr k hk
  exact h
theorem repL_nums {o : Bool} {w : World} : ∀ (xs : List Int), (∀ s ∈ xs, I64 s) → repL int64 o w xs (xs.map (.int .i64)) []
  | [], _ => ⟨rfl, rfl⟩
  | s :: r, h => ⟨[.int .i64 s], _, [], [], rfl, rfl, int64_rep.2 ⟨rfl, rfl, h s (by simp)⟩, repL_nums r (fun t ht => h t (by simp [ht]))⟩
theorem repL_nums_inv {o : Bool} {w : World} : ∀ {xs : List Int} {cs : List Value} {F : List Nat}, repL int64 o w xs cs F → cs = xs.map (.int .i64) ∧ F = []
  | [], _, _, ⟨rfl, rfl⟩ => ⟨rfl, rfl⟩
  | s :: r, _, _, ⟨c1, c2, F1, F2, rfl, rfl, h1, h2⟩ => by
    obtain ⟨rfl, rfl, _⟩ := int64_rep.1 h1
    obtain ⟨rfl, rfl⟩ := repL_nums_inv h2
    exact ⟨rfl, rfl⟩


/-- The marks from number s on. -/
def markN (n s : Nat) : List Int := (List.range n).map fun i : Nat => (s : Int) + (i : Int)
theorem markN_len (n s : Nat) : (markN n s).length = n := by simp [markN]
theorem markN_succ (n s : Nat) : markN (n + 1) s = markN n s ++ [(s : Int) + (n : Int)] := by simp [markN, List.range_succ]
theorem markN_ok (n s : Nat) (hn : n ≤ 1048576) (hs : s ≤ 10000000) : ∀ x ∈ markN n s, I64 x := by
  intro x hx
  obtain ⟨i, hi, rfl⟩ := List.mem_map.1 hx
  have hi' : i < n := by simpa using hi
  exact ⟨by omega, by omega⟩


end Go.Proofs.YtahoopmiipmgpaaDoor
