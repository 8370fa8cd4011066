/- The type Confusion: its data, how it lies in memory, and the law's own helpers over it. Conditions: none. -/
import Derived.Test.YtkkignkoneeieaaGreatRows
import Derived.Test.YtkkignkoneeieaaGreatStrSm
namespace Go.Proofs.YtkkignkoneeieaaGreat
open Go Go.RowKit

structure PConf where
  want : ByteArray
  got : ByteArray
  count : Int
  deriving DecidableEq

def pConf : Ty PConf := (str.prod (str.prod int64)).via fun s => (s.want, s.got, s.count)
theorem pConf_rep {o : Bool} {w : World} {s : PConf} {cs : List Value} {F : List Nat} : pConf.rep o w s cs F ↔ cs = [.string s.want, .string s.got, .int .i64 s.count] ∧ F = [] ∧ s.want.size ≤ maxLen ∧ s.got.size ≤ maxLen ∧ I64 s.count := by
  constructor
  · rintro ⟨_, _, _, _, rfl, rfl, ⟨rfl, rfl, h0⟩, ⟨_, _, _, _, rfl, rfl, ⟨rfl, rfl, h1⟩, ⟨rfl, rfl, h2⟩⟩⟩
    exact ⟨rfl, rfl, h0, h1, h2⟩
  · rintro ⟨rfl, rfl, h0, h1, h2⟩
    exact ⟨_, _, [], [], rfl, rfl, ⟨rfl, rfl, h0⟩, ⟨_, _, [], [], rfl, rfl, ⟨rfl, rfl, h1⟩, ⟨rfl, rfl, h2⟩⟩⟩
def pConfs (e : TypeId) : Ty (List PConf) := pConf.slice e
theorem pConfs_open {o : Bool} {w : World} {e : TypeId} {xs : List PConf} {v : Value} {F : List Nat} (h : (pConfs e).rep o w xs [v] F) :
    ∃ A c, v = .slice A xs.length c ∧ xs.length ≤ c ∧ c ≤ maxLen ∧ ∀ k (hk : k < xs.length), ∃ b off, A = some ⟨b, off, none⟩ ∧ b < w.heap.size ∧ b ∈ F ∧
      w.cell? ⟨b, off + k * 3, none⟩ = some (.string xs[k].want) ∧ w.cell? ⟨b, off + k * 3 + 1, none⟩ = some (.string xs[k].got) ∧ w.cell? ⟨b, off + k * 3 + 2, none⟩ = some (.int .i64 xs[k].count) ∧ xs[k].want.size ≤ maxLen ∧ xs[k].got.size ≤ maxLen ∧ I64 xs[k].count := by
  obtain ⟨A, c, hv, h1, h2, h3⟩ := slice_open h
  refine ⟨A, c, hv, h1, h2, fun k hk => ?_⟩
  obtain ⟨b, off, ck, Fk, hA, hb, hin, hr, _, hc⟩ := h3 k hk
  obtain ⟨rfl, rfl, i0, i1, i2⟩ := pConf_rep.1 hr
  exact ⟨b, off, hA, hb, hin, hc 0 _ rfl, by rw [Nat.add_assoc]; exact hc 1 _ rfl, by rw [Nat.add_assoc]; exact hc 2 _ rfl, i0, i1, i2⟩
def pConfCells (s : PConf) : List Value := [.string s.want, .string s.got, .int .i64 s.count]
def pConfOk (s : PConf) : Prop := s.want.size ≤ maxLen ∧ s.got.size ≤ maxLen ∧ I64 s.count
theorem pConfCells_len (xs : List PConf) : (xs.flatMap pConfCells).length = xs.length * 3 := by
  induction xs with
  | nil => rfl
  | cons a r ih => simp only [List.flatMap_cons, List.length_append, ih, List.length_cons]; simp [pConfCells]; omega
theorem repL_pConf {o : Bool} {w : World} : ∀ (xs : List PConf), (∀ s ∈ xs, pConfOk s) → repL pConf o w xs (xs.flatMap pConfCells) []
  | [], _ => ⟨rfl, rfl⟩
  | s :: r, h => ⟨_, _, [], [], rfl, rfl, pConf_rep.2 ⟨rfl, rfl, h s (by simp)⟩, repL_pConf r (fun t ht => h t (by simp [ht]))⟩
theorem repL_pConf_inv {o : Bool} {w : World} : ∀ {xs : List PConf} {cs : List Value} {F : List Nat}, repL pConf o w xs cs F → cs = xs.flatMap pConfCells ∧ F = []
  | [], _, _, ⟨rfl, rfl⟩ => ⟨rfl, rfl⟩
  | s :: r, _, _, ⟨c1, c2, F1, F2, rfl, rfl, h1, h2⟩ => by
    obtain ⟨rfl, rfl, _⟩ := pConf_rep.1 h1
    obtain ⟨rfl, rfl⟩ := repL_pConf_inv h2
    exact ⟨rfl, rfl⟩
theorem pConfs_ok {o : Bool} {w : World} {e : TypeId} {xs : List PConf} {v : Value} {F : List Nat} (h : (pConfs e).rep o w xs [v] F) : ∀ s ∈ xs, pConfOk s := by
  obtain ⟨_, _, _, _, _, hr⟩ := pConfs_open h
  intro s hs
  obtain ⟨k, hk, rfl⟩ := List.getElem_of_mem hs
  obtain ⟨_, _, _, _, _, _, _, _, h⟩ := hr k hk
  exact h

/-- What one weighs. -/
def pConfW (s : PConf) : Nat := s.want.size + s.got.size
/-- The marks from number s on. -/
def markPConf (n s : Nat) : List PConf := (List.range n).map fun i : Nat => ⟨markB (s + i * 3), markB (s + i * 3 + 1), (s : Int) + (i : Int) * 3 + 1 + 1⟩
theorem markPConf_len (n s : Nat) : (markPConf n s).length = n := by simp [markPConf]
theorem markPConf_succ (n s : Nat) : markPConf (n + 1) s = markPConf n s ++ [⟨markB (s + n * 3), markB (s + n * 3 + 1), (s : Int) + (n : Int) * 3 + 1 + 1⟩] := by simp [markPConf, List.range_succ]
theorem markPConf_ok (n s : Nat) (hn : n ≤ 1048576) (hs : s ≤ 10000000) : ∀ x ∈ markPConf n s, pConfOk x := by
  intro x hx
  obtain ⟨i, hi, rfl⟩ := List.mem_map.1 hx
  have hi' : i < n := by simpa using hi
  refine ⟨by have := markB_size (s + i * 3); simp only [maxLen]; omega, by have := markB_size (s + i * 3 + 1); simp only [maxLen]; omega, ⟨by dsimp only; omega, by dsimp only; omega⟩⟩
end Go.Proofs.YtkkignkoneeieaaGreat
