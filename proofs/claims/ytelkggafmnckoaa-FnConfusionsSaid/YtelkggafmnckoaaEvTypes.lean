/- The data of the chapter on evaluation, and how they lie in memory. Conditions: none. -/
import Derived.Test.YtelkggafmnckoaaLaw
namespace Go.Proofs.Ytelkggafmnckoaa
open Go Go.RowKit

structure AStep where
  op : Int
  i : Int
  j : Int
  deriving DecidableEq

def astep : Ty AStep := (int64.prod (int64.prod int64)).via fun s => (s.op, s.i, s.j)
theorem astep_rep {o : Bool} {w : World} {s : AStep} {cs : List Value} {F : List Nat} : astep.rep o w s cs F ↔ cs = [.int .i64 s.op, .int .i64 s.i, .int .i64 s.j] ∧ F = [] ∧ I64 s.op ∧ I64 s.i ∧ I64 s.j := by
  constructor
  · rintro ⟨_, _, _, _, rfl, rfl, ⟨rfl, rfl, h1⟩, _, _, _, _, rfl, rfl, ⟨rfl, rfl, h2⟩, ⟨rfl, rfl, h3⟩⟩
    exact ⟨rfl, rfl, h1, h2, h3⟩
  · rintro ⟨rfl, rfl, h1, h2, h3⟩
    exact ⟨_, _, [], [], rfl, rfl, ⟨rfl, rfl, h1⟩, _, _, [], [], rfl, rfl, ⟨rfl, rfl, h2⟩, ⟨rfl, rfl, h3⟩⟩
def asteps (e : TypeId) : Ty (List AStep) := astep.slice e

/-- A slice of steps, as a walk reads it. -/
theorem asteps_open {o : Bool} {w : World} {e : TypeId} {xs : List AStep} {v : Value} {F : List Nat} (h : (asteps e).rep o w xs [v] F) :
    ∃ A c, v = .slice A xs.length c ∧ xs.length ≤ c ∧ c ≤ maxLen ∧ ∀ k (hk : k < xs.length), ∃ b off, A = some ⟨b, off, none⟩ ∧ b < w.heap.size ∧ b ∈ F ∧
      w.cell? ⟨b, off + k * 3, none⟩ = some (.int .i64 xs[k].op) ∧ w.cell? ⟨b, off + k * 3 + 1, none⟩ = some (.int .i64 xs[k].i) ∧ w.cell? ⟨b, off + k * 3 + 2, none⟩ = some (.int .i64 xs[k].j) ∧ I64 xs[k].op ∧ I64 xs[k].i ∧ I64 xs[k].j := by
  obtain ⟨A, c, hv, h1, h2, h3⟩ := slice_open h
  refine ⟨A, c, hv, h1, h2, fun k hk => ?_⟩
  obtain ⟨b, off, ck, Fk, hA, hb, hin, hr, _, hc⟩ := h3 k hk
  obtain ⟨rfl, rfl, i1, i2, i3⟩ := astep_rep.1 hr
  exact ⟨b, off, hA, hb, hin, hc 0 _ rfl, by rw [Nat.add_assoc]; exact hc 1 _ rfl, by rw [Nat.add_assoc]; exact hc 2 _ rfl, i1, i2, i3⟩

end Go.Proofs.Ytelkggafmnckoaa
