/- Pages: lines after a step, in the reference: the other kinds. Conditions: none. -/
import Derived.Test.YtahoopmiipmgpaaDoorPgApply
namespace Go.Proofs.YtahoopmiipmgpaaDoor
open Go Go.RowKit

theorem brk_nodup {G1 F2 F3 F4 : List Nat} {a b c : Nat} (hab : a ≤ b) (hbc : b ≤ c) (h1 : ∀ x ∈ G1, x < a) (h2n : F2.Nodup) (h2 : ∀ x ∈ F2, a ≤ x ∧ x < b) (h3n : F3.Nodup) (h3 : ∀ x ∈ F3, b ≤ x ∧ x < c) (h4n : F4.Nodup) (h4 : ∀ x ∈ F4, x ∈ G1 ∨ c ≤ x) : (F4 ++ (F2 ++ (F3 ++ []))).Nodup := by
  refine nodup_app h4n (nodup_app h2n (by simpa using h3n) fun x k1 k2 => ?_) fun x k1 k2 => ?_
  · have := h2 x k1; have := h3 x (by simpa using k2); omega
  · have h5 : a ≤ x ∧ x < c := by
      rcases List.mem_append.1 k2 with k | k
      · have := h2 x k; omega
      · have := h3 x (by simpa using k); omega
    rcases h4 x k1 with k | k
    · have := h1 x k; omega
    · omega
theorem brk_in {G1 F2 F3 F4 F5 : List Nat} {a b c N : Nat} (h5 : ∀ x ∈ F5, x ∈ F4 ++ (F2 ++ (F3 ++ [])) ∨ N ≤ x) (hab : a ≤ b) (hbc : b ≤ c) (hN : a ≤ N) (h2 : ∀ x ∈ F2, a ≤ x) (h3 : ∀ x ∈ F3, b ≤ x) (h4 : ∀ x ∈ F4, x ∈ G1 ∨ c ≤ x) : ∀ x ∈ F5, x ∈ G1 ∨ a ≤ x := by
  intro x hx
  rcases h5 x hx with h | h
  · simp only [List.mem_append, List.not_mem_nil, or_false] at h
    rcases h with h | h | h
    · rcases h4 x h with k | k
      · exact .inl k
      · exact .inr (by omega)
    · exact .inr (h2 x h)
    · exact .inr (by have := h3 x h; omega)
  · exact .inr (by omega)
theorem join_nodup {G1 Gk G2 F2 F3 : List Nat} {a b : Nat} (FN : G1.Nodup ∧ (Gk ++ G2).Nodup ∧ ∀ x ∈ G1, ∀ y ∈ Gk ++ G2, x ≠ y) (_ : Gk.Nodup) (h2n : F2.Nodup) (h3n : F3.Nodup) (h2 : ∀ x ∈ F2, x ∈ G1 ∨ a ≤ x) (h3 : ∀ x ∈ F3, x ∈ Gk ∨ b ≤ x) (h2b : ∀ x ∈ F2, x < b) (hk : ∀ x ∈ Gk, x < a) (_ : a + 1 ≤ b) : (F2 ++ F3).Nodup := by
  refine nodup_app h2n h3n fun x k1 k2 => ?_
  rcases h3 x k2 with k | k
  · rcases h2 x k1 with k' | k'
    · exact FN.2.2 x k' x (by simp [k]) rfl
    · have := hk x k; omega
  · have := h2b x k1; omega
theorem join_in {G1 Gk F2 F3 F4 : List Nat} {a b N : Nat} (h4 : ∀ x ∈ F4, x ∈ F2 ++ F3 ∨ N ≤ x) (h2 : ∀ x ∈ F2, x ∈ G1 ∨ a ≤ x) (h3 : ∀ x ∈ F3, x ∈ Gk ∨ b ≤ x) (hab : a ≤ b) (hN : a ≤ N) : ∀ x ∈ F4, x ∈ G1 ∨ x ∈ Gk ∨ a ≤ x := by
  intro x hx
  rcases h4 x hx with h | h
  · rcases List.mem_append.1 h with h | h
    · rcases h2 x h with k | k
      · exact .inl k
      · exact .inr (.inr k)
    · rcases h3 x h with k | k
      · exact .inr (.inl k)
      · exact .inr (.inr (by omega))
  · exact .inr (.inr (by omega))
theorem own_parts2 {w : World} {e : TypeId} {g c n : Nat} {c1 c3 rest : List Value} {ck cn : Value} {AD : Addr} (hrow : Row w g e (c1 ++ (ck :: (cn :: (c3 ++ rest))))) (hl1 : c1.length = n) (hlen : (c1 ++ (ck :: (cn :: (c3 ++ rest)))).length = c)
    (hif : (if c = n + 2 then (some ⟨g, 0, none⟩ : Option Addr) else some ⟨g, n + 2, none⟩) = some AD) : CellsAt w (some AD) c3 := by
  have h : Row w g e ((c1 ++ (ck :: cn :: c3)) ++ rest) := by simpa using hrow
  obtain ⟨AD', h1, h2⟩ := row_drop (c := c) h (n + 2) (by simpa using hlen) (by simp; omega)
  rw [show (c1 ++ ck :: cn :: c3).drop (n + 2) = c3 from by rw [← List.drop_drop, List.drop_left' hl1]; rfl] at h2
  rw [hif] at h1
  injection h1 with h1
  rw [h1]; exact h2
end Go.Proofs.YtahoopmiipmgpaaDoor
