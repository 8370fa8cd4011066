/- Pages: lines after a step, in the reference. Conditions: none. -/
import Derived.Test.YtahoopmiipmgpaaDoorPgStepped
namespace Go.Proofs.YtahoopmiipmgpaaDoor
open Go Go.RowKit

/-- A list's two parts at a place, as an append reads them; nil or not. -/
structure Parts (w : World) (xs : List ByteArray) (A : Option Addr) (k a a' : Nat) (AD : Option Addr) (ecT ecD : List Value) : Prop where
  t : repL str true w (xs.take a) ecT []
  d : repL str true w (xs.drop a') ecD []
  ct : CellsAt w A ecT
  cd : CellsAt w AD ecD
theorem Parts.below {w w' : World} {xs : List ByteArray} {A AD : Option Addr} {k a a' : Nat} {ecT ecD : List Value} (h : Parts w xs A k a a' AD ecT ecD) (hb : Below w.heap.size w w') : Parts w' xs A k a a' AD ecT ecD :=
  ⟨repL_below h.t hb, repL_below h.d hb, h.ct.below hb, h.cd.below hb⟩
theorem parts_of {w : World} {xs : List ByteArray} {A : Option Addr} {k a a' : Nat} {G : List Nat} (h : (str.slice 9).rep true w xs [.slice A xs.length k] G) (ha : a ≤ xs.length) (ha' : a' ≤ xs.length) :
    ∃ AD ecT ecD, Parts w xs A k a a' AD ecT ecD ∧ ((A = none ∧ k = 0 ∧ AD = none ∧ a = 0 ∧ xs.length = 0) ∨ ∃ g2, A = some ⟨g2, 0, none⟩ ∧ xs.length ≤ k ∧ (if k = a' then (some ⟨g2, 0, none⟩ : Option Addr) else some ⟨g2, a', none⟩) = AD) := by
  rcases own_cases (T := str) h with ⟨hv, hnil⟩ | ⟨g2, k', cs, rs, H, hv, hlc2, hcm2, hrow2, hr2, hlen2, hG⟩
  · injection hv with e1 e2 e3
    subst e1; subst e3; subst hnil
    have ha0 : a = 0 := by simp at ha; exact ha
    have ha1 : a' = 0 := by simp at ha'; exact ha'
    subst ha0; subst ha1
    exact ⟨none, [], [], ⟨⟨rfl, rfl⟩, ⟨rfl, rfl⟩, fun h => by simp at h, fun h => by simp at h⟩, .inl ⟨rfl, rfl, rfl, rfl, rfl⟩⟩
  · injection hv with e1 _ e3
    subst e1; subst e3
    obtain ⟨F1, q1, q2⟩ := part_take (T := str) rfl hrow2 hr2 ha hlc2 hcm2
    obtain ⟨AD, F2, hi, q3, q4⟩ := part_drop (T := str) rfl hrow2 (by rw [hlen2]; exact Nat.mul_one _) hr2 ha' hlc2 hcm2
    obtain ⟨ecT, _, s1, s2, _⟩ := slice_src q1
    obtain ⟨ecD, _, s3, s4, _⟩ := slice_src q3
    exact ⟨some AD, ecT, ecD, ⟨str_flat s1, str_flat s3, s2, s4⟩, .inr ⟨g2, rfl, by omega, hi⟩⟩
/-- What the blocks of an append's result say about what it left alone. -/
theorem own_below {B : Nat} {w w' : World} {v : Value} (ho : Only v.ownBlock.toList w w') (hB : B ≤ w.heap.size) (hv : ∀ b ∈ v.ownBlock.toList, B ≤ b) : Below B w w' := ho.below hB hv

theorem own_from {B : Nat} {w : World} {v v' : Value} (p : ∀ b ∈ v'.ownBlock.toList, b ∈ v.ownBlock.toList ∨ w.heap.size ≤ b) (hv : ∀ b ∈ v.ownBlock.toList, B ≤ b) (hB : B ≤ w.heap.size) : Hid (∀ b ∈ v'.ownBlock.toList, B ≤ b) := fun b hb => by
  rcases p b hb with h | h
  · exact hv b h
  · omega
theorem own_new (w : World) (n c : Nat) : ∀ b ∈ (Value.slice (some ⟨w.heap.size, 0, none⟩) n c).ownBlock.toList, w.heap.size ≤ b := by
  intro b hb
  have h : b = w.heap.size := by simpa [Value.ownBlock] using hb
  omega
end Go.Proofs.YtahoopmiipmgpaaDoor
