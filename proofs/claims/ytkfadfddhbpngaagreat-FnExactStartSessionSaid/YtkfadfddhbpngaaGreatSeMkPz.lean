/- The law's own mark and held over the predicates of setups and sessions. Conditions: none. -/
import Derived.Test.YtkfadfddhbpngaaGreatSeMkz
namespace Go.Proofs.YtkfadfddhbpngaaGreat
open Go Go.RowKit

theorem markSetup_p {I : Ids} {p : PSetup} {v : Value} {F : List Nat} (w : World) (h : SetupIs I true w p v F) (hnd : F.Nodup) (hp : SeSmall p) (hs : 1 + marksSetup p ≤ 10000000) :
    Calls Tryz.prog 22 #[v, .int .i64 1] w fun e w' => e = .returned (.int .i64 ((1 + marksSetup p : Nat) : Int)) ∧ SetupIs I true w' (markSetup p 1) v F ∧ Only F w w' := by
  obtain ⟨a0, a1, a2, F0, F1, F2, rfl, rfl, h0, h1, h2⟩ := h
  exact (markSetup_s w h0 h1 h2 hnd hp 1 1 rfl (by omega) hs).mono fun _ _ ⟨r, x1, x2, r0, r1, r2, x3⟩ => ⟨by rw [x1, x2], ⟨a0, a1, a2, F0, F1, F2, rfl, rfl, r0, r1, r2⟩, x3⟩
theorem markSession_p {I : Ids} {p : PSess} {v : Value} {F : List Nat} (w : World) (h : SessIs I true w p v F) (hnd : F.Nodup) (hp : SsSmall p) (hs : 1 + marksSession p ≤ 10000000) :
    Calls Tryz.prog 23 #[v, .int .i64 1] w fun e w' => e = .returned (.int .i64 ((1 + marksSession p : Nat) : Int)) ∧ SessIs I true w' (markSession p 1) v F ∧ Only F w w' := by
  obtain ⟨a0, a1, a2, a3, a4, a5, F0, F1, F2, F3, F4, F5, rfl, rfl, h0, h1, h2, h3, h4, h5⟩ := h
  exact (markSession_s w h0 h1 h2 h3 h4 h5 hnd hp 1 1 rfl (by omega) hs).mono fun _ _ ⟨r, x1, x2, r0, r1, r2, r3, r4, r5, x3⟩ => ⟨by rw [x1, x2], ⟨a0, a1, a2, a3, a4, a5, F0, F1, F2, F3, F4, F5, rfl, rfl, r0, r1, r2, r3, r4, r5⟩, x3⟩
theorem heldSession_p {I : Ids} {o : Bool} {p : PSess} {v : Value} {F : List Nat} (w : World) (h : SessIs I o w (markSession p 1) v F) (hp : SsSmall p) (hs : 1 + marksSession p ≤ 10000000) :
    Calls Tryz.prog 24 #[v, .int .i64 1] w fun e w' => e = .returned (.int .i64 ((1 + marksSession p : Nat) : Int)) ∧ Below w.heap.size w w' := by
  obtain ⟨a0, a1, a2, a3, a4, a5, F0, F1, F2, F3, F4, F5, rfl, rfl, h0, h1, h2, h3, h4, h5⟩ := h
  exact (heldSession_s (q := p) w 1 h0 h1 h2 h3 h4 h5 hp 1 rfl (by omega) hs).mono fun _ _ ⟨r, x1, x2, x3⟩ => ⟨by rw [x1, x2], x3⟩
theorem tempsIn_sz (xs : List PTemp) : tempsIn xs ≤ 3 * szTemps xs := by
  induction xs with
  | nil => simp [tempsIn]
  | cons t r ih =>
    simp only [tempsIn, szTemps, szTemp, List.map_cons, List.sum_cons, List.length_cons] at ih ⊢
    omega
theorem marksSetup_sz {p : PSetup} (h : szSe p ≤ 1048576) : marksSetup p ≤ 5000000 := by
  unfold szSe at h
  have h1 := tempsIn_sz p.temps
  have h2 : p.entries.length ≤ szpEntry p.entries := by unfold szpEntry; omega
  have h3 : p.bigrams.length ≤ szpBigram p.bigrams := by unfold szpBigram; omega
  unfold marksSetup
  omega
end Go.Proofs.YtkfadfddhbpngaaGreat
