/- Ink as an argument, opened to plain data. Conditions: none. -/
import Derived.Test.YtnochonfhpkibaaRows
import Derived.Test.YtnochonfhpkibaaTyStroke
namespace Go.Proofs.Ytnochonfhpkibaa
open Go Go.RowKit

theorem ink_one {ep e : TypeId} {o : Bool} {w : World} {xs : List PStroke} {cs : List Value} {F : List Nat} (h : (pStrokes ep e).rep o w xs cs F) : ∃ v, cs = [v] := by
  obtain ⟨A, c, ec, F0, F1, rfl, _⟩ := h
  exact ⟨_, rfl⟩
theorem opens_lpoint : Opens Try.prog 73 pPoint :=
  opens_via (opens_struct Try.underlying73 (by kernel_rfl) (fields_cons rfl (by kernel_rfl) (opens_int64 Try.underlying2) (fields_cons rfl (by kernel_rfl) (opens_int64 Try.underlying2) (fields_one rfl (by kernel_rfl) (opens_int64 Try.underlying2))))) _ (fun p => ⟨p.1, p.2.1, p.2.2⟩) (fun _ => rfl)
theorem opens_lpointS : Opens Try.prog 51 (pPoints 73) :=
  opens_slice Try.underlying51 (by kernel_rfl) (by decide) opens_lpoint
theorem opens_lstroke : Opens Try.prog 53 (pStroke 73) :=
  opens_struct Try.underlying53 (by kernel_rfl) (fields_one rfl (by kernel_rfl) opens_lpointS)
theorem opens_lstrokeS : Opens Try.prog 22 (pStrokes 73 53) :=
  opens_slice Try.underlying22 (by kernel_rfl) (by decide) opens_lstroke
theorem opens_link : Opens Try.prog 24 (pStrokes 73 53) :=
  opens_struct Try.underlying24 (by kernel_rfl) (fields_one rfl (by kernel_rfl) opens_lstrokeS)
end Go.Proofs.Ytnochonfhpkibaa
