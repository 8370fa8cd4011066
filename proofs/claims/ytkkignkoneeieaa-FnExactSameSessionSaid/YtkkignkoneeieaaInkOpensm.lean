/- Ink as an argument, opened to plain data. Conditions: none. -/
import Derived.Test.YtkkignkoneeieaaRows
import Derived.Test.YtkkignkoneeieaaTyStrokem
namespace Go.Proofs.Ytkkignkoneeieaa
open Go Go.RowKit

theorem ink_one {ep e : TypeId} {o : Bool} {w : World} {xs : List PStroke} {cs : List Value} {F : List Nat} (h : (pStrokes ep e).rep o w xs cs F) : ∃ v, cs = [v] := by
  obtain ⟨A, c, ec, F0, F1, rfl, _⟩ := h
  exact ⟨_, rfl⟩
theorem opens_lpoint : Opens Try.prog 142 pPoint :=
  opens_via (opens_struct Try.underlying142 (by kernel_rfl) (fields_cons rfl (by kernel_rfl) (opens_int64 Try.underlying2) (fields_cons rfl (by kernel_rfl) (opens_int64 Try.underlying2) (fields_one rfl (by kernel_rfl) (opens_int64 Try.underlying2))))) _ (fun p => ⟨p.1, p.2.1, p.2.2⟩) (fun _ => rfl)
theorem opens_lpointS : Opens Try.prog 55 (pPoints 142) :=
  opens_slice Try.underlying55 (by kernel_rfl) (by decide) opens_lpoint
theorem opens_lstroke : Opens Try.prog 179 (pStroke 142) :=
  opens_struct Try.underlying179 (by kernel_rfl) (fields_one rfl (by kernel_rfl) opens_lpointS)
theorem opens_lstrokeS : Opens Try.prog 52 (pStrokes 142 179) :=
  opens_slice Try.underlying52 (by kernel_rfl) (by decide) opens_lstroke
theorem opens_link : Opens Try.prog 54 (pStrokes 142 179) :=
  opens_struct Try.underlying54 (by kernel_rfl) (fields_one rfl (by kernel_rfl) opens_lstrokeS)
end Go.Proofs.Ytkkignkoneeieaa
