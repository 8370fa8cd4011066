/- Ink as an argument, opened to plain data. Conditions: none. -/
import Derived.Test.YtkkignkoneeieaaGreatRows
import Derived.Test.YtkkignkoneeieaaGreatTyStrokem
namespace Go.Proofs.YtkkignkoneeieaaGreat
open Go Go.RowKit

theorem ink_one {ep e : TypeId} {o : Bool} {w : World} {xs : List PStroke} {cs : List Value} {F : List Nat} (h : (pStrokes ep e).rep o w xs cs F) : ∃ v, cs = [v] := by
  obtain ⟨A, c, ec, F0, F1, rfl, _⟩ := h
  exact ⟨_, rfl⟩
theorem opens_lpoint : Opens Tryz.prog 158 pPoint :=
  opens_via (opens_struct Tryz.underlying158 (by kernel_rfl) (fields_cons rfl (by kernel_rfl) (opens_int64 Tryz.underlying2) (fields_cons rfl (by kernel_rfl) (opens_int64 Tryz.underlying2) (fields_one rfl (by kernel_rfl) (opens_int64 Tryz.underlying2))))) _ (fun p => ⟨p.1, p.2.1, p.2.2⟩) (fun _ => rfl)
theorem opens_lpointS : Opens Tryz.prog 38 (pPoints 158) :=
  opens_slice Tryz.underlying38 (by kernel_rfl) (by decide) opens_lpoint
theorem opens_lstroke : Opens Tryz.prog 224 (pStroke 158) :=
  opens_struct Tryz.underlying224 (by kernel_rfl) (fields_one rfl (by kernel_rfl) opens_lpointS)
theorem opens_lstrokeS : Opens Tryz.prog 35 (pStrokes 158 224) :=
  opens_slice Tryz.underlying35 (by kernel_rfl) (by decide) opens_lstroke
theorem opens_link : Opens Tryz.prog 37 (pStrokes 158 224) :=
  opens_struct Tryz.underlying37 (by kernel_rfl) (fields_one rfl (by kernel_rfl) opens_lstrokeS)
end Go.Proofs.YtkkignkoneeieaaGreat
