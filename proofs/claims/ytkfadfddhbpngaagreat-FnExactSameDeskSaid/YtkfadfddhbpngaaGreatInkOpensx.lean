/- Ink as an argument, opened to plain data. Conditions: none. -/
import Derived.Test.YtkfadfddhbpngaaGreatRows
import Derived.Test.YtkfadfddhbpngaaGreatTyStrokex
namespace Go.Proofs.YtkfadfddhbpngaaGreat
open Go Go.RowKit

theorem opens_lpoint : Opens Tryz.prog 219 pPoint :=
 opens_via (opens_struct Tryz.underlying219 (by kernel_rfl) (fields_cons rfl (by kernel_rfl) (opens_int64 Tryz.underlying2) (fields_cons rfl (by kernel_rfl) (opens_int64 Tryz.underlying2) (fields_one rfl (by kernel_rfl) (opens_int64 Tryz.underlying2))))) _ (fun p => ⟨p.1, p.2.1, p.2.2⟩) (fun _ => rfl)
theorem opens_lpointS : Opens Tryz.prog 38 (pPoints 219) :=
 opens_slice Tryz.underlying38 (by kernel_rfl) (by decide) opens_lpoint
theorem opens_lstroke : Opens Tryz.prog 269 (pStroke 219) :=
 opens_struct Tryz.underlying269 (by kernel_rfl) (fields_one rfl (by kernel_rfl) opens_lpointS)
theorem opens_lstrokeS : Opens Tryz.prog 35 (pStrokes 219 269) :=
 opens_slice Tryz.underlying35 (by kernel_rfl) (by decide) opens_lstroke
theorem opens_link : Opens Tryz.prog 37 (pStrokes 219 269) :=
 opens_struct Tryz.underlying37 (by kernel_rfl) (fields_one rfl (by kernel_rfl) opens_lstrokeS)
end Go.Proofs.YtkfadfddhbpngaaGreat
