/- Cases as arguments, opened to plain data. Conditions: none. -/
import Derived.Test.YtjdpmokhhfkplaaRows
import Derived.Test.YtjdpmokhhfkplaaTyCase
namespace Go.Proofs.Ytjdpmokhhfkplaa
open Go Go.RowKit

theorem opens_lcase : Opens Try.prog 40 aCase :=
  opens_via (opens_struct Try.underlying40 (by kernel_rfl) (fields_cons rfl (by kernel_rfl) (opens_str Try.underlying9) (fields_one rfl (by kernel_rfl) (opens_str Try.underlying9)))) _ (fun p => ⟨p.1, p.2⟩) (fun _ => rfl)
theorem opens_lcases : Opens Try.prog 46 (aCases 40) :=
  opens_slice Try.underlying46 (by kernel_rfl) (by decide) opens_lcase
end Go.Proofs.Ytjdpmokhhfkplaa
