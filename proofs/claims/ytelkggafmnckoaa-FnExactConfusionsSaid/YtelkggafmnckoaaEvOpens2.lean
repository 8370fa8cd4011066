/- Cases as arguments, opened to plain data. Conditions: none. -/
import Derived.Test.YtelkggafmnckoaaRows
import Derived.Test.YtelkggafmnckoaaTyCase
namespace Go.Proofs.Ytelkggafmnckoaa
open Go Go.RowKit

theorem opens_lcase : Opens Try.prog 75 aCase :=
  opens_via (opens_struct Try.underlying75 (by kernel_rfl) (fields_cons rfl (by kernel_rfl) (opens_str Try.underlying9) (fields_one rfl (by kernel_rfl) (opens_str Try.underlying9)))) _ (fun p => ⟨p.1, p.2⟩) (fun _ => rfl)
theorem opens_lcases : Opens Try.prog 36 (aCases 75) :=
  opens_slice Try.underlying36 (by kernel_rfl) (by decide) opens_lcase
end Go.Proofs.Ytelkggafmnckoaa
