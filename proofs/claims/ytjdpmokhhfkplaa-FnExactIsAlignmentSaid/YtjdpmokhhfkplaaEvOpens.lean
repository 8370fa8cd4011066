/- Arguments of the chapter on evaluation, opened to plain data. Conditions: none. -/
import Derived.Test.YtjdpmokhhfkplaaRows
import Derived.Test.YtjdpmokhhfkplaaEvTypes
namespace Go.Proofs.Ytjdpmokhhfkplaa
open Go Go.RowKit

theorem opens_lsteps : Opens Try.prog 30 (asteps 78) :=
  opens_slice Try.underlying30 (by kernel_rfl) (by decide)
    (opens_via (opens_struct Try.underlying78 (by kernel_rfl) (fields_cons rfl (by kernel_rfl) (opens_int64 Try.underlying2) (fields_cons rfl (by kernel_rfl) (opens_int64 Try.underlying2) (fields_one rfl (by kernel_rfl) (opens_int64 Try.underlying2))))) _ (fun p => ⟨p.1, p.2.1, p.2.2⟩) (fun _ => rfl))

end Go.Proofs.Ytjdpmokhhfkplaa
