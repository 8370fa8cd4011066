/- Lists of strings as arguments, opened to plain data. Conditions: none. -/
import Derived.Test.YtjdpmokhhfkplaaRows
import Derived.Test.YtjdpmokhhfkplaaStrS
namespace Go.Proofs.Ytjdpmokhhfkplaa
open Go Go.RowKit

theorem opens_strs : Opens Try.prog 22 (strs 9) :=
  opens_slice Try.underlying22 (by kernel_rfl) (by decide) (opens_str Try.underlying9)
end Go.Proofs.Ytjdpmokhhfkplaa
