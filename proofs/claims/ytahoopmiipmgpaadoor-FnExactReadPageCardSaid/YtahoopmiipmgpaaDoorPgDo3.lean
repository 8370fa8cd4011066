/- Pages: one step done, in the reference. Conditions: none. -/
import Derived.Test.YtahoopmiipmgpaaDoorPgDo2
namespace Go.Proofs.YtahoopmiipmgpaaDoor
open Go Go.RowKit

end Go.Proofs.YtahoopmiipmgpaaDoor
