/- Pages: is a step possible, in the reference? Conditions: none. -/
import Derived.Test.YtahoopmiipmgpaaDoorPgStep
namespace Go.Proofs.YtahoopmiipmgpaaDoor
open Go Go.RowKit

end Go.Proofs.YtahoopmiipmgpaaDoor
