/- Pages: how many words a line has. Conditions: none. -/
import Derived.Test.YtahoopmiipmgpaaDoorPgTo
namespace Go.Proofs.YtahoopmiipmgpaaDoor
open Go Go.RowKit

end Go.Proofs.YtahoopmiipmgpaaDoor
