/- Pages: is a page valid, in the reference? Conditions: none. -/
import Derived.Test.YtahoopmiipmgpaaDoorPgValid
import Derived.Test.YtahoopmiipmgpaaDoorStepCall
namespace Go.Proofs.YtahoopmiipmgpaaDoor
open Go Go.RowKit

end Go.Proofs.YtahoopmiipmgpaaDoor
