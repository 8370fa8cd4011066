/- Points: which are valid, in the program and in the reference. Conditions: none. -/
import Derived.Test.YtkkignkoneeieaaTyPointm
import Derived.Test.YtkkignkoneeieaaInm
namespace Go.Proofs.Ytkkignkoneeieaa
open Go Go.RowKit

def pointB (p : PPoint) : Bool := inR p.x 0 4095 && (inR p.y 0 4095 && inR p.t 0 3600000)
end Go.Proofs.Ytkkignkoneeieaa
