/- TagOf and SpaceOf, the program's and the reference's. -/
import Derived.Test.YtidnefcnojedoaaTo
import Derived.Deep.RegionHeld3
namespace Go.Proofs.Ytidnefcnojedoaa
open Go.ChangeShapes Go.WideShapes Go.ChangeAt Go.RowKit
open Rec (sz cs)
set_option linter.unusedVariables false
set_option maxRecDepth 100000

end Go.Proofs.Ytidnefcnojedoaa
