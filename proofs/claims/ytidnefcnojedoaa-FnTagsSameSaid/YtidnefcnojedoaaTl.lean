/- LeaveTag of the program: the walk. -/
import Derived.Test.YtidnefcnojedoaaTg
import Derived.Test.YtidnefcnojedoaaTr
import Derived.Test.YtidnefcnojedoaaTh
import Derived.Deep.RegionHeld3
namespace Go.Proofs.Ytidnefcnojedoaa
open Go.ChangeShapes Go.WideShapes Go.ChangeAt Go.RowKit
open Rec (sz cs)
set_option linter.unusedVariables false
set_option maxRecDepth 100000

end Go.Proofs.Ytidnefcnojedoaa
