/- TakeTag of the program: the walk. -/
import Derived.Test.YtidnefcnojedoaaTx
import Derived.Test.YtidnefcnojedoaaTh
import Derived.RegionTactic
import Derived.ChangeAlike
namespace Go.Proofs.Ytidnefcnojedoaa
open Go.ChangeShapes Go.WideShapes Go.ChangeAt Go.RowKit
open Rec (sz cs)
set_option linter.unusedVariables false
set_option maxRecDepth 100000


end Go.Proofs.Ytidnefcnojedoaa
