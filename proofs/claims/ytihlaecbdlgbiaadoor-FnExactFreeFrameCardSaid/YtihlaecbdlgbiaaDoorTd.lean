/- Contracts: slices.Equal over tags' owners; TagsSame and NewTags, the program's and the reference's. -/
import Derived.Test.YtihlaecbdlgbiaaDoorTc
import Derived.Test.YtihlaecbdlgbiaaDoorEq
namespace Go.Proofs.YtihlaecbdlgbiaaDoor
open Go.ChangeShapes Go.WideShapes Go.ChangeAt Go.RowKit
open Rec (sz cs)
set_option linter.unusedVariables false
set_option maxRecDepth 100000

end Go.Proofs.YtihlaecbdlgbiaaDoor
