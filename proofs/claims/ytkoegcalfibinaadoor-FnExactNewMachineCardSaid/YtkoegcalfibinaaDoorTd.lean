/- Contracts: slices.Equal over tags' owners; TagsSame and NewTags, the program's and the reference's. -/
import Derived.Test.YtkoegcalfibinaaDoorTc
import Derived.Test.YtkoegcalfibinaaDoorEq
namespace Go.Proofs.YtkoegcalfibinaaDoor
open Go.ChangeShapes Go.WideShapes Go.ChangeAt Go.RowKit
open Rec (sz cs)
set_option linter.unusedVariables false
set_option maxRecDepth 100000

end Go.Proofs.YtkoegcalfibinaaDoor
