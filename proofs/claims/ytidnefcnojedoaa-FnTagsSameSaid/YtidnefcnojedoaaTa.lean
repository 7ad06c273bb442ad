/- Contracts of the small functions over tags: comparing, copying, marking. -/
import Derived.Test.YtidnefcnojedoaaRows
import Derived.Test.YtidnefcnojedoaaData
namespace Go.Proofs.Ytidnefcnojedoaa
open Go.ChangeShapes Go.WideShapes Go.ChangeAt Go.RowKit
open Rec (sz cs)
set_option linter.unusedVariables false
set_option maxRecDepth 100000

theorem own_eq (x y : OwnD) : x = y ↔ x.space = y.space ∧ x.tag = y.tag := by
  cases x; cases y; simp

end Go.Proofs.Ytidnefcnojedoaa
