/- Contracts over whole tags: comparing, copying, counting, marking, making. -/
import Derived.Test.YtidnefcnojedoaaTb
namespace Go.Proofs.Ytidnefcnojedoaa
open Go.ChangeShapes Go.WideShapes Go.ChangeAt Go.RowKit
open Rec (sz cs)
set_option linter.unusedVariables false
set_option maxRecDepth 100000

theorem tags_eq (x y : TagsD) : x = y ↔ x.count = y.count ∧ x.next = y.next ∧ x.round = y.round ∧ x.owns = y.owns := by
  cases x; cases y; simp

end Go.Proofs.Ytidnefcnojedoaa
