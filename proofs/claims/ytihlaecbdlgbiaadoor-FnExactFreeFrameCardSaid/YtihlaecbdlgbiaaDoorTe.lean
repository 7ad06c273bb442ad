/- Contracts: NewTags, the program's and the reference's. -/
import Derived.Test.YtihlaecbdlgbiaaDoorTd
namespace Go.Proofs.YtihlaecbdlgbiaaDoor
open Go.ChangeShapes Go.WideShapes Go.ChangeAt Go.RowKit
open Rec (sz cs)
set_option linter.unusedVariables false
set_option maxRecDepth 100000

def noTags : TagsD := ⟨0, 0, 0, []⟩
def newTags (n : Int) : TagsD × Bool := if 1 ≤ n ∧ n ≤ 8 then (⟨n, 0, 0, []⟩, true) else (noTags, false)

end Go.Proofs.YtihlaecbdlgbiaaDoor
