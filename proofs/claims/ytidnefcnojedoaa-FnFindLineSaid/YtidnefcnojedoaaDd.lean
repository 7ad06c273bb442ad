/- Drawn caches: l4Case and the drawings of arguments that rest on it. -/
import Derived.Test.YtidnefcnojedoaaDc
namespace Go.Proofs.Ytidnefcnojedoaa
open Go.ChangeShapes Go.WideShapes Go.ChangeAt Go.RowKit
open Rec (sz cs)
set_option linter.unusedVariables false
set_option maxRecDepth 100000

def SomeCache (w : World) (e : Ending) (w' : World) : Prop := ∃ (t : CacheD) (A : Option Addr) (c : Nat), e = .returned (.agg #[.slice A t.lines.length c, .int .i64 t.hand]) ∧ Few t ∧ Fr 43 w' w.heap.size A c t.lines ∧ Ex w w'
def SomeNum (zs : List Int) (w : World) (e : Ending) (w' : World) : Prop := ∃ v : Int, e = .returned (.int .i64 v) ∧ v ∈ zs ∧ Ex w w'

end Go.Proofs.Ytidnefcnojedoaa
