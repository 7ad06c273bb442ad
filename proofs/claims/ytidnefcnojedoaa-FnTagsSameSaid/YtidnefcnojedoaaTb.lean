/- Contracts: copying the plain data of a law into the program's, counting, marking. -/
import Derived.Test.YtidnefcnojedoaaTa
namespace Go.Proofs.Ytidnefcnojedoaa
open Go.ChangeShapes Go.WideShapes Go.ChangeAt Go.RowKit
open Rec (sz cs)
set_option linter.unusedVariables false
set_option maxRecDepth 100000


theorem infoOwn : (Try.prog.info? 50).map (fun i => (i.zero, i.size, i.bytes)) = some (some (.agg #[.int .i64 0, .int .i64 0]), 2, 16) := by kernel_rfl

def mkOwn (k : Int) : OwnD := ⟨k, k + 1⟩

end Go.Proofs.Ytidnefcnojedoaa
