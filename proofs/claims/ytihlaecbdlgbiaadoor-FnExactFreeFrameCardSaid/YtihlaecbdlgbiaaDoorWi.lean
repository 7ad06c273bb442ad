/- Contract of within. -/
import Derived.Test.YtihlaecbdlgbiaaDoorRows
import Derived.Test.YtihlaecbdlgbiaaDoorData
namespace Go.Proofs.YtihlaecbdlgbiaaDoor
open Go.ChangeShapes Go.WideShapes Go.ChangeAt Go.RowKit
set_option linter.unusedVariables false
set_option maxRecDepth 100000

set_option maxHeartbeats 400000 in
theorem within_c (n e : Int) (w : World) : Calls Tryd.prog 41 #[.int .i64 n, .int .i64 e] w fun r w' => r = .returned (.bool (inB n e)) ∧ w = w' := by
  by_cases h0 : 0 ≤ n
  · go_enter Tryd.func41, Tryd.ntmps41
    go_wp2
    go_ret
    exact ⟨ret_bool (by rw [Bool.eq_iff_iff, inB_true]; simp [h0]), rfl⟩
  · go_enter Tryd.func41, Tryd.ntmps41
    go_wp2
    go_ret
    exact ⟨ret_bool (by rw [Bool.eq_iff_iff, inB_true]; simp; omega), rfl⟩

end Go.Proofs.YtihlaecbdlgbiaaDoor
