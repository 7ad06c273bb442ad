/- Contract of l1Space. -/
import Derived.Test.YtihlaecbdlgbiaaDoorRows
import Derived.Test.YtihlaecbdlgbiaaDoorData
namespace Go.Proofs.YtihlaecbdlgbiaaDoor
open Go.ChangeShapes Go.WideShapes Go.ChangeAt Go.RowKit
set_option linter.unusedVariables false
set_option maxRecDepth 100000

set_option maxHeartbeats 400000 in
theorem l1Space_c (n : Int) (w : World) : Calls Tryd.prog 53 #[.int .i64 n] w fun r w' => r = .returned (.bool (inB n 16)) ∧ w = w' := by
  by_cases h0 : 0 ≤ n
  · go_enter Tryd.func53, Tryd.ntmps53
    go_wp2
    go_ret
    exact ⟨ret_bool (by rw [Bool.eq_iff_iff, inB_true]; simp [h0]), rfl⟩
  · go_enter Tryd.func53, Tryd.ntmps53
    go_wp2
    go_ret
    exact ⟨ret_bool (by rw [Bool.eq_iff_iff, inB_true]; simp; omega), rfl⟩

end Go.Proofs.YtihlaecbdlgbiaaDoor
