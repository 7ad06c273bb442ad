/- Keys: comparing one with itself, copying. -/
import Derived.Test.YtihlaecbdlgbiaaDoorChg
import Derived.Test.YtihlaecbdlgbiaaDoorRows
namespace Go.Proofs.YtihlaecbdlgbiaaDoor
open Go.ChangeShapes Go.WideShapes Go.ChangeAt Go.RowKit
open Rec (sz cs)
set_option linter.unusedVariables false
set_option maxRecDepth 100000

set_option maxHeartbeats 400000 in
theorem eqKey_self_c (x : KeyD) (w : World) : Calls Tryd.prog 86 #[.agg #[.int .i64 x.space, .int .i64 x.page], .agg #[.int .i64 x.space, .int .i64 x.page]] w fun r w' => r = .returned (.bool true) ∧ Ex w w' := by
  obtain ⟨a, b⟩ := x
  have h1 : (a != a) = false := by simp
  have h2 : (b != b) = false := by simp
  go_enter Tryd.func86, Tryd.ntmps86
  go_wp2
  go_ret
  exact ⟨rfl, ((Ex.refl _).alloc _).alloc _⟩

set_option maxHeartbeats 400000 in
theorem toKey_c (x : KeyD) (w : World) : Calls Tryd.prog 85 #[.agg #[.int .i64 x.space, .int .i64 x.page]] w fun r w' => r = .returned (.agg #[.int .i64 x.space, .int .i64 x.page]) ∧ Ex w w' := by
  obtain ⟨a, b⟩ := x
  go_enter Tryd.func85, Tryd.ntmps85
  go_wp2
  exact bodyPost_ret (v := .agg #[.int .i64 a, .int .i64 b]) (by simp [results, Tryd.results85, go_sem]) rfl ⟨rfl, (((Ex.refl _).alloc _).alloc _).alloc _⟩
end Go.Proofs.YtihlaecbdlgbiaaDoor
