/- Go's '==' and '!=' at the program's structs. -/
import Derived.Test.YtkoegcalfibinaaRows
import Derived.Test.YtkoegcalfibinaaTa
namespace Go.Proofs.Ytkoegcalfibinaa
open Go.ChangeShapes Go.WideShapes Go.ChangeAt Go.RowKit
open Rec (sz cs)

theorem fieldsOwn : Try.prog.underlying 111 = some (.struct (Try.prog.fieldsOf 111)) := by kernel_rfl
theorem heldOwn : Try.prog.stoodInHeld 111 = false := by kernel_rfl
theorem guardOwn : Try.prog.eqGuardType Try.prog.depth 111 = false := by kernel_rfl
theorem eqIn_own (x y : OwnD) (w : World) : (Op.equalIn 10000 111 (.agg #[.int .i64 x.space, .int .i64 x.tag]) (.agg #[.int .i64 y.space, .int .i64 y.tag])).run Try.prog w = .ok (eqB x y) w := by
  obtain ⟨a, b⟩ := x
  obtain ⟨c, d⟩ := y
  rw [run_equalIn_agg w 9999 _ _ _ fieldsOwn heldOwn]
  simp [go_sem, Try.underlying111]
  by_cases h1 : a = c <;> by_cases h2 : b = d <;> simp [eqB, h1, h2]
theorem neq_own (x y : OwnD) (w : World) : (binOp .neq 111 (.agg #[.int .i64 x.space, .int .i64 x.tag]) (.agg #[.int .i64 y.space, .int .i64 y.tag])).run Try.prog w = .ok (.bool (!eqB x y)) w := by
  rw [run_neq_struct, eqIn_own]; rfl
theorem eql_own (x y : OwnD) (w : World) : (binOp .eql 111 (.agg #[.int .i64 x.space, .int .i64 x.tag]) (.agg #[.int .i64 y.space, .int .i64 y.tag])).run Try.prog w = .ok (.bool (eqB x y)) w := by
  rw [run_eql_struct, eqIn_own]; rfl
end Go.Proofs.Ytkoegcalfibinaa
