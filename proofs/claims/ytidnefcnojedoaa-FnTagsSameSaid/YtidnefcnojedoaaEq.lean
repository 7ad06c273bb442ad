/- Go's '==' and '!=' at the program's structs. -/
import Derived.Test.YtidnefcnojedoaaRows
import Derived.Test.YtidnefcnojedoaaTa
namespace Go.Proofs.Ytidnefcnojedoaa
open Go.ChangeShapes Go.WideShapes Go.ChangeAt Go.RowKit
open Rec (sz cs)

theorem fieldsOwn : Try.prog.underlying 50 = some (.struct (Try.prog.fieldsOf 50)) := by kernel_rfl
theorem heldOwn : Try.prog.stoodInHeld 50 = false := by kernel_rfl
theorem guardOwn : Try.prog.eqGuardType Try.prog.depth 50 = false := by kernel_rfl
theorem eqIn_own (x y : OwnD) (w : World) : (Op.equalIn 10000 50 (.agg #[.int .i64 x.space, .int .i64 x.tag]) (.agg #[.int .i64 y.space, .int .i64 y.tag])).run Try.prog w = .ok (eqB x y) w := by
  obtain ⟨a, b⟩ := x
  obtain ⟨c, d⟩ := y
  rw [run_equalIn_agg w 9999 _ _ _ fieldsOwn heldOwn]
  simp [go_sem, Try.underlying50]
  by_cases h1 : a = c <;> by_cases h2 : b = d <;> simp [eqB, h1, h2]
theorem neq_own (x y : OwnD) (w : World) : (binOp .neq 50 (.agg #[.int .i64 x.space, .int .i64 x.tag]) (.agg #[.int .i64 y.space, .int .i64 y.tag])).run Try.prog w = .ok (.bool (!eqB x y)) w := by
  rw [run_neq_struct, eqIn_own]; rfl
theorem eql_own (x y : OwnD) (w : World) : (binOp .eql 50 (.agg #[.int .i64 x.space, .int .i64 x.tag]) (.agg #[.int .i64 y.space, .int .i64 y.tag])).run Try.prog w = .ok (.bool (eqB x y)) w := by
  rw [run_eql_struct, eqIn_own]; rfl
end Go.Proofs.Ytidnefcnojedoaa
