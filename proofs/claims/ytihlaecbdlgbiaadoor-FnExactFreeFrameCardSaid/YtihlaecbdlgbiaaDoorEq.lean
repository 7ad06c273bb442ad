/- Go's '==' and '!=' at the program's structs. -/
import Derived.Test.YtihlaecbdlgbiaaDoorRows
import Derived.Test.YtihlaecbdlgbiaaDoorTa
namespace Go.Proofs.YtihlaecbdlgbiaaDoor
open Go.ChangeShapes Go.WideShapes Go.ChangeAt Go.RowKit
open Rec (sz cs)

theorem fieldsOwn : Tryd.prog.underlying 102 = some (.struct (Tryd.prog.fieldsOf 102)) := by kernel_rfl
theorem heldOwn : Tryd.prog.stoodInHeld 102 = false := by kernel_rfl
theorem guardOwn : Tryd.prog.eqGuardType Tryd.prog.depth 102 = false := by kernel_rfl
theorem eqIn_own (x y : OwnD) (w : World) : (Op.equalIn 10000 102 (.agg #[.int .i64 x.space, .int .i64 x.tag]) (.agg #[.int .i64 y.space, .int .i64 y.tag])).run Tryd.prog w = .ok (eqB x y) w := by
  obtain ⟨a, b⟩ := x
  obtain ⟨c, d⟩ := y
  rw [run_equalIn_agg w 9999 _ _ _ fieldsOwn heldOwn]
  simp [go_sem, Tryd.underlying102]
  by_cases h1 : a = c <;> by_cases h2 : b = d <;> simp [eqB, h1, h2]
theorem neq_own (x y : OwnD) (w : World) : (binOp .neq 102 (.agg #[.int .i64 x.space, .int .i64 x.tag]) (.agg #[.int .i64 y.space, .int .i64 y.tag])).run Tryd.prog w = .ok (.bool (!eqB x y)) w := by
  rw [run_neq_struct, eqIn_own]; rfl
theorem eql_own (x y : OwnD) (w : World) : (binOp .eql 102 (.agg #[.int .i64 x.space, .int .i64 x.tag]) (.agg #[.int .i64 y.space, .int .i64 y.tag])).run Tryd.prog w = .ok (.bool (eqB x y)) w := by
  rw [run_eql_struct, eqIn_own]; rfl
end Go.Proofs.YtihlaecbdlgbiaaDoor
