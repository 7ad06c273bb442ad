/- KeyFor of both. -/
import Derived.Test.YtihlaecbdlgbiaaDoorData
import Derived.Test.YtihlaecbdlgbiaaDoorWi
namespace Go.Proofs.YtihlaecbdlgbiaaDoor
open Go.ChangeShapes Go.WideShapes Go.ChangeAt Go.RowKit
open Rec (sz cs)
set_option linter.unusedVariables false
set_option maxRecDepth 100000

def keyFor (s p : Int) : KeyD := if 128 ≤ p then ⟨0, p⟩ else ⟨s, p⟩

set_option maxHeartbeats 400000 in
theorem keyForI_c (s p : Int) (w : World) : Calls Tryd.prog 35 #[.int .i64 s, .int .i64 p] w fun r w' => r = .returned (.agg #[.int .i64 (keyFor s p).space, .int .i64 (keyFor s p).page]) ∧ Ex w w' := by
  by_cases h : 128 ≤ p
  · have e : keyFor s p = ⟨0, p⟩ := if_pos h
    rw [e]
    clear e
    go_enter Tryd.func35, Tryd.ntmps35
    go_wp2
    exact bodyPost_ret (v := .agg #[.int .i64 0, .int .i64 p]) (by simp [results, Tryd.results35, go_sem]) rfl ⟨rfl, (Ex.refl _).alloc _⟩
  · have e : keyFor s p = ⟨s, p⟩ := if_neg h
    rw [e]
    clear e
    go_enter Tryd.func35, Tryd.ntmps35
    go_wp2
    exact bodyPost_ret (v := .agg #[.int .i64 s, .int .i64 p]) (by simp [results, Tryd.results35, go_sem]) rfl ⟨rfl, (Ex.refl _).alloc _⟩

set_option maxHeartbeats 400000 in
theorem keyForS_c (s p : Int) (w : World) : Calls Tryd.prog 56 #[.int .i64 s, .int .i64 p] w fun r w' => r = .returned (.agg #[.int .i64 (keyFor s p).space, .int .i64 (keyFor s p).page]) ∧ Ex w w' := by
  by_cases h : 128 ≤ p
  · have e : keyFor s p = ⟨0, p⟩ := if_pos h
    rw [e]
    clear e
    go_enter Tryd.func56, Tryd.ntmps56
    go_wp2
    exact bodyPost_ret (v := .agg #[.int .i64 0, .int .i64 p]) (by simp [results, Tryd.results56, go_sem]) rfl ⟨rfl, (Ex.refl _).alloc _⟩
  · have e : keyFor s p = ⟨s, p⟩ := if_neg h
    rw [e]
    clear e
    go_enter Tryd.func56, Tryd.ntmps56
    go_wp2
    exact bodyPost_ret (v := .agg #[.int .i64 s, .int .i64 p]) (by simp [results, Tryd.results56, go_sem]) rfl ⟨rfl, (Ex.refl _).alloc _⟩
end Go.Proofs.YtihlaecbdlgbiaaDoor
