/- When is a cache valid: the plain functions, and the contracts of CacheValid and what it calls, the program's and the reference's. -/
import Derived.Test.YtihlaecbdlgbiaaDoorCc
import Derived.Test.YtihlaecbdlgbiaaDoorWi
namespace Go.Proofs.YtihlaecbdlgbiaaDoor
open Go.ChangeShapes Go.WideShapes Go.ChangeAt Go.RowKit
open Rec (sz cs)
set_option linter.unusedVariables false
set_option maxRecDepth 100000

def tagB (t : Int) : Bool := decide (-1 ≤ t ∧ t < 8)
def lineV (x : LineD) : Bool := if x.valid then tagB x.tag && (inB x.page 256 && (inB x.frame 16 && inB x.rights 8)) else eqB x noLine
def clashB (x y : LineD) : Bool := x.valid && (y.valid && ((x.page == y.page) && ((x.tag == y.tag) || ((x.tag == -1) || (y.tag == -1)))))

set_option maxHeartbeats 400000 in
theorem tagValid_c (t : Int) (w : World) : Calls Tryd.prog 81 #[.int .i64 t] w fun r w' => r = .returned (.bool (tagB t)) ∧ w = w' := by
  by_cases h0 : -1 ≤ t
  · go_enter Tryd.func81, Tryd.ntmps81
    go_wp2
    go_ret
    exact ⟨ret_bool (by unfold tagB; simp [h0]), rfl⟩
  · have h1 : t < -1 := by omega
    go_enter Tryd.func81, Tryd.ntmps81
    go_wp2
    go_ret
    exact ⟨ret_bool (by unfold tagB; simp; omega), rfl⟩

set_option maxHeartbeats 400000 in
theorem l1Page_c (n : Int) (w : World) : Calls Tryd.prog 77 #[.int .i64 n] w fun r w' => r = .returned (.bool (inB n 256)) ∧ w = w' := by
  by_cases h0 : 0 ≤ n
  · go_enter Tryd.func77, Tryd.ntmps77
    go_wp2
    go_ret
    exact ⟨ret_bool (by rw [Bool.eq_iff_iff, inB_true]; simp [h0]), rfl⟩
  · go_enter Tryd.func77, Tryd.ntmps77
    go_wp2
    go_ret
    exact ⟨ret_bool (by rw [Bool.eq_iff_iff, inB_true]; simp; omega), rfl⟩

set_option maxHeartbeats 400000 in
theorem rightsS_c (n : Int) (w : World) : Calls Tryd.prog 76 #[.int .i64 n] w fun r w' => r = .returned (.bool (inB n 8)) ∧ w = w' := by
  by_cases h0 : 0 ≤ n
  · go_enter Tryd.func76, Tryd.ntmps76
    go_wp2
    go_ret
    exact ⟨ret_bool (by rw [Bool.eq_iff_iff, inB_true]; simp [h0]; omega), rfl⟩
  · go_enter Tryd.func76, Tryd.ntmps76
    go_wp2
    go_ret
    exact ⟨ret_bool (by rw [Bool.eq_iff_iff, inB_true]; simp; omega), rfl⟩

set_option maxHeartbeats 400000 in
theorem rightsI_c (n : Int) (w : World) : Calls Tryd.prog 63 #[.int .i64 n] w fun r w' => r = .returned (.bool (inB n 8)) ∧ w = w' := by
  go_enter Tryd.func63, Tryd.ntmps63
  go_wp2_with fail
  refine (within_c _ _ _).mono ?_
  rintro r w' ⟨rfl, rfl⟩
  go_wp2
  go_ret
  exact ⟨rfl, rfl⟩

theorem eql_noLine (x : LineD) (w : World) : (binOp .eql 74 (.agg #[.bool x.valid, .int .i64 x.tag, .int .i64 x.page, .int .i64 x.frame, .int .i64 x.rights, .bool x.wired]) (.agg #[.bool false, .int .i64 0, .int .i64 0, .int .i64 0, .int .i64 0, .bool false])).run Tryd.prog w = .ok (.bool (eqB x noLine)) w :=
  eql_line x noLine w

set_option maxHeartbeats 1000000 in
theorem lineValid_c (x : LineD) (w : World) : Calls Tryd.prog 65 #[.agg #[.bool x.valid, .int .i64 x.tag, .int .i64 x.page, .int .i64 x.frame, .int .i64 x.rights, .bool x.wired]] w fun r w' => r = .returned (.bool (lineV x)) ∧ Ex w w' := by
  have hz := eql_noLine x
  have hgd := guardLine
  cases hv : x.valid
  · have e : lineV x = eqB x noLine := by simp [lineV, hv]
    rw [e]
    clear e
    rw [hv] at hz
    generalize eqB x noLine = b at hz
    go_enter Tryd.func65, Tryd.ntmps65
    go_wp2
    go_ret
    exact ⟨rfl, (Ex.refl _).alloc _⟩
  · have e : lineV x = (tagB x.tag && (inB x.page 256 && (inB x.frame 16 && inB x.rights 8))) := by simp [lineV, hv]
    rw [e]
    clear e hz hgd
    cases h1 : tagB x.tag <;> cases h2 : inB x.page 256 <;> cases h3 : inB x.frame 16 <;> cases h4 : inB x.rights 8
    all_goals
      go_enter Tryd.func65, Tryd.ntmps65
      go_wp2_with (first | (go_at_call 81; refine (tagValid_c _ _).mono ?_; rintro r w' ⟨rfl, rfl⟩) | (go_at_call 63; refine (rightsI_c _ _).mono ?_; rintro r w' ⟨rfl, rfl⟩) | (go_at_call 41; refine (within_c _ _ _).mono ?_; rintro r w' ⟨rfl, rfl⟩))
      go_ret
      exact ⟨rfl, (Ex.refl _).alloc _⟩

set_option maxHeartbeats 2000000 in
theorem l4Line_c (x : LineD) (w : World) : Calls Tryd.prog 52 #[.agg #[.bool x.valid, .int .i64 x.tag, .int .i64 x.page, .int .i64 x.frame, .int .i64 x.rights, .bool x.wired]] w fun r w' => r = .returned (.bool (lineV x)) ∧ Ex w w' := by
  have hz := eql_noLine x
  have hgd := guardLine
  cases hv : x.valid
  · have e : lineV x = eqB x noLine := by simp [lineV, hv]
    rw [e]
    clear e
    rw [hv] at hz
    generalize eqB x noLine = b at hz
    go_enter Tryd.func52, Tryd.ntmps52
    go_wp2
    go_ret
    exact ⟨rfl, (Ex.refl _).alloc _⟩
  · have e : lineV x = (tagB x.tag && (inB x.page 256 && (inB x.frame 16 && inB x.rights 8))) := by simp [lineV, hv]
    rw [e]
    clear e hz hgd
    have ht : tagB x.tag = (decide (-1 ≤ x.tag) && decide (x.tag < 8)) := by simp [tagB]
    have hf : inB x.frame 16 = (decide (0 ≤ x.frame) && decide (x.frame < 16)) := by simp [inB]
    cases a1 : decide (-1 ≤ x.tag)
    · have e : tagB x.tag = false := by rw [ht, a1]; rfl
      rw [e]
      clear e ht hf
      have a2 : x.tag < -1 := by simpa using a1
      go_enter Tryd.func52, Tryd.ntmps52
      go_wp2
      go_ret
      exact ⟨rfl, (Ex.refl _).alloc _⟩
    cases a2 : decide (x.tag < 8)
    · have e : tagB x.tag = false := by rw [ht, a1, a2]; rfl
      rw [e]
      clear e ht hf
      have a3 : 8 ≤ x.tag := by simpa using a2
      have a4 : -1 ≤ x.tag := by omega
      go_enter Tryd.func52, Tryd.ntmps52
      go_wp2
      go_ret
      exact ⟨rfl, (Ex.refl _).alloc _⟩
    have e : tagB x.tag = true := by rw [ht, a1, a2]; rfl
    rw [e]
    clear e ht
    have b1 : -1 ≤ x.tag := by simpa using a1
    have b2 : x.tag < 8 := by simpa using a2
    clear a1 a2
    cases h2 : inB x.page 256
    · clear hf
      go_enter Tryd.func52, Tryd.ntmps52
      go_wp2_with (first | (go_at_call 77; refine (l1Page_c _ _).mono ?_; rintro r w' ⟨rfl, rfl⟩))
      go_ret
      exact ⟨rfl, (Ex.refl _).alloc _⟩
    cases a1 : decide (0 ≤ x.frame)
    · have e : inB x.frame 16 = false := by rw [hf, a1]; rfl
      rw [e]
      clear e hf
      have a2 : x.frame < 0 := by simpa using a1
      go_enter Tryd.func52, Tryd.ntmps52
      go_wp2_with (first | (go_at_call 77; refine (l1Page_c _ _).mono ?_; rintro r w' ⟨rfl, rfl⟩))
      go_ret
      exact ⟨rfl, (Ex.refl _).alloc _⟩
    cases a2 : decide (x.frame < 16)
    · have e : inB x.frame 16 = false := by rw [hf, a1, a2]; rfl
      rw [e]
      clear e hf
      have a3 : 16 ≤ x.frame := by simpa using a2
      have a4 : 0 ≤ x.frame := by omega
      go_enter Tryd.func52, Tryd.ntmps52
      go_wp2_with (first | (go_at_call 77; refine (l1Page_c _ _).mono ?_; rintro r w' ⟨rfl, rfl⟩))
      go_ret
      exact ⟨rfl, (Ex.refl _).alloc _⟩
    have e : inB x.frame 16 = true := by rw [hf, a1, a2]; rfl
    rw [e]
    clear e hf
    have b3 : 0 ≤ x.frame := by simpa using a1
    have b4 : x.frame < 16 := by simpa using a2
    clear a1 a2
    cases h4 : inB x.rights 8
    all_goals
      go_enter Tryd.func52, Tryd.ntmps52
      go_wp2_with (first | (go_at_call 77; refine (l1Page_c _ _).mono ?_; rintro r w' ⟨rfl, rfl⟩) | (go_at_call 76; refine (rightsS_c _ _).mono ?_; rintro r w' ⟨rfl, rfl⟩))
      go_ret
      exact ⟨rfl, (Ex.refl _).alloc _⟩

theorem clash_split (x y : LineD) :
    (x.valid = false ∧ clashB x y = false) ∨ (x.valid = true ∧ y.valid = false ∧ clashB x y = false) ∨ (x.valid = true ∧ y.valid = true ∧ (x.page == y.page) = false ∧ clashB x y = false) ∨
    (x.valid = true ∧ y.valid = true ∧ (x.page == y.page) = true ∧ (x.tag == y.tag) = true ∧ clashB x y = true) ∨
    (x.valid = true ∧ y.valid = true ∧ (x.page == y.page) = true ∧ (x.tag == y.tag) = false ∧ (x.tag == -1) = true ∧ clashB x y = true) ∨
    (x.valid = true ∧ y.valid = true ∧ (x.page == y.page) = true ∧ (x.tag == y.tag) = false ∧ (x.tag == -1) = false ∧ (y.tag == -1) = true ∧ clashB x y = true) ∨
    (x.valid = true ∧ y.valid = true ∧ (x.page == y.page) = true ∧ (x.tag == y.tag) = false ∧ (x.tag == -1) = false ∧ (y.tag == -1) = false ∧ clashB x y = false) := by
  unfold clashB
  cases x.valid <;> cases y.valid <;> cases (x.page == y.page) <;> cases (x.tag == y.tag) <;> cases (x.tag == -1) <;> cases (y.tag == -1) <;> simp

set_option maxHeartbeats 1000000 in
theorem clash_c (x y : LineD) (w : World) : Calls Tryd.prog 66 #[.agg #[.bool x.valid, .int .i64 x.tag, .int .i64 x.page, .int .i64 x.frame, .int .i64 x.rights, .bool x.wired], .agg #[.bool y.valid, .int .i64 y.tag, .int .i64 y.page, .int .i64 y.frame, .int .i64 y.rights, .bool y.wired]] w fun r w' => r = .returned (.bool (clashB x y)) ∧ Ex w w' := by
  rcases clash_split x y with ⟨h1, e⟩ | ⟨h1, h2, e⟩ | ⟨h1, h2, h3, e⟩ | ⟨h1, h2, h3, h4, e⟩ | ⟨h1, h2, h3, h4, h5, e⟩ | ⟨h1, h2, h3, h4, h5, h6, e⟩ | ⟨h1, h2, h3, h4, h5, h6, e⟩
  all_goals
    rw [e]
    clear e
    go_enter Tryd.func66, Tryd.ntmps66
    go_wp2
    go_ret
    exact ⟨rfl, ((Ex.refl _).alloc _).alloc _⟩
end Go.Proofs.YtihlaecbdlgbiaaDoor
