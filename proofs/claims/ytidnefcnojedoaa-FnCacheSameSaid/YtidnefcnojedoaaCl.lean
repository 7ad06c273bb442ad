/- Contracts of the small functions over Line: comparing, copying, counting, marking. Written by a program of mine from one pattern. -/
import Derived.Test.YtidnefcnojedoaaRows
import Derived.Test.YtidnefcnojedoaaData
import Derived.Test.YtidnefcnojedoaaData
namespace Go.Proofs.Ytidnefcnojedoaa
open Go.ChangeShapes Go.WideShapes Go.ChangeAt Go.RowKit
open Rec (sz cs)
set_option linter.unusedVariables false
set_option maxRecDepth 100000

theorem fieldsLine : Try.prog.underlying 43 = some (.struct (Try.prog.fieldsOf 43)) := by kernel_rfl
theorem heldLine_ : Try.prog.stoodInHeld 43 = false := by kernel_rfl
theorem guardLine : Try.prog.eqGuardType Try.prog.depth 43 = false := by kernel_rfl
theorem eqIn_line (x y : LineD) (w : World) : (Op.equalIn 10000 43 (.agg #[.bool x.valid, .int .i64 x.tag, .int .i64 x.page, .int .i64 x.frame, .int .i64 x.rights, .bool x.wired]) (.agg #[.bool y.valid, .int .i64 y.tag, .int .i64 y.page, .int .i64 y.frame, .int .i64 y.rights, .bool y.wired])).run Try.prog w = .ok (eqB x y) w := by
  obtain ⟨a1, b1, c1, d1, e1, f1⟩ := x
  obtain ⟨a2, b2, c2, d2, e2, f2⟩ := y
  rw [run_equalIn_agg w 9999 _ _ _ fieldsLine heldLine_]
  simp [go_sem, Try.underlying43]
  by_cases k0 : a1 = a2 <;> by_cases k1 : b1 = b2 <;> by_cases k2 : c1 = c2 <;> by_cases k3 : d1 = d2 <;> by_cases k4 : e1 = e2 <;> by_cases k5 : f1 = f2 <;> simp [eqB, *]
theorem neq_line (x y : LineD) (w : World) : (binOp .neq 43 (.agg #[.bool x.valid, .int .i64 x.tag, .int .i64 x.page, .int .i64 x.frame, .int .i64 x.rights, .bool x.wired]) (.agg #[.bool y.valid, .int .i64 y.tag, .int .i64 y.page, .int .i64 y.frame, .int .i64 y.rights, .bool y.wired])).run Try.prog w = .ok (.bool (!eqB x y)) w := by
  rw [run_neq_struct, eqIn_line]; rfl
theorem eql_line (x y : LineD) (w : World) : (binOp .eql 43 (.agg #[.bool x.valid, .int .i64 x.tag, .int .i64 x.page, .int .i64 x.frame, .int .i64 x.rights, .bool x.wired]) (.agg #[.bool y.valid, .int .i64 y.tag, .int .i64 y.page, .int .i64 y.frame, .int .i64 y.rights, .bool y.wired])).run Try.prog w = .ok (.bool (eqB x y)) w := by
  rw [run_eql_struct, eqIn_line]; rfl

set_option maxHeartbeats 1000000 in
theorem equalLine_c (A B : Option Addr) (c d : Nat) (xs ys : List LineD) (w : World) (hx : Rd w A xs) (hy : Rd w B ys) (hn : xs.length ≤ 1048576) (hm : ys.length ≤ 1048576) :
   Calls Try.prog 26 #[.slice A xs.length c, .slice B ys.length d] w
   fun r w' => r = .returned (.bool (eqB xs ys)) ∧ Ex w w' := by
  by_cases hl : xs.length = ys.length
  · obtain ⟨n, hn1⟩ : ∃ n, n = xs.length := ⟨_, rfl⟩
    obtain ⟨m, hm1⟩ : ∃ m, m = ys.length := ⟨_, rfl⟩
    rw [← hn1, ← hm1]
    obtain rfl : n = m := by omega
    have hn' : n ≤ 1048576 := by omega
    have HX := Lib.hid hn1
    have HY := Lib.hid hm1
    have H1 := Lib.hid hx
    have H2 := Lib.hid hy
    clear hn hm hn1 hm1 hx hy hl
    go_enter Try.func26, Try.ntmps26
    go_wp2
    go_loopw [13] (fun i wr => ∃ k : Nat, k ≤ n ∧ i = .int .i64 k ∧ Ex w wr ∧ xs.take k = ys.take k) (fun i _ => n - (intOf i).toNat)
    case atStart => exact ⟨0, Nat.zero_le _, rfl, Ex.refl _, rfl⟩
    case round =>
      obtain ⟨k, hk, rfl, hbel, htk⟩ := hrel
      have HT := Lib.hid htk
      clear htk
      by_cases hlt : k < n
      · obtain ⟨b1, o1, x, rfl, hb1, hxk, h0, h1, h2, h3, h4, h5⟩ := Rd.line (H1.out.ex hbel) (k := k) (by have := HX.out; omega)
        obtain ⟨b2, o2, y, rfl, hb2, hyk, g0, g1, g2, g3, g4, g5⟩ := Rd.line (H2.out.ex hbel) (k := k) (by have := HY.out; omega)
        have HXK := Lib.hid hxk
        have HYK := Lib.hid hyk
        clear hxk hyk
        have hneq := neq_line x y
        have hgd := guardLine
        cases hxy : eqB x y
        · have hne : x ≠ y := eqB_false.1 hxy
          go_wp2_with fail
          go_quiet (fail)
          clear hneq hgd
          go_wp2
          go_ret
          exact ⟨ret_bool (by rw [eq_comm, eqB_false]; exact ne_of_elem HXK.out HYK.out hne), hbel.drewN _⟩
        · have HE := Lib.hid (eqB_true.1 hxy)
          go_wp2_with fail
          go_quiet (fail)
          clear hneq hgd
          go_wp2
          go_roundw
          case rel => exact ⟨k + 1, by omega, by go_num, hbel.drewN _, (take_eq_step HXK.out HYK.out).2 ⟨HT.out, HE.out⟩⟩
          case measure => simp [intOf]; omega
      · go_wp2
        go_ret
        exact ⟨ret_bool (by rw [eq_comm, eqB_true]; exact eq_of_take HX.out.symm HY.out.symm (by rw [show n = k from by omega]; exact HT.out)), hbel⟩
  · have hne : ((xs.length : Int) != (ys.length : Int)) = true := by simp; omega
    go_enter Try.func26, Try.ntmps26
    go_wp2
    go_ret
    exact ⟨ret_bool (by rw [eq_comm, eqB_false]; intro h; exact hl (by rw [h])), Ex.refl _⟩

theorem infoLine : (Try.prog.info? 43).map (fun i => (i.zero, i.size, i.bytes)) = some (some (.agg #[.bool false, .int .i64 0, .int .i64 0, .int .i64 0, .int .i64 0, .bool false]), 6, 48) := by kernel_rfl

def mkLine (k : Int) : LineD := ⟨(k) % 3 == 0, k + 1, k + 1 + 1, k + 1 + 1 + 1, k + 1 + 1 + 1 + 1, (k + 1 + 1 + 1 + 1 + 1) % 3 == 0⟩

end Go.Proofs.Ytidnefcnojedoaa
