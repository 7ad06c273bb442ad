/- The law FnExactLeaveTag: the walk. -/
import Derived.Test.YtkiohppknlmfaaaTl
import Derived.Test.YtkiohppknlmfaaaTk
import Derived.Test.YtkiohppknlmfaaaTc
import Derived.Test.YtkiohppknlmfaaaChg
import Derived.Deep.RegionHeld3
namespace Go.Proofs.Ytkiohppknlmfaaa
open Go.ChangeShapes Go.WideShapes Go.ChangeAt Go.RowKit
open Rec (sz cs)
set_option linter.unusedVariables false
set_option maxRecDepth 100000

set_option maxHeartbeats 4000000 in
theorem walk_FnExactLeaveTag (t : TagsD) (A : Option Addr) (c : Nat) (s : Int) (w : World) (hx : Rd w A t.owns) (hxl : t.owns.length ≤ maxLen) :
    Calls Try.prog 11 #[.agg #[.int .i64 t.count, .int .i64 t.next, .int .i64 t.round, .slice A t.owns.length c], .int .i64 s] w fun r w' => r = .returned (.bool true) ∧ Ex w w' := by
  have HX := Lib.hid hx
  have HXL := Lib.hid hxl
  clear hx hxl
  by_cases h1 : (1048576 : Int) < t.owns.length
  · go_enter Try.func11, Try.ntmps11
    go_wp2_with fail
    refine name_calls ?_; intro v1 hv1
    have X1 : Hid (Chg (0) (0) w v1) := Lib.hid (by rw [hv1]; repeat' (first | with_reducible exact Chg.refl _ _ _ | with_reducible refine Chg.alloc ?_ _ | with_reducible refine Chg.drew ?_ | with_reducible refine Chg.set ?_ (by omega) _))
    have t1 : w.heap.size ≤ v1.heap.size := X1.out.size
    have Ev1 : Hid (Ex w v1) := Lib.hid ((Ex.refl w).chg X1.out (by omega))
    clear hv1
    refine (szTags_c t _ _ _ _ (by omega) (by omega) HXL.out).mono ?_; rintro r w1 ⟨rfl, hb1⟩
    have Y1 : Hid (Chg 0 0 v1 w1) := Lib.hid (Chg.of_ex hb1)
    have s1 : v1.heap.size ≤ w1.heap.size := Y1.out.size
    have Ew1 : Hid (Ex w w1) := Lib.hid (Ev1.out.chg Y1.out (by omega))
    clear hb1
    rw [szI_neg (by omega)]
    go_wp2
    go_ret
    exact ⟨rfl, Ew1.out⟩
  have hn : t.owns.length ≤ 1048576 := by omega
  have h3 : ¬ ((1048576 : Int) - t.owns.length < 0) := by omega
  have C1 := Lib.hid (leaveTagS_c t s)
  have C2 := Lib.hid (leaveTagI_c t s)
  have hfew := leaveTag_few t s hn
  generalize leaveTag t s = qq at C1 C2 hfew
  obtain ⟨u, o0⟩ := qq
  dsimp only at C1 C2 hfew
  have hv0 : (o0 != o0) = false := by simp
  have hnn : ¬ ((1 : Int) + 2 * (t.owns.length : Int) < 0) := by omega
  have hnu : ¬ ((1 : Int) + 2 * (u.owns.length : Int) < 0) := by omega
  go_enter Try.func11, Try.ntmps11
  go_wp2_with fail
  refine name_calls ?_; intro v1 hv1
  have X1 : Hid (Chg (0) (0) w v1) := Lib.hid (by rw [hv1]; repeat' (first | with_reducible exact Chg.refl _ _ _ | with_reducible refine Chg.alloc ?_ _ | with_reducible refine Chg.drew ?_ | with_reducible refine Chg.set ?_ (by omega) _))
  have t1 : w.heap.size ≤ v1.heap.size := X1.out.size
  have Ev1 : Hid (Ex w v1) := Lib.hid ((Ex.refl w).chg X1.out (by omega))
  have KX : Hid (Blk v1 (w.heap.size) 24 [.int .i64 t.count, .int .i64 t.next, .int .i64 t.round, .slice A t.owns.length c]) := Lib.hid (by rw [hv1]; repeat' (first | with_reducible exact Blk.new_at _ _ _ (by simp) | with_reducible refine Blk.alloc ?_ _ | with_reducible refine Blk.drew ?_ | with_reducible refine Blk.far ?_ (by simp; omega) _))
  have lX : w.heap.size < v1.heap.size := KX.out.lt
  have DX := Lib.hid (HX.out.ex Ev1.out)
  clear hv1
  refine (szTags_c t _ _ _ _ (by omega) (by omega) HXL.out).mono ?_; rintro r w1 ⟨rfl, hb1⟩
  have Y1 : Hid (Chg 0 0 v1 w1) := Lib.hid (Chg.of_ex hb1)
  have s1 : v1.heap.size ≤ w1.heap.size := Y1.out.size
  have Ew1 : Hid (Ex w w1) := Lib.hid (Ev1.out.chg Y1.out (by omega))
  clear hb1
  replace KX : Hid (Blk w1 (w.heap.size) 24 [.int .i64 t.count, .int .i64 t.next, .int .i64 t.round, .slice A t.owns.length c]) := Lib.hid (KX.out.chg Y1.out (by omega))
  replace DX := Lib.hid (HX.out.ex Ew1.out)
  obtain ⟨qX0, qX1, qX2, qX3⟩ := KX.out.c4
  have jX := KX.out.lt
  rw [szI_pos (by omega)]
  go_wp2_with fail
  refine name_calls ?_; intro v2 hv2
  have X2 : Hid (Chg (0) (0) w1 v2) := Lib.hid (by rw [hv2]; repeat' (first | with_reducible exact Chg.refl _ _ _ | with_reducible refine Chg.alloc ?_ _ | with_reducible refine Chg.drew ?_ | with_reducible refine Chg.set ?_ (by omega) _))
  have t2 : w1.heap.size ≤ v2.heap.size := X2.out.size
  have Ev2 : Hid (Ex w v2) := Lib.hid (Ew1.out.chg X2.out (by omega))
  clear qX0 qX1 qX2 qX3 jX
  replace KX : Hid (Blk v2 (w.heap.size) 24 [.int .i64 t.count, .int .i64 t.next, .int .i64 t.round, .slice A t.owns.length c]) := Lib.hid (KX.out.chg X2.out (by omega))
  replace DX := Lib.hid (HX.out.ex Ev2.out)
  clear hv2
  refine (toTags_c t A c _ DX.out hn).mono ?_; rintro r w2 ⟨A2, c2, rfl, hf2, hb2⟩
  have Y2 : Hid (Chg 0 0 v2 w2) := Lib.hid (Chg.of_ex hb2)
  have s2 : v2.heap.size ≤ w2.heap.size := Y2.out.size
  have Ew2 : Hid (Ex w w2) := Lib.hid (Ev2.out.chg Y2.out (by omega))
  clear hb2
  replace KX : Hid (Blk w2 (w.heap.size) 24 [.int .i64 t.count, .int .i64 t.next, .int .i64 t.round, .slice A t.owns.length c]) := Lib.hid (KX.out.chg Y2.out (by omega))
  replace DX := Lib.hid (HX.out.ex Ew2.out)
  have HF2 := Lib.hid hf2; clear hf2
  have WHF2 := Lib.hid HF2.out.row
  obtain ⟨qX0, qX1, qX2, qX3⟩ := KX.out.c4
  have jX := KX.out.lt
  go_wp2_with fail
  refine name_calls ?_; intro v3 hv3
  have X3 : Hid (Chg (0) (0) w2 v3) := Lib.hid (by rw [hv3]; repeat' (first | with_reducible exact Chg.refl _ _ _ | with_reducible refine Chg.alloc ?_ _ | with_reducible refine Chg.drew ?_ | with_reducible refine Chg.set ?_ (by omega) _))
  have t3 : w2.heap.size ≤ v3.heap.size := X3.out.size
  have Ev3 : Hid (Ex w v3) := Lib.hid (Ew2.out.chg X3.out (by omega))
  clear qX0 qX1 qX2 qX3 jX
  replace KX : Hid (Blk v3 (w.heap.size) 24 [.int .i64 t.count, .int .i64 t.next, .int .i64 t.round, .slice A t.owns.length c]) := Lib.hid (KX.out.chg X3.out (by omega))
  replace HF2 := Lib.hid (HF2.out.chg X3.out WHF2.out (by omega))
  replace DX := Lib.hid (HX.out.ex Ev3.out)
  clear hv3
  refine (C1.out A2 c2 _ HF2.out.rd hn HF2.out.le HF2.out.cap).mono ?_; rintro r w3 ⟨A3, c3, rfl, hf3, hb3⟩
  have Y3 : Hid (Chg 0 0 v3 w3) := Lib.hid (Chg.of_ex hb3)
  have s3 : v3.heap.size ≤ w3.heap.size := Y3.out.size
  have Ew3 : Hid (Ex w w3) := Lib.hid (Ev3.out.chg Y3.out (by omega))
  clear hb3
  replace KX : Hid (Blk w3 (w.heap.size) 24 [.int .i64 t.count, .int .i64 t.next, .int .i64 t.round, .slice A t.owns.length c]) := Lib.hid (KX.out.chg Y3.out (by omega))
  replace HF2 := Lib.hid (HF2.out.chg Y3.out WHF2.out (by omega))
  replace DX := Lib.hid (HX.out.ex Ew3.out)
  have HF3 := Lib.hid hf3; clear hf3
  have WHF3 := Lib.hid HF3.out.row
  obtain ⟨qX0, qX1, qX2, qX3⟩ := KX.out.c4
  have jX := KX.out.lt
  clear HF2 WHF2
  go_wp2_with fail
  refine name_calls ?_; intro v4 hv4
  have X4 : Hid (Chg (0) (0) w3 v4) := Lib.hid (by rw [hv4]; repeat' (first | with_reducible exact Chg.refl _ _ _ | with_reducible refine Chg.alloc ?_ _ | with_reducible refine Chg.drew ?_ | with_reducible refine Chg.set ?_ (by omega) _))
  have t4 : w3.heap.size ≤ v4.heap.size := X4.out.size
  have Ev4 : Hid (Ex w v4) := Lib.hid (Ew3.out.chg X4.out (by omega))
  clear qX0 qX1 qX2 qX3 jX
  replace KX : Hid (Blk v4 (w.heap.size) 24 [.int .i64 t.count, .int .i64 t.next, .int .i64 t.round, .slice A t.owns.length c]) := Lib.hid (KX.out.chg X4.out (by omega))
  replace HF3 := Lib.hid (HF3.out.chg X4.out WHF3.out (by omega))
  have KW : Hid (Blk v4 (w3.heap.size) 30 [.int .i64 u.count, .int .i64 u.next, .int .i64 u.round, .slice A3 u.owns.length c3]) := Lib.hid (by rw [hv4]; repeat' (first | with_reducible exact Blk.new_at _ _ _ (by simp) | with_reducible refine Blk.alloc ?_ _ | with_reducible refine Blk.drew ?_ | with_reducible refine Blk.far ?_ (by simp; omega) _))
  have lW : w3.heap.size < v4.heap.size := KW.out.lt
  replace DX := Lib.hid (HX.out.ex Ev4.out)
  clear hv4
  refine (toTags_c t A c _ DX.out hn).mono ?_; rintro r w4 ⟨A4, c4, rfl, hf4, hb4⟩
  have Y4 : Hid (Chg 0 0 v4 w4) := Lib.hid (Chg.of_ex hb4)
  have s4 : v4.heap.size ≤ w4.heap.size := Y4.out.size
  have Ew4 : Hid (Ex w w4) := Lib.hid (Ev4.out.chg Y4.out (by omega))
  clear hb4
  replace KX : Hid (Blk w4 (w.heap.size) 24 [.int .i64 t.count, .int .i64 t.next, .int .i64 t.round, .slice A t.owns.length c]) := Lib.hid (KX.out.chg Y4.out (by omega))
  replace KW : Hid (Blk w4 (w3.heap.size) 30 [.int .i64 u.count, .int .i64 u.next, .int .i64 u.round, .slice A3 u.owns.length c3]) := Lib.hid (KW.out.chg Y4.out (by omega))
  replace HF3 := Lib.hid (HF3.out.chg Y4.out WHF3.out (by omega))
  replace DX := Lib.hid (HX.out.ex Ew4.out)
  have HF4 := Lib.hid hf4; clear hf4
  have WHF4 := Lib.hid HF4.out.row
  obtain ⟨qX0, qX1, qX2, qX3⟩ := KX.out.c4
  have jX := KX.out.lt
  obtain ⟨qW0, qW1, qW2, qW3⟩ := KW.out.c4
  have jW := KW.out.lt
  go_wp2_with fail
  refine name_calls ?_; intro v5 hv5
  have X5 : Hid (Chg (0) (0) w4 v5) := Lib.hid (by rw [hv5]; repeat' (first | with_reducible exact Chg.refl _ _ _ | with_reducible refine Chg.alloc ?_ _ | with_reducible refine Chg.drew ?_ | with_reducible refine Chg.set ?_ (by omega) _))
  have t5 : w4.heap.size ≤ v5.heap.size := X5.out.size
  have Ev5 : Hid (Ex w v5) := Lib.hid (Ew4.out.chg X5.out (by omega))
  clear qX0 qX1 qX2 qX3 jX
  clear qW0 qW1 qW2 qW3 jW
  replace KX : Hid (Blk v5 (w.heap.size) 24 [.int .i64 t.count, .int .i64 t.next, .int .i64 t.round, .slice A t.owns.length c]) := Lib.hid (KX.out.chg X5.out (by omega))
  replace KW : Hid (Blk v5 (w3.heap.size) 30 [.int .i64 u.count, .int .i64 u.next, .int .i64 u.round, .slice A3 u.owns.length c3]) := Lib.hid (KW.out.chg X5.out (by omega))
  replace HF3 := Lib.hid (HF3.out.chg X5.out WHF3.out (by omega))
  replace HF4 := Lib.hid (HF4.out.chg X5.out WHF4.out (by omega))
  have KZ : Hid (Blk v5 (w4.heap.size) 30 [.int .i64 t.count, .int .i64 t.next, .int .i64 t.round, .slice A4 t.owns.length c4]) := Lib.hid (by rw [hv5]; repeat' (first | with_reducible exact Blk.new_at _ _ _ (by simp) | with_reducible refine Blk.alloc ?_ _ | with_reducible refine Blk.drew ?_ | with_reducible refine Blk.far ?_ (by simp; omega) _))
  have lZ : w4.heap.size < v5.heap.size := KZ.out.lt
  replace DX := Lib.hid (HX.out.ex Ev5.out)
  clear hv5
  refine (C2.out A4 c4 _ HF4.out.rd hn HF4.out.le HF4.out.cap).mono ?_; rintro r w5 ⟨A5, c5, rfl, hf5, hb5⟩
  have Y5 : Hid (Chg 0 0 v5 w5) := Lib.hid (Chg.of_ex hb5)
  have s5 : v5.heap.size ≤ w5.heap.size := Y5.out.size
  have Ew5 : Hid (Ex w w5) := Lib.hid (Ev5.out.chg Y5.out (by omega))
  clear hb5
  replace KX : Hid (Blk w5 (w.heap.size) 24 [.int .i64 t.count, .int .i64 t.next, .int .i64 t.round, .slice A t.owns.length c]) := Lib.hid (KX.out.chg Y5.out (by omega))
  replace KW : Hid (Blk w5 (w3.heap.size) 30 [.int .i64 u.count, .int .i64 u.next, .int .i64 u.round, .slice A3 u.owns.length c3]) := Lib.hid (KW.out.chg Y5.out (by omega))
  replace KZ : Hid (Blk w5 (w4.heap.size) 30 [.int .i64 t.count, .int .i64 t.next, .int .i64 t.round, .slice A4 t.owns.length c4]) := Lib.hid (KZ.out.chg Y5.out (by omega))
  replace HF3 := Lib.hid (HF3.out.chg Y5.out WHF3.out (by omega))
  replace HF4 := Lib.hid (HF4.out.chg Y5.out WHF4.out (by omega))
  replace DX := Lib.hid (HX.out.ex Ew5.out)
  have HF5 := Lib.hid hf5; clear hf5
  have WHF5 := Lib.hid HF5.out.row
  obtain ⟨qX0, qX1, qX2, qX3⟩ := KX.out.c4
  have jX := KX.out.lt
  obtain ⟨qW0, qW1, qW2, qW3⟩ := KW.out.c4
  have jW := KW.out.lt
  obtain ⟨qZ0, qZ1, qZ2, qZ3⟩ := KZ.out.c4
  have jZ := KZ.out.lt
  go_wp2_with fail
  refine name_calls ?_; intro v6 hv6
  have X6 : Hid (Chg (0) (0) w5 v6) := Lib.hid (by rw [hv6]; repeat' (first | with_reducible exact Chg.refl _ _ _ | with_reducible refine Chg.alloc ?_ _ | with_reducible refine Chg.drew ?_ | with_reducible refine Chg.set ?_ (by omega) _))
  have t6 : w5.heap.size ≤ v6.heap.size := X6.out.size
  have Ev6 : Hid (Ex w v6) := Lib.hid (Ew5.out.chg X6.out (by omega))
  clear qX0 qX1 qX2 qX3 jX
  clear qW0 qW1 qW2 qW3 jW
  clear qZ0 qZ1 qZ2 qZ3 jZ
  replace KX : Hid (Blk v6 (w.heap.size) 24 [.int .i64 t.count, .int .i64 t.next, .int .i64 t.round, .slice A t.owns.length c]) := Lib.hid (KX.out.chg X6.out (by omega))
  replace KW : Hid (Blk v6 (w3.heap.size) 30 [.int .i64 u.count, .int .i64 u.next, .int .i64 u.round, .slice A3 u.owns.length c3]) := Lib.hid (KW.out.chg X6.out (by omega))
  replace KZ : Hid (Blk v6 (w4.heap.size) 30 [.int .i64 t.count, .int .i64 t.next, .int .i64 t.round, .slice A4 t.owns.length c4]) := Lib.hid (KZ.out.chg X6.out (by omega))
  replace HF3 := Lib.hid (HF3.out.chg X6.out WHF3.out (by omega))
  replace HF4 := Lib.hid (HF4.out.chg X6.out WHF4.out (by omega))
  replace HF5 := Lib.hid (HF5.out.chg X6.out WHF5.out (by omega))
  have KG : Hid (Blk v6 (w5.heap.size) 30 [.int .i64 u.count, .int .i64 u.next, .int .i64 u.round, .slice A5 u.owns.length c5]) := Lib.hid (by rw [hv6]; repeat' (first | with_reducible exact Blk.new_at _ _ _ (by simp) | with_reducible refine Blk.alloc ?_ _ | with_reducible refine Blk.drew ?_ | with_reducible refine Blk.far ?_ (by simp; omega) _))
  have lG : w5.heap.size < v6.heap.size := KG.out.lt
  replace DX := Lib.hid (HX.out.ex Ev6.out)
  clear hv6
  refine (eqTags_self_c u _ _ _ _ _ HF5.out.rd HF3.out.rd hfew).mono ?_; rintro r w6 ⟨rfl, hb6⟩
  have Y6 : Hid (Chg 0 0 v6 w6) := Lib.hid (Chg.of_ex hb6)
  have s6 : v6.heap.size ≤ w6.heap.size := Y6.out.size
  have Ew6 : Hid (Ex w w6) := Lib.hid (Ev6.out.chg Y6.out (by omega))
  clear hb6
  replace KX : Hid (Blk w6 (w.heap.size) 24 [.int .i64 t.count, .int .i64 t.next, .int .i64 t.round, .slice A t.owns.length c]) := Lib.hid (KX.out.chg Y6.out (by omega))
  replace KW : Hid (Blk w6 (w3.heap.size) 30 [.int .i64 u.count, .int .i64 u.next, .int .i64 u.round, .slice A3 u.owns.length c3]) := Lib.hid (KW.out.chg Y6.out (by omega))
  replace KZ : Hid (Blk w6 (w4.heap.size) 30 [.int .i64 t.count, .int .i64 t.next, .int .i64 t.round, .slice A4 t.owns.length c4]) := Lib.hid (KZ.out.chg Y6.out (by omega))
  replace KG : Hid (Blk w6 (w5.heap.size) 30 [.int .i64 u.count, .int .i64 u.next, .int .i64 u.round, .slice A5 u.owns.length c5]) := Lib.hid (KG.out.chg Y6.out (by omega))
  replace HF3 := Lib.hid (HF3.out.chg Y6.out WHF3.out (by omega))
  replace HF4 := Lib.hid (HF4.out.chg Y6.out WHF4.out (by omega))
  replace HF5 := Lib.hid (HF5.out.chg Y6.out WHF5.out (by omega))
  replace DX := Lib.hid (HX.out.ex Ew6.out)
  obtain ⟨qX0, qX1, qX2, qX3⟩ := KX.out.c4
  have jX := KX.out.lt
  obtain ⟨qW0, qW1, qW2, qW3⟩ := KW.out.c4
  have jW := KW.out.lt
  obtain ⟨qZ0, qZ1, qZ2, qZ3⟩ := KZ.out.c4
  have jZ := KZ.out.lt
  obtain ⟨qG0, qG1, qG2, qG3⟩ := KG.out.c4
  have jG := KG.out.lt
  go_wp2_with fail
  go_region_held3 (fun w' => (w'.cell? ⟨w4.heap.size, 0, none⟩ = some (.int .i64 t.count) ∧ w'.cell? ⟨w4.heap.size, 1, none⟩ = some (.int .i64 t.next) ∧ w'.cell? ⟨w4.heap.size, 2, none⟩ = some (.int .i64 t.round) ∧ w'.cell? ⟨w4.heap.size, 3, none⟩ = some (.slice A4 t.owns.length c4)) ∧ (w'.cell? ⟨w.heap.size, 0, none⟩ = some (.int .i64 t.count) ∧ w'.cell? ⟨w.heap.size, 1, none⟩ = some (.int .i64 t.next) ∧ w'.cell? ⟨w.heap.size, 2, none⟩ = some (.int .i64 t.round) ∧ w'.cell? ⟨w.heap.size, 3, none⟩ = some (.slice A t.owns.length c))) (first | exact ⟨KZ.out.c4, KX.out.c4⟩ | exact ⟨(Blk.ex (Blk.drew KZ.out) hb7a).c4, (Blk.ex (Blk.drew KX.out) hb7a).c4⟩ | exact ⟨(Blk.ex (Blk.ex (Blk.drew KZ.out) hb7a) hb7).c4, (Blk.ex (Blk.ex (Blk.drew KX.out) hb7a) hb7).c4⟩) (first | (go_at_call 24; (with_reducible refine (toTags_c t A c _ ?_ hn).mono ?_); (exact Rd.drew DX.out); rintro r w7a ⟨A7, c7, rfl, hf7, hb7a⟩) | (go_at_call 26; (with_reducible refine (eqTags_self_c t _ _ _ _ _ ?_ ?_ hn).mono ?_); (exact (Rd.drew HF4.out.rd).ex hb7a); (exact hf7.rd); rintro r w7 ⟨rfl, hb7⟩))
  rename_i hHeld
  clear hHeld
  have Y7 : Hid (Chg 0 0 w6 w7) := Lib.hid (Chg.of_ex ((((Ex.refl _).drew).trans hb7a).trans hb7))
  have s7 : w6.heap.size ≤ w7.heap.size := Y7.out.size
  have Ew7 : Hid (Ex w w7) := Lib.hid (Ew6.out.chg Y7.out (by omega))
  clear hb7a hb7 hf7
  clear qX0 qX1 qX2 qX3 jX
  clear qW0 qW1 qW2 qW3 jW
  clear qZ0 qZ1 qZ2 qZ3 jZ
  clear qG0 qG1 qG2 qG3 jG
  replace KX : Hid (Blk w7 (w.heap.size) 24 [.int .i64 t.count, .int .i64 t.next, .int .i64 t.round, .slice A t.owns.length c]) := Lib.hid (KX.out.chg Y7.out (by omega))
  replace KW : Hid (Blk w7 (w3.heap.size) 30 [.int .i64 u.count, .int .i64 u.next, .int .i64 u.round, .slice A3 u.owns.length c3]) := Lib.hid (KW.out.chg Y7.out (by omega))
  replace KZ : Hid (Blk w7 (w4.heap.size) 30 [.int .i64 t.count, .int .i64 t.next, .int .i64 t.round, .slice A4 t.owns.length c4]) := Lib.hid (KZ.out.chg Y7.out (by omega))
  replace KG : Hid (Blk w7 (w5.heap.size) 30 [.int .i64 u.count, .int .i64 u.next, .int .i64 u.round, .slice A5 u.owns.length c5]) := Lib.hid (KG.out.chg Y7.out (by omega))
  replace HF3 := Lib.hid (HF3.out.chg Y7.out WHF3.out (by omega))
  replace HF4 := Lib.hid (HF4.out.chg Y7.out WHF4.out (by omega))
  replace HF5 := Lib.hid (HF5.out.chg Y7.out WHF5.out (by omega))
  replace DX := Lib.hid (HX.out.ex Ew7.out)
  obtain ⟨qX0, qX1, qX2, qX3⟩ := KX.out.c4
  have jX := KX.out.lt
  obtain ⟨qW0, qW1, qW2, qW3⟩ := KW.out.c4
  have jW := KW.out.lt
  obtain ⟨qZ0, qZ1, qZ2, qZ3⟩ := KZ.out.c4
  have jZ := KZ.out.lt
  obtain ⟨qG0, qG1, qG2, qG3⟩ := KG.out.c4
  have jG := KG.out.lt
  go_wp2_with fail
  refine name_calls ?_; intro v8 hv8
  have X8 : Hid (Chg (0) (0) w7 v8) := Lib.hid (by rw [hv8]; repeat' (first | with_reducible exact Chg.refl _ _ _ | with_reducible refine Chg.alloc ?_ _ | with_reducible refine Chg.drew ?_ | with_reducible refine Chg.set ?_ (by omega) _))
  have t8 : w7.heap.size ≤ v8.heap.size := X8.out.size
  have Ev8 : Hid (Ex w v8) := Lib.hid (Ew7.out.chg X8.out (by omega))
  clear qX0 qX1 qX2 qX3 jX
  clear qW0 qW1 qW2 qW3 jW
  clear qZ0 qZ1 qZ2 qZ3 jZ
  clear qG0 qG1 qG2 qG3 jG
  replace KX : Hid (Blk v8 (w.heap.size) 24 [.int .i64 t.count, .int .i64 t.next, .int .i64 t.round, .slice A t.owns.length c]) := Lib.hid (KX.out.chg X8.out (by omega))
  replace KW : Hid (Blk v8 (w3.heap.size) 30 [.int .i64 u.count, .int .i64 u.next, .int .i64 u.round, .slice A3 u.owns.length c3]) := Lib.hid (KW.out.chg X8.out (by omega))
  replace KZ : Hid (Blk v8 (w4.heap.size) 30 [.int .i64 t.count, .int .i64 t.next, .int .i64 t.round, .slice A4 t.owns.length c4]) := Lib.hid (KZ.out.chg X8.out (by omega))
  replace KG : Hid (Blk v8 (w5.heap.size) 30 [.int .i64 u.count, .int .i64 u.next, .int .i64 u.round, .slice A5 u.owns.length c5]) := Lib.hid (KG.out.chg X8.out (by omega))
  replace HF3 := Lib.hid (HF3.out.chg X8.out WHF3.out (by omega))
  replace HF4 := Lib.hid (HF4.out.chg X8.out WHF4.out (by omega))
  replace HF5 := Lib.hid (HF5.out.chg X8.out WHF5.out (by omega))
  replace DX := Lib.hid (HX.out.ex Ev8.out)
  clear hv8
  refine (markTags_c t _ _ _ _ _ HF4.out hn (by omega) (by omega)).mono ?_; rintro r w8 ⟨rfl, hf8, hb8⟩
  have Y8 : Hid (Chg (v4.heap.size) (w4.heap.size) v8 w8) := Lib.hid (Chg.of_grown hb8 WHF4.out)
  have s8 : v8.heap.size ≤ w8.heap.size := Y8.out.size
  have Ew8 : Hid (Ex w w8) := Lib.hid (Ev8.out.chg Y8.out (by omega))
  clear hb8
  replace KX : Hid (Blk w8 (w.heap.size) 24 [.int .i64 t.count, .int .i64 t.next, .int .i64 t.round, .slice A t.owns.length c]) := Lib.hid (KX.out.chg Y8.out (by omega))
  replace KW : Hid (Blk w8 (w3.heap.size) 30 [.int .i64 u.count, .int .i64 u.next, .int .i64 u.round, .slice A3 u.owns.length c3]) := Lib.hid (KW.out.chg Y8.out (by omega))
  replace KZ : Hid (Blk w8 (w4.heap.size) 30 [.int .i64 t.count, .int .i64 t.next, .int .i64 t.round, .slice A4 t.owns.length c4]) := Lib.hid (KZ.out.chg Y8.out (by omega))
  replace KG : Hid (Blk w8 (w5.heap.size) 30 [.int .i64 u.count, .int .i64 u.next, .int .i64 u.round, .slice A5 u.owns.length c5]) := Lib.hid (KG.out.chg Y8.out (by omega))
  replace HF3 := Lib.hid (HF3.out.chg Y8.out WHF3.out (by omega))
  replace HF5 := Lib.hid (HF5.out.chg Y8.out WHF5.out (by omega))
  replace DX := Lib.hid (HX.out.ex Ew8.out)
  have HF8 := Lib.hid hf8; clear hf8
  have WHF8 := WHF4
  clear HF4 WHF4
  obtain ⟨qX0, qX1, qX2, qX3⟩ := KX.out.c4
  have jX := KX.out.lt
  obtain ⟨qW0, qW1, qW2, qW3⟩ := KW.out.c4
  have jW := KW.out.lt
  obtain ⟨qZ0, qZ1, qZ2, qZ3⟩ := KZ.out.c4
  have jZ := KZ.out.lt
  obtain ⟨qG0, qG1, qG2, qG3⟩ := KG.out.c4
  have jG := KG.out.lt
  go_wp2_with fail
  refine name_calls ?_; intro v9 hv9
  have X9 : Hid (Chg (0) (0) w8 v9) := Lib.hid (by rw [hv9]; repeat' (first | with_reducible exact Chg.refl _ _ _ | with_reducible refine Chg.alloc ?_ _ | with_reducible refine Chg.drew ?_ | with_reducible refine Chg.set ?_ (by omega) _))
  have t9 : w8.heap.size ≤ v9.heap.size := X9.out.size
  have Ev9 : Hid (Ex w v9) := Lib.hid (Ew8.out.chg X9.out (by omega))
  clear qX0 qX1 qX2 qX3 jX
  clear qW0 qW1 qW2 qW3 jW
  clear qZ0 qZ1 qZ2 qZ3 jZ
  clear qG0 qG1 qG2 qG3 jG
  replace KX : Hid (Blk v9 (w.heap.size) 24 [.int .i64 t.count, .int .i64 t.next, .int .i64 t.round, .slice A t.owns.length c]) := Lib.hid (KX.out.chg X9.out (by omega))
  replace KW : Hid (Blk v9 (w3.heap.size) 30 [.int .i64 u.count, .int .i64 u.next, .int .i64 u.round, .slice A3 u.owns.length c3]) := Lib.hid (KW.out.chg X9.out (by omega))
  replace KZ : Hid (Blk v9 (w4.heap.size) 30 [.int .i64 t.count, .int .i64 t.next, .int .i64 t.round, .slice A4 t.owns.length c4]) := Lib.hid (KZ.out.chg X9.out (by omega))
  replace KG : Hid (Blk v9 (w5.heap.size) 30 [.int .i64 u.count, .int .i64 u.next, .int .i64 u.round, .slice A5 u.owns.length c5]) := Lib.hid (KG.out.chg X9.out (by omega))
  replace HF3 := Lib.hid (HF3.out.chg X9.out WHF3.out (by omega))
  replace HF5 := Lib.hid (HF5.out.chg X9.out WHF5.out (by omega))
  replace HF8 := Lib.hid (HF8.out.chg X9.out WHF8.out (by omega))
  replace DX := Lib.hid (HX.out.ex Ev9.out)
  clear hv9
  refine (eqTags_self_c u _ _ _ _ _ HF5.out.rd HF3.out.rd hfew).mono ?_; rintro r w9 ⟨rfl, hb9⟩
  have Y9 : Hid (Chg 0 0 v9 w9) := Lib.hid (Chg.of_ex hb9)
  have s9 : v9.heap.size ≤ w9.heap.size := Y9.out.size
  have Ew9 : Hid (Ex w w9) := Lib.hid (Ev9.out.chg Y9.out (by omega))
  clear hb9
  replace KX : Hid (Blk w9 (w.heap.size) 24 [.int .i64 t.count, .int .i64 t.next, .int .i64 t.round, .slice A t.owns.length c]) := Lib.hid (KX.out.chg Y9.out (by omega))
  replace KW : Hid (Blk w9 (w3.heap.size) 30 [.int .i64 u.count, .int .i64 u.next, .int .i64 u.round, .slice A3 u.owns.length c3]) := Lib.hid (KW.out.chg Y9.out (by omega))
  replace KZ : Hid (Blk w9 (w4.heap.size) 30 [.int .i64 t.count, .int .i64 t.next, .int .i64 t.round, .slice A4 t.owns.length c4]) := Lib.hid (KZ.out.chg Y9.out (by omega))
  replace KG : Hid (Blk w9 (w5.heap.size) 30 [.int .i64 u.count, .int .i64 u.next, .int .i64 u.round, .slice A5 u.owns.length c5]) := Lib.hid (KG.out.chg Y9.out (by omega))
  replace HF3 := Lib.hid (HF3.out.chg Y9.out WHF3.out (by omega))
  replace HF5 := Lib.hid (HF5.out.chg Y9.out WHF5.out (by omega))
  replace HF8 := Lib.hid (HF8.out.chg Y9.out WHF8.out (by omega))
  replace DX := Lib.hid (HX.out.ex Ew9.out)
  obtain ⟨qX0, qX1, qX2, qX3⟩ := KX.out.c4
  have jX := KX.out.lt
  obtain ⟨qW0, qW1, qW2, qW3⟩ := KW.out.c4
  have jW := KW.out.lt
  obtain ⟨qZ0, qZ1, qZ2, qZ3⟩ := KZ.out.c4
  have jZ := KZ.out.lt
  obtain ⟨qG0, qG1, qG2, qG3⟩ := KG.out.c4
  have jG := KG.out.lt
  clear qZ0 qZ1 qZ2 qZ3 jZ
  clear KZ
  clear HF8 WHF8
  go_wp2_with fail
  refine name_calls ?_; intro v10 hv10
  have X10 : Hid (Chg (0) (0) w9 v10) := Lib.hid (by rw [hv10]; repeat' (first | with_reducible exact Chg.refl _ _ _ | with_reducible refine Chg.alloc ?_ _ | with_reducible refine Chg.drew ?_ | with_reducible refine Chg.set ?_ (by omega) _))
  have t10 : w9.heap.size ≤ v10.heap.size := X10.out.size
  have Ev10 : Hid (Ex w v10) := Lib.hid (Ew9.out.chg X10.out (by omega))
  clear qX0 qX1 qX2 qX3 jX
  clear qW0 qW1 qW2 qW3 jW
  clear qG0 qG1 qG2 qG3 jG
  replace KX : Hid (Blk v10 (w.heap.size) 24 [.int .i64 t.count, .int .i64 t.next, .int .i64 t.round, .slice A t.owns.length c]) := Lib.hid (KX.out.chg X10.out (by omega))
  replace KW : Hid (Blk v10 (w3.heap.size) 30 [.int .i64 u.count, .int .i64 u.next, .int .i64 u.round, .slice A3 u.owns.length c3]) := Lib.hid (KW.out.chg X10.out (by omega))
  replace KG : Hid (Blk v10 (w5.heap.size) 30 [.int .i64 u.count, .int .i64 u.next, .int .i64 u.round, .slice A5 u.owns.length c5]) := Lib.hid (KG.out.chg X10.out (by omega))
  replace HF3 := Lib.hid (HF3.out.chg X10.out WHF3.out (by omega))
  replace HF5 := Lib.hid (HF5.out.chg X10.out WHF5.out (by omega))
  replace DX := Lib.hid (HX.out.ex Ev10.out)
  clear hv10
  refine (markTags_c u _ _ _ _ _ HF5.out hfew (by omega) (by omega)).mono ?_; rintro r w10 ⟨rfl, hf10, hb10⟩
  have Y10 : Hid (Chg (v5.heap.size) (w5.heap.size) v10 w10) := Lib.hid (Chg.of_grown hb10 WHF5.out)
  have s10 : v10.heap.size ≤ w10.heap.size := Y10.out.size
  have Ew10 : Hid (Ex w w10) := Lib.hid (Ev10.out.chg Y10.out (by omega))
  clear hb10
  replace KX : Hid (Blk w10 (w.heap.size) 24 [.int .i64 t.count, .int .i64 t.next, .int .i64 t.round, .slice A t.owns.length c]) := Lib.hid (KX.out.chg Y10.out (by omega))
  replace KW : Hid (Blk w10 (w3.heap.size) 30 [.int .i64 u.count, .int .i64 u.next, .int .i64 u.round, .slice A3 u.owns.length c3]) := Lib.hid (KW.out.chg Y10.out (by omega))
  replace KG : Hid (Blk w10 (w5.heap.size) 30 [.int .i64 u.count, .int .i64 u.next, .int .i64 u.round, .slice A5 u.owns.length c5]) := Lib.hid (KG.out.chg Y10.out (by omega))
  replace HF3 := Lib.hid (HF3.out.chg Y10.out WHF3.out (by omega))
  replace DX := Lib.hid (HX.out.ex Ew10.out)
  have HF10 := Lib.hid hf10; clear hf10
  have WHF10 := WHF5
  clear HF5 WHF5
  obtain ⟨qX0, qX1, qX2, qX3⟩ := KX.out.c4
  have jX := KX.out.lt
  obtain ⟨qW0, qW1, qW2, qW3⟩ := KW.out.c4
  have jW := KW.out.lt
  obtain ⟨qG0, qG1, qG2, qG3⟩ := KG.out.c4
  have jG := KG.out.lt
  go_wp2_with fail
  refine name_calls ?_; intro v11 hv11
  have X11 : Hid (Chg (0) (0) w10 v11) := Lib.hid (by rw [hv11]; repeat' (first | with_reducible exact Chg.refl _ _ _ | with_reducible refine Chg.alloc ?_ _ | with_reducible refine Chg.drew ?_ | with_reducible refine Chg.set ?_ (by omega) _))
  have t11 : w10.heap.size ≤ v11.heap.size := X11.out.size
  have Ev11 : Hid (Ex w v11) := Lib.hid (Ew10.out.chg X11.out (by omega))
  clear qX0 qX1 qX2 qX3 jX
  clear qW0 qW1 qW2 qW3 jW
  clear qG0 qG1 qG2 qG3 jG
  replace KX : Hid (Blk v11 (w.heap.size) 24 [.int .i64 t.count, .int .i64 t.next, .int .i64 t.round, .slice A t.owns.length c]) := Lib.hid (KX.out.chg X11.out (by omega))
  replace KW : Hid (Blk v11 (w3.heap.size) 30 [.int .i64 u.count, .int .i64 u.next, .int .i64 u.round, .slice A3 u.owns.length c3]) := Lib.hid (KW.out.chg X11.out (by omega))
  replace KG : Hid (Blk v11 (w5.heap.size) 30 [.int .i64 u.count, .int .i64 u.next, .int .i64 u.round, .slice A5 u.owns.length c5]) := Lib.hid (KG.out.chg X11.out (by omega))
  replace HF3 := Lib.hid (HF3.out.chg X11.out WHF3.out (by omega))
  replace HF10 := Lib.hid (HF10.out.chg X11.out WHF10.out (by omega))
  replace DX := Lib.hid (HX.out.ex Ev11.out)
  clear hv11
  refine (heldTags_c _ _ _ _ _ _ _ _ HF10.out.rd hfew (by omega) (by omega)).mono ?_; rintro r w11 ⟨rfl, hb11⟩
  have Y11 : Hid (Chg 0 0 v11 w11) := Lib.hid (Chg.of_ex hb11)
  have s11 : v11.heap.size ≤ w11.heap.size := Y11.out.size
  have Ew11 : Hid (Ex w w11) := Lib.hid (Ev11.out.chg Y11.out (by omega))
  clear hb11
  replace KX : Hid (Blk w11 (w.heap.size) 24 [.int .i64 t.count, .int .i64 t.next, .int .i64 t.round, .slice A t.owns.length c]) := Lib.hid (KX.out.chg Y11.out (by omega))
  replace KW : Hid (Blk w11 (w3.heap.size) 30 [.int .i64 u.count, .int .i64 u.next, .int .i64 u.round, .slice A3 u.owns.length c3]) := Lib.hid (KW.out.chg Y11.out (by omega))
  replace KG : Hid (Blk w11 (w5.heap.size) 30 [.int .i64 u.count, .int .i64 u.next, .int .i64 u.round, .slice A5 u.owns.length c5]) := Lib.hid (KG.out.chg Y11.out (by omega))
  replace HF3 := Lib.hid (HF3.out.chg Y11.out WHF3.out (by omega))
  replace HF10 := Lib.hid (HF10.out.chg Y11.out WHF10.out (by omega))
  replace DX := Lib.hid (HX.out.ex Ew11.out)
  obtain ⟨qX0, qX1, qX2, qX3⟩ := KX.out.c4
  have jX := KX.out.lt
  obtain ⟨qW0, qW1, qW2, qW3⟩ := KW.out.c4
  have jW := KW.out.lt
  obtain ⟨qG0, qG1, qG2, qG3⟩ := KG.out.c4
  have jG := KG.out.lt
  go_wp2_with fail
  refine name_calls ?_; intro v12 hv12
  have X12 : Hid (Chg (0) (0) w11 v12) := Lib.hid (by rw [hv12]; repeat' (first | with_reducible exact Chg.refl _ _ _ | with_reducible refine Chg.alloc ?_ _ | with_reducible refine Chg.drew ?_ | with_reducible refine Chg.set ?_ (by omega) _))
  have t12 : w11.heap.size ≤ v12.heap.size := X12.out.size
  have Ev12 : Hid (Ex w v12) := Lib.hid (Ew11.out.chg X12.out (by omega))
  clear qX0 qX1 qX2 qX3 jX
  clear qW0 qW1 qW2 qW3 jW
  clear qG0 qG1 qG2 qG3 jG
  replace KX : Hid (Blk v12 (w.heap.size) 24 [.int .i64 t.count, .int .i64 t.next, .int .i64 t.round, .slice A t.owns.length c]) := Lib.hid (KX.out.chg X12.out (by omega))
  replace KW : Hid (Blk v12 (w3.heap.size) 30 [.int .i64 u.count, .int .i64 u.next, .int .i64 u.round, .slice A3 u.owns.length c3]) := Lib.hid (KW.out.chg X12.out (by omega))
  replace KG : Hid (Blk v12 (w5.heap.size) 30 [.int .i64 u.count, .int .i64 u.next, .int .i64 u.round, .slice A5 u.owns.length c5]) := Lib.hid (KG.out.chg X12.out (by omega))
  replace HF3 := Lib.hid (HF3.out.chg X12.out WHF3.out (by omega))
  replace HF10 := Lib.hid (HF10.out.chg X12.out WHF10.out (by omega))
  replace DX := Lib.hid (HX.out.ex Ev12.out)
  clear hv12
  refine (toTags_c t A c _ DX.out hn).mono ?_; rintro r w12 ⟨A12, c12, rfl, hf12, hb12⟩
  have Y12 : Hid (Chg 0 0 v12 w12) := Lib.hid (Chg.of_ex hb12)
  have s12 : v12.heap.size ≤ w12.heap.size := Y12.out.size
  have Ew12 : Hid (Ex w w12) := Lib.hid (Ev12.out.chg Y12.out (by omega))
  clear hb12
  replace KX : Hid (Blk w12 (w.heap.size) 24 [.int .i64 t.count, .int .i64 t.next, .int .i64 t.round, .slice A t.owns.length c]) := Lib.hid (KX.out.chg Y12.out (by omega))
  replace KW : Hid (Blk w12 (w3.heap.size) 30 [.int .i64 u.count, .int .i64 u.next, .int .i64 u.round, .slice A3 u.owns.length c3]) := Lib.hid (KW.out.chg Y12.out (by omega))
  replace KG : Hid (Blk w12 (w5.heap.size) 30 [.int .i64 u.count, .int .i64 u.next, .int .i64 u.round, .slice A5 u.owns.length c5]) := Lib.hid (KG.out.chg Y12.out (by omega))
  replace HF3 := Lib.hid (HF3.out.chg Y12.out WHF3.out (by omega))
  replace HF10 := Lib.hid (HF10.out.chg Y12.out WHF10.out (by omega))
  replace DX := Lib.hid (HX.out.ex Ew12.out)
  have HF12 := Lib.hid hf12; clear hf12
  have WHF12 := Lib.hid HF12.out.row
  obtain ⟨qX0, qX1, qX2, qX3⟩ := KX.out.c4
  have jX := KX.out.lt
  obtain ⟨qW0, qW1, qW2, qW3⟩ := KW.out.c4
  have jW := KW.out.lt
  obtain ⟨qG0, qG1, qG2, qG3⟩ := KG.out.c4
  have jG := KG.out.lt
  go_wp2_with fail
  refine name_calls ?_; intro v13 hv13
  have X13 : Hid (Chg (0) (0) w12 v13) := Lib.hid (by rw [hv13]; repeat' (first | with_reducible exact Chg.refl _ _ _ | with_reducible refine Chg.alloc ?_ _ | with_reducible refine Chg.drew ?_ | with_reducible refine Chg.set ?_ (by omega) _))
  have t13 : w12.heap.size ≤ v13.heap.size := X13.out.size
  have Ev13 : Hid (Ex w v13) := Lib.hid (Ew12.out.chg X13.out (by omega))
  clear qX0 qX1 qX2 qX3 jX
  clear qW0 qW1 qW2 qW3 jW
  clear qG0 qG1 qG2 qG3 jG
  replace KX : Hid (Blk v13 (w.heap.size) 24 [.int .i64 t.count, .int .i64 t.next, .int .i64 t.round, .slice A t.owns.length c]) := Lib.hid (KX.out.chg X13.out (by omega))
  replace KW : Hid (Blk v13 (w3.heap.size) 30 [.int .i64 u.count, .int .i64 u.next, .int .i64 u.round, .slice A3 u.owns.length c3]) := Lib.hid (KW.out.chg X13.out (by omega))
  replace KG : Hid (Blk v13 (w5.heap.size) 30 [.int .i64 u.count, .int .i64 u.next, .int .i64 u.round, .slice A5 u.owns.length c5]) := Lib.hid (KG.out.chg X13.out (by omega))
  replace HF3 := Lib.hid (HF3.out.chg X13.out WHF3.out (by omega))
  replace HF10 := Lib.hid (HF10.out.chg X13.out WHF10.out (by omega))
  replace HF12 := Lib.hid (HF12.out.chg X13.out WHF12.out (by omega))
  replace DX := Lib.hid (HX.out.ex Ev13.out)
  clear hv13
  refine (C2.out A12 c12 _ HF12.out.rd hn HF12.out.le HF12.out.cap).mono ?_; rintro r w13 ⟨A13, c13, rfl, hf13, hb13⟩
  have Y13 : Hid (Chg 0 0 v13 w13) := Lib.hid (Chg.of_ex hb13)
  have s13 : v13.heap.size ≤ w13.heap.size := Y13.out.size
  have Ew13 : Hid (Ex w w13) := Lib.hid (Ev13.out.chg Y13.out (by omega))
  clear hb13
  replace KX : Hid (Blk w13 (w.heap.size) 24 [.int .i64 t.count, .int .i64 t.next, .int .i64 t.round, .slice A t.owns.length c]) := Lib.hid (KX.out.chg Y13.out (by omega))
  replace KW : Hid (Blk w13 (w3.heap.size) 30 [.int .i64 u.count, .int .i64 u.next, .int .i64 u.round, .slice A3 u.owns.length c3]) := Lib.hid (KW.out.chg Y13.out (by omega))
  replace KG : Hid (Blk w13 (w5.heap.size) 30 [.int .i64 u.count, .int .i64 u.next, .int .i64 u.round, .slice A5 u.owns.length c5]) := Lib.hid (KG.out.chg Y13.out (by omega))
  replace HF3 := Lib.hid (HF3.out.chg Y13.out WHF3.out (by omega))
  replace HF10 := Lib.hid (HF10.out.chg Y13.out WHF10.out (by omega))
  replace HF12 := Lib.hid (HF12.out.chg Y13.out WHF12.out (by omega))
  replace DX := Lib.hid (HX.out.ex Ew13.out)
  have HF13 := Lib.hid hf13; clear hf13
  have WHF13 := Lib.hid HF13.out.row
  obtain ⟨qX0, qX1, qX2, qX3⟩ := KX.out.c4
  have jX := KX.out.lt
  obtain ⟨qW0, qW1, qW2, qW3⟩ := KW.out.c4
  have jW := KW.out.lt
  obtain ⟨qG0, qG1, qG2, qG3⟩ := KG.out.c4
  have jG := KG.out.lt
  clear HF12 WHF12
  go_wp2_with fail
  refine name_calls ?_; intro v14 hv14
  have X14 : Hid (Chg (0) (0) w13 v14) := Lib.hid (by rw [hv14]; repeat' (first | with_reducible exact Chg.refl _ _ _ | with_reducible refine Chg.alloc ?_ _ | with_reducible refine Chg.drew ?_ | with_reducible refine Chg.set ?_ (by omega) _))
  have t14 : w13.heap.size ≤ v14.heap.size := X14.out.size
  have Ev14 : Hid (Ex w v14) := Lib.hid (Ew13.out.chg X14.out (by omega))
  clear qX0 qX1 qX2 qX3 jX
  clear qW0 qW1 qW2 qW3 jW
  clear qG0 qG1 qG2 qG3 jG
  replace KX : Hid (Blk v14 (w.heap.size) 24 [.int .i64 t.count, .int .i64 t.next, .int .i64 t.round, .slice A t.owns.length c]) := Lib.hid (KX.out.chg X14.out (by omega))
  replace KW : Hid (Blk v14 (w3.heap.size) 30 [.int .i64 u.count, .int .i64 u.next, .int .i64 u.round, .slice A3 u.owns.length c3]) := Lib.hid (KW.out.chg X14.out (by omega))
  replace KG : Hid (Blk v14 (w5.heap.size) 30 [.int .i64 u.count, .int .i64 u.next, .int .i64 u.round, .slice A5 u.owns.length c5]) := Lib.hid (KG.out.chg X14.out (by omega))
  replace HF3 := Lib.hid (HF3.out.chg X14.out WHF3.out (by omega))
  replace HF10 := Lib.hid (HF10.out.chg X14.out WHF10.out (by omega))
  replace HF13 := Lib.hid (HF13.out.chg X14.out WHF13.out (by omega))
  replace DX := Lib.hid (HX.out.ex Ev14.out)
  clear hv14
  refine (eqTags_self_c u _ _ _ _ _ HF13.out.rd HF3.out.rd hfew).mono ?_; rintro r w14 ⟨rfl, hb14⟩
  have Y14 : Hid (Chg 0 0 v14 w14) := Lib.hid (Chg.of_ex hb14)
  have s14 : v14.heap.size ≤ w14.heap.size := Y14.out.size
  have Ew14 : Hid (Ex w w14) := Lib.hid (Ev14.out.chg Y14.out (by omega))
  clear hb14
  replace KX : Hid (Blk w14 (w.heap.size) 24 [.int .i64 t.count, .int .i64 t.next, .int .i64 t.round, .slice A t.owns.length c]) := Lib.hid (KX.out.chg Y14.out (by omega))
  replace KW : Hid (Blk w14 (w3.heap.size) 30 [.int .i64 u.count, .int .i64 u.next, .int .i64 u.round, .slice A3 u.owns.length c3]) := Lib.hid (KW.out.chg Y14.out (by omega))
  replace KG : Hid (Blk w14 (w5.heap.size) 30 [.int .i64 u.count, .int .i64 u.next, .int .i64 u.round, .slice A5 u.owns.length c5]) := Lib.hid (KG.out.chg Y14.out (by omega))
  replace HF3 := Lib.hid (HF3.out.chg Y14.out WHF3.out (by omega))
  replace HF10 := Lib.hid (HF10.out.chg Y14.out WHF10.out (by omega))
  replace HF13 := Lib.hid (HF13.out.chg Y14.out WHF13.out (by omega))
  replace DX := Lib.hid (HX.out.ex Ew14.out)
  obtain ⟨qX0, qX1, qX2, qX3⟩ := KX.out.c4
  have jX := KX.out.lt
  obtain ⟨qW0, qW1, qW2, qW3⟩ := KW.out.c4
  have jW := KW.out.lt
  obtain ⟨qG0, qG1, qG2, qG3⟩ := KG.out.c4
  have jG := KG.out.lt
  go_wp2_with fail
  refine name_calls ?_; intro v15 hv15
  have X15 : Hid (Chg (0) (0) w14 v15) := Lib.hid (by rw [hv15]; repeat' (first | with_reducible exact Chg.refl _ _ _ | with_reducible refine Chg.alloc ?_ _ | with_reducible refine Chg.drew ?_ | with_reducible refine Chg.set ?_ (by omega) _))
  have t15 : w14.heap.size ≤ v15.heap.size := X15.out.size
  have Ev15 : Hid (Ex w v15) := Lib.hid (Ew14.out.chg X15.out (by omega))
  clear qX0 qX1 qX2 qX3 jX
  clear qW0 qW1 qW2 qW3 jW
  clear qG0 qG1 qG2 qG3 jG
  replace KX : Hid (Blk v15 (w.heap.size) 24 [.int .i64 t.count, .int .i64 t.next, .int .i64 t.round, .slice A t.owns.length c]) := Lib.hid (KX.out.chg X15.out (by omega))
  replace KW : Hid (Blk v15 (w3.heap.size) 30 [.int .i64 u.count, .int .i64 u.next, .int .i64 u.round, .slice A3 u.owns.length c3]) := Lib.hid (KW.out.chg X15.out (by omega))
  replace KG : Hid (Blk v15 (w5.heap.size) 30 [.int .i64 u.count, .int .i64 u.next, .int .i64 u.round, .slice A5 u.owns.length c5]) := Lib.hid (KG.out.chg X15.out (by omega))
  replace HF3 := Lib.hid (HF3.out.chg X15.out WHF3.out (by omega))
  replace HF10 := Lib.hid (HF10.out.chg X15.out WHF10.out (by omega))
  replace HF13 := Lib.hid (HF13.out.chg X15.out WHF13.out (by omega))
  replace DX := Lib.hid (HX.out.ex Ev15.out)
  clear hv15
  refine (heldTags_c _ _ _ _ _ _ _ _ HF10.out.rd hfew (by omega) (by omega)).mono ?_; rintro r w15 ⟨rfl, hb15⟩
  have Y15 : Hid (Chg 0 0 v15 w15) := Lib.hid (Chg.of_ex hb15)
  have s15 : v15.heap.size ≤ w15.heap.size := Y15.out.size
  have Ew15 : Hid (Ex w w15) := Lib.hid (Ev15.out.chg Y15.out (by omega))
  clear hb15
  replace KX : Hid (Blk w15 (w.heap.size) 24 [.int .i64 t.count, .int .i64 t.next, .int .i64 t.round, .slice A t.owns.length c]) := Lib.hid (KX.out.chg Y15.out (by omega))
  replace KW : Hid (Blk w15 (w3.heap.size) 30 [.int .i64 u.count, .int .i64 u.next, .int .i64 u.round, .slice A3 u.owns.length c3]) := Lib.hid (KW.out.chg Y15.out (by omega))
  replace KG : Hid (Blk w15 (w5.heap.size) 30 [.int .i64 u.count, .int .i64 u.next, .int .i64 u.round, .slice A5 u.owns.length c5]) := Lib.hid (KG.out.chg Y15.out (by omega))
  replace HF3 := Lib.hid (HF3.out.chg Y15.out WHF3.out (by omega))
  replace HF10 := Lib.hid (HF10.out.chg Y15.out WHF10.out (by omega))
  replace HF13 := Lib.hid (HF13.out.chg Y15.out WHF13.out (by omega))
  replace DX := Lib.hid (HX.out.ex Ew15.out)
  obtain ⟨qX0, qX1, qX2, qX3⟩ := KX.out.c4
  have jX := KX.out.lt
  obtain ⟨qW0, qW1, qW2, qW3⟩ := KW.out.c4
  have jW := KW.out.lt
  obtain ⟨qG0, qG1, qG2, qG3⟩ := KG.out.c4
  have jG := KG.out.lt
  go_wp2
  go_ret
  exact ⟨rfl, Ew15.out⟩
end Go.Proofs.Ytkiohppknlmfaaa
