/- The law FnExactTakeTags: the walk. -/
import Derived.Test.YtkiohppknlmfaaaTi
import Derived.Test.YtkiohppknlmfaaaTy
import Derived.Test.YtkiohppknlmfaaaTz
import Derived.Test.YtkiohppknlmfaaaTc
import Derived.Test.YtkiohppknlmfaaaChg
import Derived.Deep.RegionHeld3
namespace Go.Proofs.Ytkiohppknlmfaaa
open Go.ChangeShapes Go.WideShapes Go.ChangeAt Go.RowKit
open Rec (sz cs)
set_option linter.unusedVariables false
set_option maxRecDepth 100000

set_option maxHeartbeats 8000000 in
theorem walk_FnExactTakeTags (t : TagsD) (A : Option Addr) (c : Nat) (Z : Option Addr) (d : Nat) (zs : List Int) (w : World) (hx : Rd w A t.owns) (hxl : t.owns.length ≤ maxLen) (hz : Rd w Z zs) (hzl : zs.length ≤ maxLen) :
    Calls Try.prog 21 #[.agg #[.int .i64 t.count, .int .i64 t.next, .int .i64 t.round, .slice A t.owns.length c], .slice Z zs.length d] w fun r w' => r = .returned (.bool true) ∧ Ex w w' := by
  have HX := Lib.hid hx
  have HXL := Lib.hid hxl
  have HZ := Lib.hid hz
  clear hx hxl hz
  unfold maxLen at hzl
  by_cases hzb : (1048576 : Int) < zs.length
  · go_enter Try.func21, Try.ntmps21
    go_wp2
    go_ret
    exact ⟨rfl, (Ex.refl _).alloc _⟩
  have hzn : zs.length ≤ 1048576 := by omega
  by_cases h1 : (1048576 : Int) < t.owns.length
  · go_enter Try.func21, Try.ntmps21
    go_wp2_with fail
    refine name_calls ?_; intro v1 hv1
    have X1 : Hid (Chg (0) (0) w v1) := Lib.hid (by rw [hv1]; repeat' (first | with_reducible exact Chg.refl _ _ _ | with_reducible refine Chg.alloc ?_ _ | with_reducible refine Chg.drew ?_ | with_reducible refine Chg.set ?_ (by omega) _))
    have t1 : w.heap.size ≤ v1.heap.size := X1.out.size
    have Ev1 : Hid (Ex w v1) := Lib.hid ((Ex.refl w).chg X1.out (by omega))
    clear hv1
    refine (szTags_c t _ _ _ _ (by omega) (by omega) HXL.out).mono ?_; rintro r w1 ⟨rfl, hb1⟩
    have Y1 : Hid (Chg 0 0 v1 w1) := Lib.hid (Chg.of_ex hb1)
    have s1 : v1.heap.size ≤ w1.heap.size := Y1.out.size
    have Ew1 : Hid (Ex w w1) := Lib.hid (Ev1.out.chg Y1.out (by omega))
    clear hb1
    rw [szI_neg (by omega)]
    go_wp2
    go_ret
    exact ⟨rfl, Ew1.out⟩
  have hn : t.owns.length ≤ 1048576 := by omega
  have h3 : ¬ ((1048576 : Int) - t.owns.length < 0) := by omega
  have C1 := Lib.hid (takeTagsS_c t zs)
  have C2 := Lib.hid (takeTagsI_c t zs)
  have hfew : (takeTags t zs).1.owns.length ≤ 1048576 := by have := takeTags_few t zs; omega
  generalize takeTags t zs = qq at C1 C2 hfew
  obtain ⟨u, o0, o1⟩ := qq
  dsimp only at C1 C2 hfew
  have hv0 : (o0 != o0) = false := by simp
  have hv1 : (o1 != o1) = false := by simp
  have hnn : ¬ ((1 : Int) + 2 * (t.owns.length : Int) + (zs.length : Int) < 0) := by omega
  have hnu : ¬ ((1 : Int) + 2 * (u.owns.length : Int) < 0) := by omega
  go_enter Try.func21, Try.ntmps21
  go_wp2_with fail
  refine name_calls ?_; intro v1 hv1
  have X1 : Hid (Chg (0) (0) w v1) := Lib.hid (by rw [hv1]; repeat' (first | with_reducible exact Chg.refl _ _ _ | with_reducible refine Chg.alloc ?_ _ | with_reducible refine Chg.drew ?_ | with_reducible refine Chg.set ?_ (by omega) _))
  have t1 : w.heap.size ≤ v1.heap.size := X1.out.size
  have Ev1 : Hid (Ex w v1) := Lib.hid ((Ex.refl w).chg X1.out (by omega))
  have KX : Hid (Blk v1 (w.heap.size) 24 [.int .i64 t.count, .int .i64 t.next, .int .i64 t.round, .slice A t.owns.length c]) := Lib.hid (by rw [hv1]; repeat' (first | with_reducible exact Blk.new_at _ _ _ (by simp) | with_reducible refine Blk.alloc ?_ _ | with_reducible refine Blk.drew ?_ | with_reducible refine Blk.far ?_ (by simp; omega) _))
  have lX : w.heap.size < v1.heap.size := KX.out.lt
  have DX := Lib.hid (HX.out.ex Ev1.out)
  have DZ := Lib.hid (HZ.out.ex Ev1.out)
  clear hv1
  refine (szTags_c t _ _ _ _ (by omega) (by omega) HXL.out).mono ?_; rintro r w1 ⟨rfl, hb1⟩
  have Y1 : Hid (Chg 0 0 v1 w1) := Lib.hid (Chg.of_ex hb1)
  have s1 : v1.heap.size ≤ w1.heap.size := Y1.out.size
  have Ew1 : Hid (Ex w w1) := Lib.hid (Ev1.out.chg Y1.out (by omega))
  clear hb1
  replace KX : Hid (Blk w1 (w.heap.size) 24 [.int .i64 t.count, .int .i64 t.next, .int .i64 t.round, .slice A t.owns.length c]) := Lib.hid (KX.out.chg Y1.out (by omega))
  replace DX := Lib.hid (HX.out.ex Ew1.out)
  replace DZ := Lib.hid (HZ.out.ex Ew1.out)
  obtain ⟨qX0, qX1, qX2, qX3⟩ := KX.out.c4
  have jX := KX.out.lt
  rw [szI_pos (by omega)]
  go_wp2_with fail
  refine name_calls ?_; intro v2 hv2
  have X2 : Hid (Chg (0) (0) w1 v2) := Lib.hid (by rw [hv2]; repeat' (first | with_reducible exact Chg.refl _ _ _ | with_reducible refine Chg.alloc ?_ _ | with_reducible refine Chg.drew ?_ | with_reducible refine Chg.set ?_ (by omega) _))
  have t2 : w1.heap.size ≤ v2.heap.size := X2.out.size
  have Ev2 : Hid (Ex w v2) := Lib.hid (Ew1.out.chg X2.out (by omega))
  clear qX0 qX1 qX2 qX3 jX
  replace KX : Hid (Blk v2 (w.heap.size) 24 [.int .i64 t.count, .int .i64 t.next, .int .i64 t.round, .slice A t.owns.length c]) := Lib.hid (KX.out.chg X2.out (by omega))
  replace DX := Lib.hid (HX.out.ex Ev2.out)
  replace DZ := Lib.hid (HZ.out.ex Ev2.out)
  clear hv2
  refine (toTags_c t A c _ DX.out hn).mono ?_; rintro r w2 ⟨A2, c2, rfl, hf2, hb2⟩
  have Y2 : Hid (Chg 0 0 v2 w2) := Lib.hid (Chg.of_ex hb2)
  have s2 : v2.heap.size ≤ w2.heap.size := Y2.out.size
  have Ew2 : Hid (Ex w w2) := Lib.hid (Ev2.out.chg Y2.out (by omega))
  clear hb2
  replace KX : Hid (Blk w2 (w.heap.size) 24 [.int .i64 t.count, .int .i64 t.next, .int .i64 t.round, .slice A t.owns.length c]) := Lib.hid (KX.out.chg Y2.out (by omega))
  replace DX := Lib.hid (HX.out.ex Ew2.out)
  replace DZ := Lib.hid (HZ.out.ex Ew2.out)
  have HF2 := Lib.hid hf2; clear hf2
  have WHF2 := Lib.hid HF2.out.row
  obtain ⟨qX0, qX1, qX2, qX3⟩ := KX.out.c4
  have jX := KX.out.lt
  go_wp2_with fail
  refine name_calls ?_; intro v3 hv3
  have X3 : Hid (Chg (0) (0) w2 v3) := Lib.hid (by rw [hv3]; repeat' (first | with_reducible exact Chg.refl _ _ _ | with_reducible refine Chg.alloc ?_ _ | with_reducible refine Chg.drew ?_ | with_reducible refine Chg.set ?_ (by omega) _))
  have t3 : w2.heap.size ≤ v3.heap.size := X3.out.size
  have Ev3 : Hid (Ex w v3) := Lib.hid (Ew2.out.chg X3.out (by omega))
  clear qX0 qX1 qX2 qX3 jX
  replace KX : Hid (Blk v3 (w.heap.size) 24 [.int .i64 t.count, .int .i64 t.next, .int .i64 t.round, .slice A t.owns.length c]) := Lib.hid (KX.out.chg X3.out (by omega))
  replace HF2 := Lib.hid (HF2.out.chg X3.out WHF2.out (by omega))
  replace DX := Lib.hid (HX.out.ex Ev3.out)
  replace DZ := Lib.hid (HZ.out.ex Ev3.out)
  clear hv3
  refine (toIntS_c Z d zs _ DZ.out hzn).mono ?_; rintro r w3 ⟨A3, c3, rfl, hf3, hb3⟩
  have Y3 : Hid (Chg 0 0 v3 w3) := Lib.hid (Chg.of_ex hb3)
  have s3 : v3.heap.size ≤ w3.heap.size := Y3.out.size
  have Ew3 : Hid (Ex w w3) := Lib.hid (Ev3.out.chg Y3.out (by omega))
  clear hb3
  replace KX : Hid (Blk w3 (w.heap.size) 24 [.int .i64 t.count, .int .i64 t.next, .int .i64 t.round, .slice A t.owns.length c]) := Lib.hid (KX.out.chg Y3.out (by omega))
  replace HF2 := Lib.hid (HF2.out.chg Y3.out WHF2.out (by omega))
  replace DX := Lib.hid (HX.out.ex Ew3.out)
  replace DZ := Lib.hid (HZ.out.ex Ew3.out)
  have HF3 := Lib.hid hf3; clear hf3
  have WHF3 := Lib.hid HF3.out.row
  obtain ⟨qX0, qX1, qX2, qX3⟩ := KX.out.c4
  have jX := KX.out.lt
  go_wp2_with fail
  refine name_calls ?_; intro v4 hv4
  have X4 : Hid (Chg (0) (0) w3 v4) := Lib.hid (by rw [hv4]; repeat' (first | with_reducible exact Chg.refl _ _ _ | with_reducible refine Chg.alloc ?_ _ | with_reducible refine Chg.drew ?_ | with_reducible refine Chg.set ?_ (by omega) _))
  have t4 : w3.heap.size ≤ v4.heap.size := X4.out.size
  have Ev4 : Hid (Ex w v4) := Lib.hid (Ew3.out.chg X4.out (by omega))
  clear qX0 qX1 qX2 qX3 jX
  replace KX : Hid (Blk v4 (w.heap.size) 24 [.int .i64 t.count, .int .i64 t.next, .int .i64 t.round, .slice A t.owns.length c]) := Lib.hid (KX.out.chg X4.out (by omega))
  replace HF2 := Lib.hid (HF2.out.chg X4.out WHF2.out (by omega))
  replace HF3 := Lib.hid (HF3.out.chg X4.out WHF3.out (by omega))
  replace DX := Lib.hid (HX.out.ex Ev4.out)
  replace DZ := Lib.hid (HZ.out.ex Ev4.out)
  clear hv4
  refine (C1.out A2 A3 c2 c3 _ HF2.out.rd HF3.out.rd hn HF2.out.le HF2.out.cap hzn).mono ?_; rintro r w4 ⟨A4, c4, rfl, hf4, hb4⟩
  have Y4 : Hid (Chg 0 0 v4 w4) := Lib.hid (Chg.of_ex hb4)
  have s4 : v4.heap.size ≤ w4.heap.size := Y4.out.size
  have Ew4 : Hid (Ex w w4) := Lib.hid (Ev4.out.chg Y4.out (by omega))
  clear hb4
  replace KX : Hid (Blk w4 (w.heap.size) 24 [.int .i64 t.count, .int .i64 t.next, .int .i64 t.round, .slice A t.owns.length c]) := Lib.hid (KX.out.chg Y4.out (by omega))
  replace HF2 := Lib.hid (HF2.out.chg Y4.out WHF2.out (by omega))
  replace HF3 := Lib.hid (HF3.out.chg Y4.out WHF3.out (by omega))
  replace DX := Lib.hid (HX.out.ex Ew4.out)
  replace DZ := Lib.hid (HZ.out.ex Ew4.out)
  have HF4 := Lib.hid hf4; clear hf4
  have WHF4 := Lib.hid HF4.out.row
  obtain ⟨qX0, qX1, qX2, qX3⟩ := KX.out.c4
  have jX := KX.out.lt
  clear HF2 WHF2
  clear HF3 WHF3
  go_wp2_with fail
  refine name_calls ?_; intro v5 hv5
  have X5 : Hid (Chg (0) (0) w4 v5) := Lib.hid (by rw [hv5]; repeat' (first | with_reducible exact Chg.refl _ _ _ | with_reducible refine Chg.alloc ?_ _ | with_reducible refine Chg.drew ?_ | with_reducible refine Chg.set ?_ (by omega) _))
  have t5 : w4.heap.size ≤ v5.heap.size := X5.out.size
  have Ev5 : Hid (Ex w v5) := Lib.hid (Ew4.out.chg X5.out (by omega))
  clear qX0 qX1 qX2 qX3 jX
  replace KX : Hid (Blk v5 (w.heap.size) 24 [.int .i64 t.count, .int .i64 t.next, .int .i64 t.round, .slice A t.owns.length c]) := Lib.hid (KX.out.chg X5.out (by omega))
  replace HF4 := Lib.hid (HF4.out.chg X5.out WHF4.out (by omega))
  have KW : Hid (Blk v5 (w4.heap.size) 30 [.int .i64 u.count, .int .i64 u.next, .int .i64 u.round, .slice A4 u.owns.length c4]) := Lib.hid (by rw [hv5]; repeat' (first | with_reducible exact Blk.new_at _ _ _ (by simp) | with_reducible refine Blk.alloc ?_ _ | with_reducible refine Blk.drew ?_ | with_reducible refine Blk.far ?_ (by simp; omega) _))
  have lW : w4.heap.size < v5.heap.size := KW.out.lt
  replace DX := Lib.hid (HX.out.ex Ev5.out)
  replace DZ := Lib.hid (HZ.out.ex Ev5.out)
  clear hv5
  refine (toTags_c t A c _ DX.out hn).mono ?_; rintro r w5 ⟨A5, c5, rfl, hf5, hb5⟩
  have Y5 : Hid (Chg 0 0 v5 w5) := Lib.hid (Chg.of_ex hb5)
  have s5 : v5.heap.size ≤ w5.heap.size := Y5.out.size
  have Ew5 : Hid (Ex w w5) := Lib.hid (Ev5.out.chg Y5.out (by omega))
  clear hb5
  replace KX : Hid (Blk w5 (w.heap.size) 24 [.int .i64 t.count, .int .i64 t.next, .int .i64 t.round, .slice A t.owns.length c]) := Lib.hid (KX.out.chg Y5.out (by omega))
  replace KW : Hid (Blk w5 (w4.heap.size) 30 [.int .i64 u.count, .int .i64 u.next, .int .i64 u.round, .slice A4 u.owns.length c4]) := Lib.hid (KW.out.chg Y5.out (by omega))
  replace HF4 := Lib.hid (HF4.out.chg Y5.out WHF4.out (by omega))
  replace DX := Lib.hid (HX.out.ex Ew5.out)
  replace DZ := Lib.hid (HZ.out.ex Ew5.out)
  have HF5 := Lib.hid hf5; clear hf5
  have WHF5 := Lib.hid HF5.out.row
  obtain ⟨qX0, qX1, qX2, qX3⟩ := KX.out.c4
  have jX := KX.out.lt
  obtain ⟨qW0, qW1, qW2, qW3⟩ := KW.out.c4
  have jW := KW.out.lt
  go_wp2_with fail
  refine name_calls ?_; intro v6 hv6
  have X6 : Hid (Chg (0) (0) w5 v6) := Lib.hid (by rw [hv6]; repeat' (first | with_reducible exact Chg.refl _ _ _ | with_reducible refine Chg.alloc ?_ _ | with_reducible refine Chg.drew ?_ | with_reducible refine Chg.set ?_ (by omega) _))
  have t6 : w5.heap.size ≤ v6.heap.size := X6.out.size
  have Ev6 : Hid (Ex w v6) := Lib.hid (Ew5.out.chg X6.out (by omega))
  clear qX0 qX1 qX2 qX3 jX
  clear qW0 qW1 qW2 qW3 jW
  replace KX : Hid (Blk v6 (w.heap.size) 24 [.int .i64 t.count, .int .i64 t.next, .int .i64 t.round, .slice A t.owns.length c]) := Lib.hid (KX.out.chg X6.out (by omega))
  replace KW : Hid (Blk v6 (w4.heap.size) 30 [.int .i64 u.count, .int .i64 u.next, .int .i64 u.round, .slice A4 u.owns.length c4]) := Lib.hid (KW.out.chg X6.out (by omega))
  replace HF4 := Lib.hid (HF4.out.chg X6.out WHF4.out (by omega))
  replace HF5 := Lib.hid (HF5.out.chg X6.out WHF5.out (by omega))
  have KQ : Hid (Blk v6 (w5.heap.size) 30 [.int .i64 t.count, .int .i64 t.next, .int .i64 t.round, .slice A5 t.owns.length c5]) := Lib.hid (by rw [hv6]; repeat' (first | with_reducible exact Blk.new_at _ _ _ (by simp) | with_reducible refine Blk.alloc ?_ _ | with_reducible refine Blk.drew ?_ | with_reducible refine Blk.far ?_ (by simp; omega) _))
  have lQ : w5.heap.size < v6.heap.size := KQ.out.lt
  replace DX := Lib.hid (HX.out.ex Ev6.out)
  replace DZ := Lib.hid (HZ.out.ex Ev6.out)
  clear hv6
  refine (toIntS_c Z d zs _ DZ.out hzn).mono ?_; rintro r w6 ⟨A6, c6, rfl, hf6, hb6⟩
  have Y6 : Hid (Chg 0 0 v6 w6) := Lib.hid (Chg.of_ex hb6)
  have s6 : v6.heap.size ≤ w6.heap.size := Y6.out.size
  have Ew6 : Hid (Ex w w6) := Lib.hid (Ev6.out.chg Y6.out (by omega))
  clear hb6
  replace KX : Hid (Blk w6 (w.heap.size) 24 [.int .i64 t.count, .int .i64 t.next, .int .i64 t.round, .slice A t.owns.length c]) := Lib.hid (KX.out.chg Y6.out (by omega))
  replace KW : Hid (Blk w6 (w4.heap.size) 30 [.int .i64 u.count, .int .i64 u.next, .int .i64 u.round, .slice A4 u.owns.length c4]) := Lib.hid (KW.out.chg Y6.out (by omega))
  replace KQ : Hid (Blk w6 (w5.heap.size) 30 [.int .i64 t.count, .int .i64 t.next, .int .i64 t.round, .slice A5 t.owns.length c5]) := Lib.hid (KQ.out.chg Y6.out (by omega))
  replace HF4 := Lib.hid (HF4.out.chg Y6.out WHF4.out (by omega))
  replace HF5 := Lib.hid (HF5.out.chg Y6.out WHF5.out (by omega))
  replace DX := Lib.hid (HX.out.ex Ew6.out)
  replace DZ := Lib.hid (HZ.out.ex Ew6.out)
  have HF6 := Lib.hid hf6; clear hf6
  have WHF6 := Lib.hid HF6.out.row
  obtain ⟨qX0, qX1, qX2, qX3⟩ := KX.out.c4
  have jX := KX.out.lt
  obtain ⟨qW0, qW1, qW2, qW3⟩ := KW.out.c4
  have jW := KW.out.lt
  obtain ⟨qQ0, qQ1, qQ2, qQ3⟩ := KQ.out.c4
  have jQ := KQ.out.lt
  go_wp2_with fail
  refine name_calls ?_; intro v7 hv7
  have X7 : Hid (Chg (0) (0) w6 v7) := Lib.hid (by rw [hv7]; repeat' (first | with_reducible exact Chg.refl _ _ _ | with_reducible refine Chg.alloc ?_ _ | with_reducible refine Chg.drew ?_ | with_reducible refine Chg.set ?_ (by omega) _))
  have t7 : w6.heap.size ≤ v7.heap.size := X7.out.size
  have Ev7 : Hid (Ex w v7) := Lib.hid (Ew6.out.chg X7.out (by omega))
  clear qX0 qX1 qX2 qX3 jX
  clear qW0 qW1 qW2 qW3 jW
  clear qQ0 qQ1 qQ2 qQ3 jQ
  replace KX : Hid (Blk v7 (w.heap.size) 24 [.int .i64 t.count, .int .i64 t.next, .int .i64 t.round, .slice A t.owns.length c]) := Lib.hid (KX.out.chg X7.out (by omega))
  replace KW : Hid (Blk v7 (w4.heap.size) 30 [.int .i64 u.count, .int .i64 u.next, .int .i64 u.round, .slice A4 u.owns.length c4]) := Lib.hid (KW.out.chg X7.out (by omega))
  replace KQ : Hid (Blk v7 (w5.heap.size) 30 [.int .i64 t.count, .int .i64 t.next, .int .i64 t.round, .slice A5 t.owns.length c5]) := Lib.hid (KQ.out.chg X7.out (by omega))
  replace HF4 := Lib.hid (HF4.out.chg X7.out WHF4.out (by omega))
  replace HF5 := Lib.hid (HF5.out.chg X7.out WHF5.out (by omega))
  replace HF6 := Lib.hid (HF6.out.chg X7.out WHF6.out (by omega))
  replace DX := Lib.hid (HX.out.ex Ev7.out)
  replace DZ := Lib.hid (HZ.out.ex Ev7.out)
  clear hv7
  refine (C2.out A5 A6 c5 c6 _ HF5.out.rd HF6.out.rd hn HF5.out.le HF5.out.cap hzn).mono ?_; rintro r w7 ⟨A7, c7, rfl, hf7, hb7⟩
  have Y7 : Hid (Chg 0 0 v7 w7) := Lib.hid (Chg.of_ex hb7)
  have s7 : v7.heap.size ≤ w7.heap.size := Y7.out.size
  have Ew7 : Hid (Ex w w7) := Lib.hid (Ev7.out.chg Y7.out (by omega))
  clear hb7
  replace KX : Hid (Blk w7 (w.heap.size) 24 [.int .i64 t.count, .int .i64 t.next, .int .i64 t.round, .slice A t.owns.length c]) := Lib.hid (KX.out.chg Y7.out (by omega))
  replace KW : Hid (Blk w7 (w4.heap.size) 30 [.int .i64 u.count, .int .i64 u.next, .int .i64 u.round, .slice A4 u.owns.length c4]) := Lib.hid (KW.out.chg Y7.out (by omega))
  replace KQ : Hid (Blk w7 (w5.heap.size) 30 [.int .i64 t.count, .int .i64 t.next, .int .i64 t.round, .slice A5 t.owns.length c5]) := Lib.hid (KQ.out.chg Y7.out (by omega))
  replace HF4 := Lib.hid (HF4.out.chg Y7.out WHF4.out (by omega))
  replace HF5 := Lib.hid (HF5.out.chg Y7.out WHF5.out (by omega))
  replace HF6 := Lib.hid (HF6.out.chg Y7.out WHF6.out (by omega))
  replace DX := Lib.hid (HX.out.ex Ew7.out)
  replace DZ := Lib.hid (HZ.out.ex Ew7.out)
  have HF7 := Lib.hid hf7; clear hf7
  have WHF7 := Lib.hid HF7.out.row
  obtain ⟨qX0, qX1, qX2, qX3⟩ := KX.out.c4
  have jX := KX.out.lt
  obtain ⟨qW0, qW1, qW2, qW3⟩ := KW.out.c4
  have jW := KW.out.lt
  obtain ⟨qQ0, qQ1, qQ2, qQ3⟩ := KQ.out.c4
  have jQ := KQ.out.lt
  go_wp2_with fail
  refine name_calls ?_; intro v8 hv8
  have X8 : Hid (Chg (0) (0) w7 v8) := Lib.hid (by rw [hv8]; repeat' (first | with_reducible exact Chg.refl _ _ _ | with_reducible refine Chg.alloc ?_ _ | with_reducible refine Chg.drew ?_ | with_reducible refine Chg.set ?_ (by omega) _))
  have t8 : w7.heap.size ≤ v8.heap.size := X8.out.size
  have Ev8 : Hid (Ex w v8) := Lib.hid (Ew7.out.chg X8.out (by omega))
  clear qX0 qX1 qX2 qX3 jX
  clear qW0 qW1 qW2 qW3 jW
  clear qQ0 qQ1 qQ2 qQ3 jQ
  replace KX : Hid (Blk v8 (w.heap.size) 24 [.int .i64 t.count, .int .i64 t.next, .int .i64 t.round, .slice A t.owns.length c]) := Lib.hid (KX.out.chg X8.out (by omega))
  replace KW : Hid (Blk v8 (w4.heap.size) 30 [.int .i64 u.count, .int .i64 u.next, .int .i64 u.round, .slice A4 u.owns.length c4]) := Lib.hid (KW.out.chg X8.out (by omega))
  replace KQ : Hid (Blk v8 (w5.heap.size) 30 [.int .i64 t.count, .int .i64 t.next, .int .i64 t.round, .slice A5 t.owns.length c5]) := Lib.hid (KQ.out.chg X8.out (by omega))
  replace HF4 := Lib.hid (HF4.out.chg X8.out WHF4.out (by omega))
  replace HF5 := Lib.hid (HF5.out.chg X8.out WHF5.out (by omega))
  replace HF6 := Lib.hid (HF6.out.chg X8.out WHF6.out (by omega))
  replace HF7 := Lib.hid (HF7.out.chg X8.out WHF7.out (by omega))
  have KG : Hid (Blk v8 (w7.heap.size) 30 [.int .i64 u.count, .int .i64 u.next, .int .i64 u.round, .slice A7 u.owns.length c7]) := Lib.hid (by rw [hv8]; repeat' (first | with_reducible exact Blk.new_at _ _ _ (by simp) | with_reducible refine Blk.alloc ?_ _ | with_reducible refine Blk.drew ?_ | with_reducible refine Blk.far ?_ (by simp; omega) _))
  have lG : w7.heap.size < v8.heap.size := KG.out.lt
  replace DX := Lib.hid (HX.out.ex Ev8.out)
  replace DZ := Lib.hid (HZ.out.ex Ev8.out)
  clear hv8
  refine (eqTags_self_c u _ _ _ _ _ HF7.out.rd HF4.out.rd hfew).mono ?_; rintro r w8 ⟨rfl, hb8⟩
  have Y8 : Hid (Chg 0 0 v8 w8) := Lib.hid (Chg.of_ex hb8)
  have s8 : v8.heap.size ≤ w8.heap.size := Y8.out.size
  have Ew8 : Hid (Ex w w8) := Lib.hid (Ev8.out.chg Y8.out (by omega))
  clear hb8
  replace KX : Hid (Blk w8 (w.heap.size) 24 [.int .i64 t.count, .int .i64 t.next, .int .i64 t.round, .slice A t.owns.length c]) := Lib.hid (KX.out.chg Y8.out (by omega))
  replace KW : Hid (Blk w8 (w4.heap.size) 30 [.int .i64 u.count, .int .i64 u.next, .int .i64 u.round, .slice A4 u.owns.length c4]) := Lib.hid (KW.out.chg Y8.out (by omega))
  replace KQ : Hid (Blk w8 (w5.heap.size) 30 [.int .i64 t.count, .int .i64 t.next, .int .i64 t.round, .slice A5 t.owns.length c5]) := Lib.hid (KQ.out.chg Y8.out (by omega))
  replace KG : Hid (Blk w8 (w7.heap.size) 30 [.int .i64 u.count, .int .i64 u.next, .int .i64 u.round, .slice A7 u.owns.length c7]) := Lib.hid (KG.out.chg Y8.out (by omega))
  replace HF4 := Lib.hid (HF4.out.chg Y8.out WHF4.out (by omega))
  replace HF5 := Lib.hid (HF5.out.chg Y8.out WHF5.out (by omega))
  replace HF6 := Lib.hid (HF6.out.chg Y8.out WHF6.out (by omega))
  replace HF7 := Lib.hid (HF7.out.chg Y8.out WHF7.out (by omega))
  replace DX := Lib.hid (HX.out.ex Ew8.out)
  replace DZ := Lib.hid (HZ.out.ex Ew8.out)
  obtain ⟨qX0, qX1, qX2, qX3⟩ := KX.out.c4
  have jX := KX.out.lt
  obtain ⟨qW0, qW1, qW2, qW3⟩ := KW.out.c4
  have jW := KW.out.lt
  obtain ⟨qQ0, qQ1, qQ2, qQ3⟩ := KQ.out.c4
  have jQ := KQ.out.lt
  obtain ⟨qG0, qG1, qG2, qG3⟩ := KG.out.c4
  have jG := KG.out.lt
  go_wp2_with fail
  go_region_held3 (fun w' => (w'.cell? ⟨w5.heap.size, 0, none⟩ = some (.int .i64 t.count) ∧ w'.cell? ⟨w5.heap.size, 1, none⟩ = some (.int .i64 t.next) ∧ w'.cell? ⟨w5.heap.size, 2, none⟩ = some (.int .i64 t.round) ∧ w'.cell? ⟨w5.heap.size, 3, none⟩ = some (.slice A5 t.owns.length c5)) ∧ (w'.cell? ⟨w.heap.size, 0, none⟩ = some (.int .i64 t.count) ∧ w'.cell? ⟨w.heap.size, 1, none⟩ = some (.int .i64 t.next) ∧ w'.cell? ⟨w.heap.size, 2, none⟩ = some (.int .i64 t.round) ∧ w'.cell? ⟨w.heap.size, 3, none⟩ = some (.slice A t.owns.length c))) (first | exact ⟨KQ.out.c4, KX.out.c4⟩ | exact ⟨(Blk.ex (Blk.drew KQ.out) hb9a).c4, (Blk.ex (Blk.drew KX.out) hb9a).c4⟩ | exact ⟨(Blk.ex (Blk.ex (Blk.drew KQ.out) hb9a) hb9).c4, (Blk.ex (Blk.ex (Blk.drew KX.out) hb9a) hb9).c4⟩) (first | (go_at_call 24; (with_reducible refine (toTags_c t A c _ ?_ hn).mono ?_); (exact Rd.drew DX.out); rintro r w9a ⟨A9, c9, rfl, hf9, hb9a⟩) | (go_at_call 26; (with_reducible refine (eqTags_self_c t _ _ _ _ _ ?_ ?_ hn).mono ?_); (exact (Rd.drew HF5.out.rd).ex hb9a); (exact hf9.rd); rintro r w9 ⟨rfl, hb9⟩))
  rename_i hHeld
  clear hHeld
  have Y9 : Hid (Chg 0 0 w8 w9) := Lib.hid (Chg.of_ex ((((Ex.refl _).drew).trans hb9a).trans hb9))
  have s9 : w8.heap.size ≤ w9.heap.size := Y9.out.size
  have Ew9 : Hid (Ex w w9) := Lib.hid (Ew8.out.chg Y9.out (by omega))
  clear hb9a hb9 hf9
  clear qX0 qX1 qX2 qX3 jX
  clear qW0 qW1 qW2 qW3 jW
  clear qQ0 qQ1 qQ2 qQ3 jQ
  clear qG0 qG1 qG2 qG3 jG
  replace KX : Hid (Blk w9 (w.heap.size) 24 [.int .i64 t.count, .int .i64 t.next, .int .i64 t.round, .slice A t.owns.length c]) := Lib.hid (KX.out.chg Y9.out (by omega))
  replace KW : Hid (Blk w9 (w4.heap.size) 30 [.int .i64 u.count, .int .i64 u.next, .int .i64 u.round, .slice A4 u.owns.length c4]) := Lib.hid (KW.out.chg Y9.out (by omega))
  replace KQ : Hid (Blk w9 (w5.heap.size) 30 [.int .i64 t.count, .int .i64 t.next, .int .i64 t.round, .slice A5 t.owns.length c5]) := Lib.hid (KQ.out.chg Y9.out (by omega))
  replace KG : Hid (Blk w9 (w7.heap.size) 30 [.int .i64 u.count, .int .i64 u.next, .int .i64 u.round, .slice A7 u.owns.length c7]) := Lib.hid (KG.out.chg Y9.out (by omega))
  replace HF4 := Lib.hid (HF4.out.chg Y9.out WHF4.out (by omega))
  replace HF5 := Lib.hid (HF5.out.chg Y9.out WHF5.out (by omega))
  replace HF6 := Lib.hid (HF6.out.chg Y9.out WHF6.out (by omega))
  replace HF7 := Lib.hid (HF7.out.chg Y9.out WHF7.out (by omega))
  replace DX := Lib.hid (HX.out.ex Ew9.out)
  replace DZ := Lib.hid (HZ.out.ex Ew9.out)
  obtain ⟨qX0, qX1, qX2, qX3⟩ := KX.out.c4
  have jX := KX.out.lt
  obtain ⟨qW0, qW1, qW2, qW3⟩ := KW.out.c4
  have jW := KW.out.lt
  obtain ⟨qQ0, qQ1, qQ2, qQ3⟩ := KQ.out.c4
  have jQ := KQ.out.lt
  obtain ⟨qG0, qG1, qG2, qG3⟩ := KG.out.c4
  have jG := KG.out.lt
  go_wp2_with fail
  refine name_calls ?_; intro v10 hv10
  have X10 : Hid (Chg (0) (0) w9 v10) := Lib.hid (by rw [hv10]; repeat' (first | with_reducible exact Chg.refl _ _ _ | with_reducible refine Chg.alloc ?_ _ | with_reducible refine Chg.drew ?_ | with_reducible refine Chg.set ?_ (by omega) _))
  have t10 : w9.heap.size ≤ v10.heap.size := X10.out.size
  have Ev10 : Hid (Ex w v10) := Lib.hid (Ew9.out.chg X10.out (by omega))
  clear qX0 qX1 qX2 qX3 jX
  clear qW0 qW1 qW2 qW3 jW
  clear qQ0 qQ1 qQ2 qQ3 jQ
  clear qG0 qG1 qG2 qG3 jG
  replace KX : Hid (Blk v10 (w.heap.size) 24 [.int .i64 t.count, .int .i64 t.next, .int .i64 t.round, .slice A t.owns.length c]) := Lib.hid (KX.out.chg X10.out (by omega))
  replace KW : Hid (Blk v10 (w4.heap.size) 30 [.int .i64 u.count, .int .i64 u.next, .int .i64 u.round, .slice A4 u.owns.length c4]) := Lib.hid (KW.out.chg X10.out (by omega))
  replace KQ : Hid (Blk v10 (w5.heap.size) 30 [.int .i64 t.count, .int .i64 t.next, .int .i64 t.round, .slice A5 t.owns.length c5]) := Lib.hid (KQ.out.chg X10.out (by omega))
  replace KG : Hid (Blk v10 (w7.heap.size) 30 [.int .i64 u.count, .int .i64 u.next, .int .i64 u.round, .slice A7 u.owns.length c7]) := Lib.hid (KG.out.chg X10.out (by omega))
  replace HF4 := Lib.hid (HF4.out.chg X10.out WHF4.out (by omega))
  replace HF5 := Lib.hid (HF5.out.chg X10.out WHF5.out (by omega))
  replace HF6 := Lib.hid (HF6.out.chg X10.out WHF6.out (by omega))
  replace HF7 := Lib.hid (HF7.out.chg X10.out WHF7.out (by omega))
  replace DX := Lib.hid (HX.out.ex Ev10.out)
  replace DZ := Lib.hid (HZ.out.ex Ev10.out)
  clear hv10
  refine (toIntS_c Z d zs _ DZ.out hzn).mono ?_; rintro r w10 ⟨A10, c10, rfl, hf10, hb10⟩
  have Y10 : Hid (Chg 0 0 v10 w10) := Lib.hid (Chg.of_ex hb10)
  have s10 : v10.heap.size ≤ w10.heap.size := Y10.out.size
  have Ew10 : Hid (Ex w w10) := Lib.hid (Ev10.out.chg Y10.out (by omega))
  clear hb10
  replace KX : Hid (Blk w10 (w.heap.size) 24 [.int .i64 t.count, .int .i64 t.next, .int .i64 t.round, .slice A t.owns.length c]) := Lib.hid (KX.out.chg Y10.out (by omega))
  replace KW : Hid (Blk w10 (w4.heap.size) 30 [.int .i64 u.count, .int .i64 u.next, .int .i64 u.round, .slice A4 u.owns.length c4]) := Lib.hid (KW.out.chg Y10.out (by omega))
  replace KQ : Hid (Blk w10 (w5.heap.size) 30 [.int .i64 t.count, .int .i64 t.next, .int .i64 t.round, .slice A5 t.owns.length c5]) := Lib.hid (KQ.out.chg Y10.out (by omega))
  replace KG : Hid (Blk w10 (w7.heap.size) 30 [.int .i64 u.count, .int .i64 u.next, .int .i64 u.round, .slice A7 u.owns.length c7]) := Lib.hid (KG.out.chg Y10.out (by omega))
  replace HF4 := Lib.hid (HF4.out.chg Y10.out WHF4.out (by omega))
  replace HF5 := Lib.hid (HF5.out.chg Y10.out WHF5.out (by omega))
  replace HF6 := Lib.hid (HF6.out.chg Y10.out WHF6.out (by omega))
  replace HF7 := Lib.hid (HF7.out.chg Y10.out WHF7.out (by omega))
  replace DX := Lib.hid (HX.out.ex Ew10.out)
  replace DZ := Lib.hid (HZ.out.ex Ew10.out)
  have HF10 := Lib.hid hf10; clear hf10
  have WHF10 := Lib.hid HF10.out.row
  obtain ⟨qX0, qX1, qX2, qX3⟩ := KX.out.c4
  have jX := KX.out.lt
  obtain ⟨qW0, qW1, qW2, qW3⟩ := KW.out.c4
  have jW := KW.out.lt
  obtain ⟨qQ0, qQ1, qQ2, qQ3⟩ := KQ.out.c4
  have jQ := KQ.out.lt
  obtain ⟨qG0, qG1, qG2, qG3⟩ := KG.out.c4
  have jG := KG.out.lt
  go_wp2_with fail
  refine name_calls ?_; intro v11 hv11
  have X11 : Hid (Chg (0) (0) w10 v11) := Lib.hid (by rw [hv11]; repeat' (first | with_reducible exact Chg.refl _ _ _ | with_reducible refine Chg.alloc ?_ _ | with_reducible refine Chg.drew ?_ | with_reducible refine Chg.set ?_ (by omega) _))
  have t11 : w10.heap.size ≤ v11.heap.size := X11.out.size
  have Ev11 : Hid (Ex w v11) := Lib.hid (Ew10.out.chg X11.out (by omega))
  clear qX0 qX1 qX2 qX3 jX
  clear qW0 qW1 qW2 qW3 jW
  clear qQ0 qQ1 qQ2 qQ3 jQ
  clear qG0 qG1 qG2 qG3 jG
  replace KX : Hid (Blk v11 (w.heap.size) 24 [.int .i64 t.count, .int .i64 t.next, .int .i64 t.round, .slice A t.owns.length c]) := Lib.hid (KX.out.chg X11.out (by omega))
  replace KW : Hid (Blk v11 (w4.heap.size) 30 [.int .i64 u.count, .int .i64 u.next, .int .i64 u.round, .slice A4 u.owns.length c4]) := Lib.hid (KW.out.chg X11.out (by omega))
  replace KQ : Hid (Blk v11 (w5.heap.size) 30 [.int .i64 t.count, .int .i64 t.next, .int .i64 t.round, .slice A5 t.owns.length c5]) := Lib.hid (KQ.out.chg X11.out (by omega))
  replace KG : Hid (Blk v11 (w7.heap.size) 30 [.int .i64 u.count, .int .i64 u.next, .int .i64 u.round, .slice A7 u.owns.length c7]) := Lib.hid (KG.out.chg X11.out (by omega))
  replace HF4 := Lib.hid (HF4.out.chg X11.out WHF4.out (by omega))
  replace HF5 := Lib.hid (HF5.out.chg X11.out WHF5.out (by omega))
  replace HF6 := Lib.hid (HF6.out.chg X11.out WHF6.out (by omega))
  replace HF7 := Lib.hid (HF7.out.chg X11.out WHF7.out (by omega))
  replace HF10 := Lib.hid (HF10.out.chg X11.out WHF10.out (by omega))
  replace DX := Lib.hid (HX.out.ex Ev11.out)
  replace DZ := Lib.hid (HZ.out.ex Ev11.out)
  clear hv11
  refine (eqIntS_self_c A6 A10 c6 c10 zs _ HF6.out.rd HF10.out.rd hzn).mono ?_; rintro r w11 ⟨rfl, hb11⟩
  have Y11 : Hid (Chg 0 0 v11 w11) := Lib.hid (Chg.of_ex hb11)
  have s11 : v11.heap.size ≤ w11.heap.size := Y11.out.size
  have Ew11 : Hid (Ex w w11) := Lib.hid (Ev11.out.chg Y11.out (by omega))
  clear hb11
  replace KX : Hid (Blk w11 (w.heap.size) 24 [.int .i64 t.count, .int .i64 t.next, .int .i64 t.round, .slice A t.owns.length c]) := Lib.hid (KX.out.chg Y11.out (by omega))
  replace KW : Hid (Blk w11 (w4.heap.size) 30 [.int .i64 u.count, .int .i64 u.next, .int .i64 u.round, .slice A4 u.owns.length c4]) := Lib.hid (KW.out.chg Y11.out (by omega))
  replace KQ : Hid (Blk w11 (w5.heap.size) 30 [.int .i64 t.count, .int .i64 t.next, .int .i64 t.round, .slice A5 t.owns.length c5]) := Lib.hid (KQ.out.chg Y11.out (by omega))
  replace KG : Hid (Blk w11 (w7.heap.size) 30 [.int .i64 u.count, .int .i64 u.next, .int .i64 u.round, .slice A7 u.owns.length c7]) := Lib.hid (KG.out.chg Y11.out (by omega))
  replace HF4 := Lib.hid (HF4.out.chg Y11.out WHF4.out (by omega))
  replace HF5 := Lib.hid (HF5.out.chg Y11.out WHF5.out (by omega))
  replace HF6 := Lib.hid (HF6.out.chg Y11.out WHF6.out (by omega))
  replace HF7 := Lib.hid (HF7.out.chg Y11.out WHF7.out (by omega))
  replace HF10 := Lib.hid (HF10.out.chg Y11.out WHF10.out (by omega))
  replace DX := Lib.hid (HX.out.ex Ew11.out)
  replace DZ := Lib.hid (HZ.out.ex Ew11.out)
  obtain ⟨qX0, qX1, qX2, qX3⟩ := KX.out.c4
  have jX := KX.out.lt
  obtain ⟨qW0, qW1, qW2, qW3⟩ := KW.out.c4
  have jW := KW.out.lt
  obtain ⟨qQ0, qQ1, qQ2, qQ3⟩ := KQ.out.c4
  have jQ := KQ.out.lt
  obtain ⟨qG0, qG1, qG2, qG3⟩ := KG.out.c4
  have jG := KG.out.lt
  clear HF10 WHF10
  go_wp2_with fail
  refine name_calls ?_; intro v12 hv12
  have X12 : Hid (Chg (0) (0) w11 v12) := Lib.hid (by rw [hv12]; repeat' (first | with_reducible exact Chg.refl _ _ _ | with_reducible refine Chg.alloc ?_ _ | with_reducible refine Chg.drew ?_ | with_reducible refine Chg.set ?_ (by omega) _))
  have t12 : w11.heap.size ≤ v12.heap.size := X12.out.size
  have Ev12 : Hid (Ex w v12) := Lib.hid (Ew11.out.chg X12.out (by omega))
  clear qX0 qX1 qX2 qX3 jX
  clear qW0 qW1 qW2 qW3 jW
  clear qQ0 qQ1 qQ2 qQ3 jQ
  clear qG0 qG1 qG2 qG3 jG
  replace KX : Hid (Blk v12 (w.heap.size) 24 [.int .i64 t.count, .int .i64 t.next, .int .i64 t.round, .slice A t.owns.length c]) := Lib.hid (KX.out.chg X12.out (by omega))
  replace KW : Hid (Blk v12 (w4.heap.size) 30 [.int .i64 u.count, .int .i64 u.next, .int .i64 u.round, .slice A4 u.owns.length c4]) := Lib.hid (KW.out.chg X12.out (by omega))
  replace KQ : Hid (Blk v12 (w5.heap.size) 30 [.int .i64 t.count, .int .i64 t.next, .int .i64 t.round, .slice A5 t.owns.length c5]) := Lib.hid (KQ.out.chg X12.out (by omega))
  replace KG : Hid (Blk v12 (w7.heap.size) 30 [.int .i64 u.count, .int .i64 u.next, .int .i64 u.round, .slice A7 u.owns.length c7]) := Lib.hid (KG.out.chg X12.out (by omega))
  replace HF4 := Lib.hid (HF4.out.chg X12.out WHF4.out (by omega))
  replace HF5 := Lib.hid (HF5.out.chg X12.out WHF5.out (by omega))
  replace HF6 := Lib.hid (HF6.out.chg X12.out WHF6.out (by omega))
  replace HF7 := Lib.hid (HF7.out.chg X12.out WHF7.out (by omega))
  replace DX := Lib.hid (HX.out.ex Ev12.out)
  replace DZ := Lib.hid (HZ.out.ex Ev12.out)
  clear hv12
  refine (markTags_c t _ _ _ _ _ HF5.out hn (by omega) (by omega)).mono ?_; rintro r w12 ⟨rfl, hf12, hb12⟩
  have Y12 : Hid (Chg (v5.heap.size) (w5.heap.size) v12 w12) := Lib.hid (Chg.of_grown hb12 WHF5.out)
  have s12 : v12.heap.size ≤ w12.heap.size := Y12.out.size
  have Ew12 : Hid (Ex w w12) := Lib.hid (Ev12.out.chg Y12.out (by omega))
  clear hb12
  replace KX : Hid (Blk w12 (w.heap.size) 24 [.int .i64 t.count, .int .i64 t.next, .int .i64 t.round, .slice A t.owns.length c]) := Lib.hid (KX.out.chg Y12.out (by omega))
  replace KW : Hid (Blk w12 (w4.heap.size) 30 [.int .i64 u.count, .int .i64 u.next, .int .i64 u.round, .slice A4 u.owns.length c4]) := Lib.hid (KW.out.chg Y12.out (by omega))
  replace KQ : Hid (Blk w12 (w5.heap.size) 30 [.int .i64 t.count, .int .i64 t.next, .int .i64 t.round, .slice A5 t.owns.length c5]) := Lib.hid (KQ.out.chg Y12.out (by omega))
  replace KG : Hid (Blk w12 (w7.heap.size) 30 [.int .i64 u.count, .int .i64 u.next, .int .i64 u.round, .slice A7 u.owns.length c7]) := Lib.hid (KG.out.chg Y12.out (by omega))
  replace HF4 := Lib.hid (HF4.out.chg Y12.out WHF4.out (by omega))
  replace HF6 := Lib.hid (HF6.out.chg Y12.out WHF6.out (by omega))
  replace HF7 := Lib.hid (HF7.out.chg Y12.out WHF7.out (by omega))
  replace DX := Lib.hid (HX.out.ex Ew12.out)
  replace DZ := Lib.hid (HZ.out.ex Ew12.out)
  have HF12 := Lib.hid hf12; clear hf12
  have WHF12 := WHF5
  clear HF5 WHF5
  obtain ⟨qX0, qX1, qX2, qX3⟩ := KX.out.c4
  have jX := KX.out.lt
  obtain ⟨qW0, qW1, qW2, qW3⟩ := KW.out.c4
  have jW := KW.out.lt
  obtain ⟨qQ0, qQ1, qQ2, qQ3⟩ := KQ.out.c4
  have jQ := KQ.out.lt
  obtain ⟨qG0, qG1, qG2, qG3⟩ := KG.out.c4
  have jG := KG.out.lt
  go_wp2_with fail
  refine name_calls ?_; intro v13 hv13
  have X13 : Hid (Chg (0) (0) w12 v13) := Lib.hid (by rw [hv13]; repeat' (first | with_reducible exact Chg.refl _ _ _ | with_reducible refine Chg.alloc ?_ _ | with_reducible refine Chg.drew ?_ | with_reducible refine Chg.set ?_ (by omega) _))
  have t13 : w12.heap.size ≤ v13.heap.size := X13.out.size
  have Ev13 : Hid (Ex w v13) := Lib.hid (Ew12.out.chg X13.out (by omega))
  clear qX0 qX1 qX2 qX3 jX
  clear qW0 qW1 qW2 qW3 jW
  clear qQ0 qQ1 qQ2 qQ3 jQ
  clear qG0 qG1 qG2 qG3 jG
  replace KX : Hid (Blk v13 (w.heap.size) 24 [.int .i64 t.count, .int .i64 t.next, .int .i64 t.round, .slice A t.owns.length c]) := Lib.hid (KX.out.chg X13.out (by omega))
  replace KW : Hid (Blk v13 (w4.heap.size) 30 [.int .i64 u.count, .int .i64 u.next, .int .i64 u.round, .slice A4 u.owns.length c4]) := Lib.hid (KW.out.chg X13.out (by omega))
  replace KQ : Hid (Blk v13 (w5.heap.size) 30 [.int .i64 t.count, .int .i64 t.next, .int .i64 t.round, .slice A5 t.owns.length c5]) := Lib.hid (KQ.out.chg X13.out (by omega))
  replace KG : Hid (Blk v13 (w7.heap.size) 30 [.int .i64 u.count, .int .i64 u.next, .int .i64 u.round, .slice A7 u.owns.length c7]) := Lib.hid (KG.out.chg X13.out (by omega))
  replace HF4 := Lib.hid (HF4.out.chg X13.out WHF4.out (by omega))
  replace HF6 := Lib.hid (HF6.out.chg X13.out WHF6.out (by omega))
  replace HF7 := Lib.hid (HF7.out.chg X13.out WHF7.out (by omega))
  replace HF12 := Lib.hid (HF12.out.chg X13.out WHF12.out (by omega))
  replace DX := Lib.hid (HX.out.ex Ev13.out)
  replace DZ := Lib.hid (HZ.out.ex Ev13.out)
  clear hv13
  refine (markIntS_c _ _ _ zs _ _ HF6.out hzn (by omega) (by omega)).mono ?_; rintro r w13 ⟨rfl, hb13⟩
  have Y13 : Hid (Chg (v6.heap.size) (w6.heap.size) v13 w13) := Lib.hid (Chg.of_grown hb13 WHF6.out)
  have s13 : v13.heap.size ≤ w13.heap.size := Y13.out.size
  have Ew13 : Hid (Ex w w13) := Lib.hid (Ev13.out.chg Y13.out (by omega))
  clear hb13
  replace KX : Hid (Blk w13 (w.heap.size) 24 [.int .i64 t.count, .int .i64 t.next, .int .i64 t.round, .slice A t.owns.length c]) := Lib.hid (KX.out.chg Y13.out (by omega))
  replace KW : Hid (Blk w13 (w4.heap.size) 30 [.int .i64 u.count, .int .i64 u.next, .int .i64 u.round, .slice A4 u.owns.length c4]) := Lib.hid (KW.out.chg Y13.out (by omega))
  replace KQ : Hid (Blk w13 (w5.heap.size) 30 [.int .i64 t.count, .int .i64 t.next, .int .i64 t.round, .slice A5 t.owns.length c5]) := Lib.hid (KQ.out.chg Y13.out (by omega))
  replace KG : Hid (Blk w13 (w7.heap.size) 30 [.int .i64 u.count, .int .i64 u.next, .int .i64 u.round, .slice A7 u.owns.length c7]) := Lib.hid (KG.out.chg Y13.out (by omega))
  replace HF4 := Lib.hid (HF4.out.chg Y13.out WHF4.out (by omega))
  replace HF7 := Lib.hid (HF7.out.chg Y13.out WHF7.out (by omega))
  replace HF12 := Lib.hid (HF12.out.chg Y13.out WHF12.out (by omega))
  replace DX := Lib.hid (HX.out.ex Ew13.out)
  replace DZ := Lib.hid (HZ.out.ex Ew13.out)
  clear HF6 WHF6
  obtain ⟨qX0, qX1, qX2, qX3⟩ := KX.out.c4
  have jX := KX.out.lt
  obtain ⟨qW0, qW1, qW2, qW3⟩ := KW.out.c4
  have jW := KW.out.lt
  obtain ⟨qQ0, qQ1, qQ2, qQ3⟩ := KQ.out.c4
  have jQ := KQ.out.lt
  obtain ⟨qG0, qG1, qG2, qG3⟩ := KG.out.c4
  have jG := KG.out.lt
  go_wp2_with fail
  refine name_calls ?_; intro v14 hv14
  have X14 : Hid (Chg (0) (0) w13 v14) := Lib.hid (by rw [hv14]; repeat' (first | with_reducible exact Chg.refl _ _ _ | with_reducible refine Chg.alloc ?_ _ | with_reducible refine Chg.drew ?_ | with_reducible refine Chg.set ?_ (by omega) _))
  have t14 : w13.heap.size ≤ v14.heap.size := X14.out.size
  have Ev14 : Hid (Ex w v14) := Lib.hid (Ew13.out.chg X14.out (by omega))
  clear qX0 qX1 qX2 qX3 jX
  clear qW0 qW1 qW2 qW3 jW
  clear qQ0 qQ1 qQ2 qQ3 jQ
  clear qG0 qG1 qG2 qG3 jG
  replace KX : Hid (Blk v14 (w.heap.size) 24 [.int .i64 t.count, .int .i64 t.next, .int .i64 t.round, .slice A t.owns.length c]) := Lib.hid (KX.out.chg X14.out (by omega))
  replace KW : Hid (Blk v14 (w4.heap.size) 30 [.int .i64 u.count, .int .i64 u.next, .int .i64 u.round, .slice A4 u.owns.length c4]) := Lib.hid (KW.out.chg X14.out (by omega))
  replace KQ : Hid (Blk v14 (w5.heap.size) 30 [.int .i64 t.count, .int .i64 t.next, .int .i64 t.round, .slice A5 t.owns.length c5]) := Lib.hid (KQ.out.chg X14.out (by omega))
  replace KG : Hid (Blk v14 (w7.heap.size) 30 [.int .i64 u.count, .int .i64 u.next, .int .i64 u.round, .slice A7 u.owns.length c7]) := Lib.hid (KG.out.chg X14.out (by omega))
  replace HF4 := Lib.hid (HF4.out.chg X14.out WHF4.out (by omega))
  replace HF7 := Lib.hid (HF7.out.chg X14.out WHF7.out (by omega))
  replace HF12 := Lib.hid (HF12.out.chg X14.out WHF12.out (by omega))
  replace DX := Lib.hid (HX.out.ex Ev14.out)
  replace DZ := Lib.hid (HZ.out.ex Ev14.out)
  clear hv14
  refine (eqTags_self_c u _ _ _ _ _ HF7.out.rd HF4.out.rd hfew).mono ?_; rintro r w14 ⟨rfl, hb14⟩
  have Y14 : Hid (Chg 0 0 v14 w14) := Lib.hid (Chg.of_ex hb14)
  have s14 : v14.heap.size ≤ w14.heap.size := Y14.out.size
  have Ew14 : Hid (Ex w w14) := Lib.hid (Ev14.out.chg Y14.out (by omega))
  clear hb14
  replace KX : Hid (Blk w14 (w.heap.size) 24 [.int .i64 t.count, .int .i64 t.next, .int .i64 t.round, .slice A t.owns.length c]) := Lib.hid (KX.out.chg Y14.out (by omega))
  replace KW : Hid (Blk w14 (w4.heap.size) 30 [.int .i64 u.count, .int .i64 u.next, .int .i64 u.round, .slice A4 u.owns.length c4]) := Lib.hid (KW.out.chg Y14.out (by omega))
  replace KQ : Hid (Blk w14 (w5.heap.size) 30 [.int .i64 t.count, .int .i64 t.next, .int .i64 t.round, .slice A5 t.owns.length c5]) := Lib.hid (KQ.out.chg Y14.out (by omega))
  replace KG : Hid (Blk w14 (w7.heap.size) 30 [.int .i64 u.count, .int .i64 u.next, .int .i64 u.round, .slice A7 u.owns.length c7]) := Lib.hid (KG.out.chg Y14.out (by omega))
  replace HF4 := Lib.hid (HF4.out.chg Y14.out WHF4.out (by omega))
  replace HF7 := Lib.hid (HF7.out.chg Y14.out WHF7.out (by omega))
  replace HF12 := Lib.hid (HF12.out.chg Y14.out WHF12.out (by omega))
  replace DX := Lib.hid (HX.out.ex Ew14.out)
  replace DZ := Lib.hid (HZ.out.ex Ew14.out)
  obtain ⟨qX0, qX1, qX2, qX3⟩ := KX.out.c4
  have jX := KX.out.lt
  obtain ⟨qW0, qW1, qW2, qW3⟩ := KW.out.c4
  have jW := KW.out.lt
  obtain ⟨qQ0, qQ1, qQ2, qQ3⟩ := KQ.out.c4
  have jQ := KQ.out.lt
  obtain ⟨qG0, qG1, qG2, qG3⟩ := KG.out.c4
  have jG := KG.out.lt
  clear qQ0 qQ1 qQ2 qQ3 jQ
  clear KQ
  clear HF12 WHF12
  go_wp2_with fail
  refine name_calls ?_; intro v15 hv15
  have X15 : Hid (Chg (0) (0) w14 v15) := Lib.hid (by rw [hv15]; repeat' (first | with_reducible exact Chg.refl _ _ _ | with_reducible refine Chg.alloc ?_ _ | with_reducible refine Chg.drew ?_ | with_reducible refine Chg.set ?_ (by omega) _))
  have t15 : w14.heap.size ≤ v15.heap.size := X15.out.size
  have Ev15 : Hid (Ex w v15) := Lib.hid (Ew14.out.chg X15.out (by omega))
  clear qX0 qX1 qX2 qX3 jX
  clear qW0 qW1 qW2 qW3 jW
  clear qG0 qG1 qG2 qG3 jG
  replace KX : Hid (Blk v15 (w.heap.size) 24 [.int .i64 t.count, .int .i64 t.next, .int .i64 t.round, .slice A t.owns.length c]) := Lib.hid (KX.out.chg X15.out (by omega))
  replace KW : Hid (Blk v15 (w4.heap.size) 30 [.int .i64 u.count, .int .i64 u.next, .int .i64 u.round, .slice A4 u.owns.length c4]) := Lib.hid (KW.out.chg X15.out (by omega))
  replace KG : Hid (Blk v15 (w7.heap.size) 30 [.int .i64 u.count, .int .i64 u.next, .int .i64 u.round, .slice A7 u.owns.length c7]) := Lib.hid (KG.out.chg X15.out (by omega))
  replace HF4 := Lib.hid (HF4.out.chg X15.out WHF4.out (by omega))
  replace HF7 := Lib.hid (HF7.out.chg X15.out WHF7.out (by omega))
  replace DX := Lib.hid (HX.out.ex Ev15.out)
  replace DZ := Lib.hid (HZ.out.ex Ev15.out)
  clear hv15
  refine (markTags_c u _ _ _ _ _ HF7.out hfew (by omega) (by omega)).mono ?_; rintro r w15 ⟨rfl, hf15, hb15⟩
  have Y15 : Hid (Chg (v7.heap.size) (w7.heap.size) v15 w15) := Lib.hid (Chg.of_grown hb15 WHF7.out)
  have s15 : v15.heap.size ≤ w15.heap.size := Y15.out.size
  have Ew15 : Hid (Ex w w15) := Lib.hid (Ev15.out.chg Y15.out (by omega))
  clear hb15
  replace KX : Hid (Blk w15 (w.heap.size) 24 [.int .i64 t.count, .int .i64 t.next, .int .i64 t.round, .slice A t.owns.length c]) := Lib.hid (KX.out.chg Y15.out (by omega))
  replace KW : Hid (Blk w15 (w4.heap.size) 30 [.int .i64 u.count, .int .i64 u.next, .int .i64 u.round, .slice A4 u.owns.length c4]) := Lib.hid (KW.out.chg Y15.out (by omega))
  replace KG : Hid (Blk w15 (w7.heap.size) 30 [.int .i64 u.count, .int .i64 u.next, .int .i64 u.round, .slice A7 u.owns.length c7]) := Lib.hid (KG.out.chg Y15.out (by omega))
  replace HF4 := Lib.hid (HF4.out.chg Y15.out WHF4.out (by omega))
  replace DX := Lib.hid (HX.out.ex Ew15.out)
  replace DZ := Lib.hid (HZ.out.ex Ew15.out)
  have HF15 := Lib.hid hf15; clear hf15
  have WHF15 := WHF7
  clear HF7 WHF7
  obtain ⟨qX0, qX1, qX2, qX3⟩ := KX.out.c4
  have jX := KX.out.lt
  obtain ⟨qW0, qW1, qW2, qW3⟩ := KW.out.c4
  have jW := KW.out.lt
  obtain ⟨qG0, qG1, qG2, qG3⟩ := KG.out.c4
  have jG := KG.out.lt
  go_wp2_with fail
  refine name_calls ?_; intro v16 hv16
  have X16 : Hid (Chg (0) (0) w15 v16) := Lib.hid (by rw [hv16]; repeat' (first | with_reducible exact Chg.refl _ _ _ | with_reducible refine Chg.alloc ?_ _ | with_reducible refine Chg.drew ?_ | with_reducible refine Chg.set ?_ (by omega) _))
  have t16 : w15.heap.size ≤ v16.heap.size := X16.out.size
  have Ev16 : Hid (Ex w v16) := Lib.hid (Ew15.out.chg X16.out (by omega))
  clear qX0 qX1 qX2 qX3 jX
  clear qW0 qW1 qW2 qW3 jW
  clear qG0 qG1 qG2 qG3 jG
  replace KX : Hid (Blk v16 (w.heap.size) 24 [.int .i64 t.count, .int .i64 t.next, .int .i64 t.round, .slice A t.owns.length c]) := Lib.hid (KX.out.chg X16.out (by omega))
  replace KW : Hid (Blk v16 (w4.heap.size) 30 [.int .i64 u.count, .int .i64 u.next, .int .i64 u.round, .slice A4 u.owns.length c4]) := Lib.hid (KW.out.chg X16.out (by omega))
  replace KG : Hid (Blk v16 (w7.heap.size) 30 [.int .i64 u.count, .int .i64 u.next, .int .i64 u.round, .slice A7 u.owns.length c7]) := Lib.hid (KG.out.chg X16.out (by omega))
  replace HF4 := Lib.hid (HF4.out.chg X16.out WHF4.out (by omega))
  replace HF15 := Lib.hid (HF15.out.chg X16.out WHF15.out (by omega))
  replace DX := Lib.hid (HX.out.ex Ev16.out)
  replace DZ := Lib.hid (HZ.out.ex Ev16.out)
  clear hv16
  refine (heldTags_c _ _ _ _ _ _ _ _ HF15.out.rd hfew (by omega) (by omega)).mono ?_; rintro r w16 ⟨rfl, hb16⟩
  have Y16 : Hid (Chg 0 0 v16 w16) := Lib.hid (Chg.of_ex hb16)
  have s16 : v16.heap.size ≤ w16.heap.size := Y16.out.size
  have Ew16 : Hid (Ex w w16) := Lib.hid (Ev16.out.chg Y16.out (by omega))
  clear hb16
  replace KX : Hid (Blk w16 (w.heap.size) 24 [.int .i64 t.count, .int .i64 t.next, .int .i64 t.round, .slice A t.owns.length c]) := Lib.hid (KX.out.chg Y16.out (by omega))
  replace KW : Hid (Blk w16 (w4.heap.size) 30 [.int .i64 u.count, .int .i64 u.next, .int .i64 u.round, .slice A4 u.owns.length c4]) := Lib.hid (KW.out.chg Y16.out (by omega))
  replace KG : Hid (Blk w16 (w7.heap.size) 30 [.int .i64 u.count, .int .i64 u.next, .int .i64 u.round, .slice A7 u.owns.length c7]) := Lib.hid (KG.out.chg Y16.out (by omega))
  replace HF4 := Lib.hid (HF4.out.chg Y16.out WHF4.out (by omega))
  replace HF15 := Lib.hid (HF15.out.chg Y16.out WHF15.out (by omega))
  replace DX := Lib.hid (HX.out.ex Ew16.out)
  replace DZ := Lib.hid (HZ.out.ex Ew16.out)
  obtain ⟨qX0, qX1, qX2, qX3⟩ := KX.out.c4
  have jX := KX.out.lt
  obtain ⟨qW0, qW1, qW2, qW3⟩ := KW.out.c4
  have jW := KW.out.lt
  obtain ⟨qG0, qG1, qG2, qG3⟩ := KG.out.c4
  have jG := KG.out.lt
  go_wp2_with fail
  refine name_calls ?_; intro v17 hv17
  have X17 : Hid (Chg (0) (0) w16 v17) := Lib.hid (by rw [hv17]; repeat' (first | with_reducible exact Chg.refl _ _ _ | with_reducible refine Chg.alloc ?_ _ | with_reducible refine Chg.drew ?_ | with_reducible refine Chg.set ?_ (by omega) _))
  have t17 : w16.heap.size ≤ v17.heap.size := X17.out.size
  have Ev17 : Hid (Ex w v17) := Lib.hid (Ew16.out.chg X17.out (by omega))
  clear qX0 qX1 qX2 qX3 jX
  clear qW0 qW1 qW2 qW3 jW
  clear qG0 qG1 qG2 qG3 jG
  replace KX : Hid (Blk v17 (w.heap.size) 24 [.int .i64 t.count, .int .i64 t.next, .int .i64 t.round, .slice A t.owns.length c]) := Lib.hid (KX.out.chg X17.out (by omega))
  replace KW : Hid (Blk v17 (w4.heap.size) 30 [.int .i64 u.count, .int .i64 u.next, .int .i64 u.round, .slice A4 u.owns.length c4]) := Lib.hid (KW.out.chg X17.out (by omega))
  replace KG : Hid (Blk v17 (w7.heap.size) 30 [.int .i64 u.count, .int .i64 u.next, .int .i64 u.round, .slice A7 u.owns.length c7]) := Lib.hid (KG.out.chg X17.out (by omega))
  replace HF4 := Lib.hid (HF4.out.chg X17.out WHF4.out (by omega))
  replace HF15 := Lib.hid (HF15.out.chg X17.out WHF15.out (by omega))
  replace DX := Lib.hid (HX.out.ex Ev17.out)
  replace DZ := Lib.hid (HZ.out.ex Ev17.out)
  clear hv17
  refine (toTags_c t A c _ DX.out hn).mono ?_; rintro r w17 ⟨A17, c17, rfl, hf17, hb17⟩
  have Y17 : Hid (Chg 0 0 v17 w17) := Lib.hid (Chg.of_ex hb17)
  have s17 : v17.heap.size ≤ w17.heap.size := Y17.out.size
  have Ew17 : Hid (Ex w w17) := Lib.hid (Ev17.out.chg Y17.out (by omega))
  clear hb17
  replace KX : Hid (Blk w17 (w.heap.size) 24 [.int .i64 t.count, .int .i64 t.next, .int .i64 t.round, .slice A t.owns.length c]) := Lib.hid (KX.out.chg Y17.out (by omega))
  replace KW : Hid (Blk w17 (w4.heap.size) 30 [.int .i64 u.count, .int .i64 u.next, .int .i64 u.round, .slice A4 u.owns.length c4]) := Lib.hid (KW.out.chg Y17.out (by omega))
  replace KG : Hid (Blk w17 (w7.heap.size) 30 [.int .i64 u.count, .int .i64 u.next, .int .i64 u.round, .slice A7 u.owns.length c7]) := Lib.hid (KG.out.chg Y17.out (by omega))
  replace HF4 := Lib.hid (HF4.out.chg Y17.out WHF4.out (by omega))
  replace HF15 := Lib.hid (HF15.out.chg Y17.out WHF15.out (by omega))
  replace DX := Lib.hid (HX.out.ex Ew17.out)
  replace DZ := Lib.hid (HZ.out.ex Ew17.out)
  have HF17 := Lib.hid hf17; clear hf17
  have WHF17 := Lib.hid HF17.out.row
  obtain ⟨qX0, qX1, qX2, qX3⟩ := KX.out.c4
  have jX := KX.out.lt
  obtain ⟨qW0, qW1, qW2, qW3⟩ := KW.out.c4
  have jW := KW.out.lt
  obtain ⟨qG0, qG1, qG2, qG3⟩ := KG.out.c4
  have jG := KG.out.lt
  go_wp2_with fail
  refine name_calls ?_; intro v18 hv18
  have X18 : Hid (Chg (0) (0) w17 v18) := Lib.hid (by rw [hv18]; repeat' (first | with_reducible exact Chg.refl _ _ _ | with_reducible refine Chg.alloc ?_ _ | with_reducible refine Chg.drew ?_ | with_reducible refine Chg.set ?_ (by omega) _))
  have t18 : w17.heap.size ≤ v18.heap.size := X18.out.size
  have Ev18 : Hid (Ex w v18) := Lib.hid (Ew17.out.chg X18.out (by omega))
  clear qX0 qX1 qX2 qX3 jX
  clear qW0 qW1 qW2 qW3 jW
  clear qG0 qG1 qG2 qG3 jG
  replace KX : Hid (Blk v18 (w.heap.size) 24 [.int .i64 t.count, .int .i64 t.next, .int .i64 t.round, .slice A t.owns.length c]) := Lib.hid (KX.out.chg X18.out (by omega))
  replace KW : Hid (Blk v18 (w4.heap.size) 30 [.int .i64 u.count, .int .i64 u.next, .int .i64 u.round, .slice A4 u.owns.length c4]) := Lib.hid (KW.out.chg X18.out (by omega))
  replace KG : Hid (Blk v18 (w7.heap.size) 30 [.int .i64 u.count, .int .i64 u.next, .int .i64 u.round, .slice A7 u.owns.length c7]) := Lib.hid (KG.out.chg X18.out (by omega))
  replace HF4 := Lib.hid (HF4.out.chg X18.out WHF4.out (by omega))
  replace HF15 := Lib.hid (HF15.out.chg X18.out WHF15.out (by omega))
  replace HF17 := Lib.hid (HF17.out.chg X18.out WHF17.out (by omega))
  replace DX := Lib.hid (HX.out.ex Ev18.out)
  replace DZ := Lib.hid (HZ.out.ex Ev18.out)
  clear hv18
  refine (toIntS_c Z d zs _ DZ.out hzn).mono ?_; rintro r w18 ⟨A18, c18, rfl, hf18, hb18⟩
  have Y18 : Hid (Chg 0 0 v18 w18) := Lib.hid (Chg.of_ex hb18)
  have s18 : v18.heap.size ≤ w18.heap.size := Y18.out.size
  have Ew18 : Hid (Ex w w18) := Lib.hid (Ev18.out.chg Y18.out (by omega))
  clear hb18
  replace KX : Hid (Blk w18 (w.heap.size) 24 [.int .i64 t.count, .int .i64 t.next, .int .i64 t.round, .slice A t.owns.length c]) := Lib.hid (KX.out.chg Y18.out (by omega))
  replace KW : Hid (Blk w18 (w4.heap.size) 30 [.int .i64 u.count, .int .i64 u.next, .int .i64 u.round, .slice A4 u.owns.length c4]) := Lib.hid (KW.out.chg Y18.out (by omega))
  replace KG : Hid (Blk w18 (w7.heap.size) 30 [.int .i64 u.count, .int .i64 u.next, .int .i64 u.round, .slice A7 u.owns.length c7]) := Lib.hid (KG.out.chg Y18.out (by omega))
  replace HF4 := Lib.hid (HF4.out.chg Y18.out WHF4.out (by omega))
  replace HF15 := Lib.hid (HF15.out.chg Y18.out WHF15.out (by omega))
  replace HF17 := Lib.hid (HF17.out.chg Y18.out WHF17.out (by omega))
  replace DX := Lib.hid (HX.out.ex Ew18.out)
  replace DZ := Lib.hid (HZ.out.ex Ew18.out)
  have HF18 := Lib.hid hf18; clear hf18
  have WHF18 := Lib.hid HF18.out.row
  obtain ⟨qX0, qX1, qX2, qX3⟩ := KX.out.c4
  have jX := KX.out.lt
  obtain ⟨qW0, qW1, qW2, qW3⟩ := KW.out.c4
  have jW := KW.out.lt
  obtain ⟨qG0, qG1, qG2, qG3⟩ := KG.out.c4
  have jG := KG.out.lt
  go_wp2_with fail
  refine name_calls ?_; intro v19 hv19
  have X19 : Hid (Chg (0) (0) w18 v19) := Lib.hid (by rw [hv19]; repeat' (first | with_reducible exact Chg.refl _ _ _ | with_reducible refine Chg.alloc ?_ _ | with_reducible refine Chg.drew ?_ | with_reducible refine Chg.set ?_ (by omega) _))
  have t19 : w18.heap.size ≤ v19.heap.size := X19.out.size
  have Ev19 : Hid (Ex w v19) := Lib.hid (Ew18.out.chg X19.out (by omega))
  clear qX0 qX1 qX2 qX3 jX
  clear qW0 qW1 qW2 qW3 jW
  clear qG0 qG1 qG2 qG3 jG
  replace KX : Hid (Blk v19 (w.heap.size) 24 [.int .i64 t.count, .int .i64 t.next, .int .i64 t.round, .slice A t.owns.length c]) := Lib.hid (KX.out.chg X19.out (by omega))
  replace KW : Hid (Blk v19 (w4.heap.size) 30 [.int .i64 u.count, .int .i64 u.next, .int .i64 u.round, .slice A4 u.owns.length c4]) := Lib.hid (KW.out.chg X19.out (by omega))
  replace KG : Hid (Blk v19 (w7.heap.size) 30 [.int .i64 u.count, .int .i64 u.next, .int .i64 u.round, .slice A7 u.owns.length c7]) := Lib.hid (KG.out.chg X19.out (by omega))
  replace HF4 := Lib.hid (HF4.out.chg X19.out WHF4.out (by omega))
  replace HF15 := Lib.hid (HF15.out.chg X19.out WHF15.out (by omega))
  replace HF17 := Lib.hid (HF17.out.chg X19.out WHF17.out (by omega))
  replace HF18 := Lib.hid (HF18.out.chg X19.out WHF18.out (by omega))
  replace DX := Lib.hid (HX.out.ex Ev19.out)
  replace DZ := Lib.hid (HZ.out.ex Ev19.out)
  clear hv19
  refine (C2.out A17 A18 c17 c18 _ HF17.out.rd HF18.out.rd hn HF17.out.le HF17.out.cap hzn).mono ?_; rintro r w19 ⟨A19, c19, rfl, hf19, hb19⟩
  have Y19 : Hid (Chg 0 0 v19 w19) := Lib.hid (Chg.of_ex hb19)
  have s19 : v19.heap.size ≤ w19.heap.size := Y19.out.size
  have Ew19 : Hid (Ex w w19) := Lib.hid (Ev19.out.chg Y19.out (by omega))
  clear hb19
  replace KX : Hid (Blk w19 (w.heap.size) 24 [.int .i64 t.count, .int .i64 t.next, .int .i64 t.round, .slice A t.owns.length c]) := Lib.hid (KX.out.chg Y19.out (by omega))
  replace KW : Hid (Blk w19 (w4.heap.size) 30 [.int .i64 u.count, .int .i64 u.next, .int .i64 u.round, .slice A4 u.owns.length c4]) := Lib.hid (KW.out.chg Y19.out (by omega))
  replace KG : Hid (Blk w19 (w7.heap.size) 30 [.int .i64 u.count, .int .i64 u.next, .int .i64 u.round, .slice A7 u.owns.length c7]) := Lib.hid (KG.out.chg Y19.out (by omega))
  replace HF4 := Lib.hid (HF4.out.chg Y19.out WHF4.out (by omega))
  replace HF15 := Lib.hid (HF15.out.chg Y19.out WHF15.out (by omega))
  replace HF17 := Lib.hid (HF17.out.chg Y19.out WHF17.out (by omega))
  replace HF18 := Lib.hid (HF18.out.chg Y19.out WHF18.out (by omega))
  replace DX := Lib.hid (HX.out.ex Ew19.out)
  replace DZ := Lib.hid (HZ.out.ex Ew19.out)
  have HF19 := Lib.hid hf19; clear hf19
  have WHF19 := Lib.hid HF19.out.row
  obtain ⟨qX0, qX1, qX2, qX3⟩ := KX.out.c4
  have jX := KX.out.lt
  obtain ⟨qW0, qW1, qW2, qW3⟩ := KW.out.c4
  have jW := KW.out.lt
  obtain ⟨qG0, qG1, qG2, qG3⟩ := KG.out.c4
  have jG := KG.out.lt
  clear HF17 WHF17
  clear HF18 WHF18
  go_wp2_with fail
  refine name_calls ?_; intro v20 hv20
  have X20 : Hid (Chg (0) (0) w19 v20) := Lib.hid (by rw [hv20]; repeat' (first | with_reducible exact Chg.refl _ _ _ | with_reducible refine Chg.alloc ?_ _ | with_reducible refine Chg.drew ?_ | with_reducible refine Chg.set ?_ (by omega) _))
  have t20 : w19.heap.size ≤ v20.heap.size := X20.out.size
  have Ev20 : Hid (Ex w v20) := Lib.hid (Ew19.out.chg X20.out (by omega))
  clear qX0 qX1 qX2 qX3 jX
  clear qW0 qW1 qW2 qW3 jW
  clear qG0 qG1 qG2 qG3 jG
  replace KX : Hid (Blk v20 (w.heap.size) 24 [.int .i64 t.count, .int .i64 t.next, .int .i64 t.round, .slice A t.owns.length c]) := Lib.hid (KX.out.chg X20.out (by omega))
  replace KW : Hid (Blk v20 (w4.heap.size) 30 [.int .i64 u.count, .int .i64 u.next, .int .i64 u.round, .slice A4 u.owns.length c4]) := Lib.hid (KW.out.chg X20.out (by omega))
  replace KG : Hid (Blk v20 (w7.heap.size) 30 [.int .i64 u.count, .int .i64 u.next, .int .i64 u.round, .slice A7 u.owns.length c7]) := Lib.hid (KG.out.chg X20.out (by omega))
  replace HF4 := Lib.hid (HF4.out.chg X20.out WHF4.out (by omega))
  replace HF15 := Lib.hid (HF15.out.chg X20.out WHF15.out (by omega))
  replace HF19 := Lib.hid (HF19.out.chg X20.out WHF19.out (by omega))
  replace DX := Lib.hid (HX.out.ex Ev20.out)
  replace DZ := Lib.hid (HZ.out.ex Ev20.out)
  clear hv20
  refine (eqTags_self_c u _ _ _ _ _ HF19.out.rd HF4.out.rd hfew).mono ?_; rintro r w20 ⟨rfl, hb20⟩
  have Y20 : Hid (Chg 0 0 v20 w20) := Lib.hid (Chg.of_ex hb20)
  have s20 : v20.heap.size ≤ w20.heap.size := Y20.out.size
  have Ew20 : Hid (Ex w w20) := Lib.hid (Ev20.out.chg Y20.out (by omega))
  clear hb20
  replace KX : Hid (Blk w20 (w.heap.size) 24 [.int .i64 t.count, .int .i64 t.next, .int .i64 t.round, .slice A t.owns.length c]) := Lib.hid (KX.out.chg Y20.out (by omega))
  replace KW : Hid (Blk w20 (w4.heap.size) 30 [.int .i64 u.count, .int .i64 u.next, .int .i64 u.round, .slice A4 u.owns.length c4]) := Lib.hid (KW.out.chg Y20.out (by omega))
  replace KG : Hid (Blk w20 (w7.heap.size) 30 [.int .i64 u.count, .int .i64 u.next, .int .i64 u.round, .slice A7 u.owns.length c7]) := Lib.hid (KG.out.chg Y20.out (by omega))
  replace HF4 := Lib.hid (HF4.out.chg Y20.out WHF4.out (by omega))
  replace HF15 := Lib.hid (HF15.out.chg Y20.out WHF15.out (by omega))
  replace HF19 := Lib.hid (HF19.out.chg Y20.out WHF19.out (by omega))
  replace DX := Lib.hid (HX.out.ex Ew20.out)
  replace DZ := Lib.hid (HZ.out.ex Ew20.out)
  obtain ⟨qX0, qX1, qX2, qX3⟩ := KX.out.c4
  have jX := KX.out.lt
  obtain ⟨qW0, qW1, qW2, qW3⟩ := KW.out.c4
  have jW := KW.out.lt
  obtain ⟨qG0, qG1, qG2, qG3⟩ := KG.out.c4
  have jG := KG.out.lt
  go_wp2_with fail
  refine name_calls ?_; intro v21 hv21
  have X21 : Hid (Chg (0) (0) w20 v21) := Lib.hid (by rw [hv21]; repeat' (first | with_reducible exact Chg.refl _ _ _ | with_reducible refine Chg.alloc ?_ _ | with_reducible refine Chg.drew ?_ | with_reducible refine Chg.set ?_ (by omega) _))
  have t21 : w20.heap.size ≤ v21.heap.size := X21.out.size
  have Ev21 : Hid (Ex w v21) := Lib.hid (Ew20.out.chg X21.out (by omega))
  clear qX0 qX1 qX2 qX3 jX
  clear qW0 qW1 qW2 qW3 jW
  clear qG0 qG1 qG2 qG3 jG
  replace KX : Hid (Blk v21 (w.heap.size) 24 [.int .i64 t.count, .int .i64 t.next, .int .i64 t.round, .slice A t.owns.length c]) := Lib.hid (KX.out.chg X21.out (by omega))
  replace KW : Hid (Blk v21 (w4.heap.size) 30 [.int .i64 u.count, .int .i64 u.next, .int .i64 u.round, .slice A4 u.owns.length c4]) := Lib.hid (KW.out.chg X21.out (by omega))
  replace KG : Hid (Blk v21 (w7.heap.size) 30 [.int .i64 u.count, .int .i64 u.next, .int .i64 u.round, .slice A7 u.owns.length c7]) := Lib.hid (KG.out.chg X21.out (by omega))
  replace HF4 := Lib.hid (HF4.out.chg X21.out WHF4.out (by omega))
  replace HF15 := Lib.hid (HF15.out.chg X21.out WHF15.out (by omega))
  replace HF19 := Lib.hid (HF19.out.chg X21.out WHF19.out (by omega))
  replace DX := Lib.hid (HX.out.ex Ev21.out)
  replace DZ := Lib.hid (HZ.out.ex Ev21.out)
  clear hv21
  refine (heldTags_c _ _ _ _ _ _ _ _ HF15.out.rd hfew (by omega) (by omega)).mono ?_; rintro r w21 ⟨rfl, hb21⟩
  have Y21 : Hid (Chg 0 0 v21 w21) := Lib.hid (Chg.of_ex hb21)
  have s21 : v21.heap.size ≤ w21.heap.size := Y21.out.size
  have Ew21 : Hid (Ex w w21) := Lib.hid (Ev21.out.chg Y21.out (by omega))
  clear hb21
  replace KX : Hid (Blk w21 (w.heap.size) 24 [.int .i64 t.count, .int .i64 t.next, .int .i64 t.round, .slice A t.owns.length c]) := Lib.hid (KX.out.chg Y21.out (by omega))
  replace KW : Hid (Blk w21 (w4.heap.size) 30 [.int .i64 u.count, .int .i64 u.next, .int .i64 u.round, .slice A4 u.owns.length c4]) := Lib.hid (KW.out.chg Y21.out (by omega))
  replace KG : Hid (Blk w21 (w7.heap.size) 30 [.int .i64 u.count, .int .i64 u.next, .int .i64 u.round, .slice A7 u.owns.length c7]) := Lib.hid (KG.out.chg Y21.out (by omega))
  replace HF4 := Lib.hid (HF4.out.chg Y21.out WHF4.out (by omega))
  replace HF15 := Lib.hid (HF15.out.chg Y21.out WHF15.out (by omega))
  replace HF19 := Lib.hid (HF19.out.chg Y21.out WHF19.out (by omega))
  replace DX := Lib.hid (HX.out.ex Ew21.out)
  replace DZ := Lib.hid (HZ.out.ex Ew21.out)
  obtain ⟨qX0, qX1, qX2, qX3⟩ := KX.out.c4
  have jX := KX.out.lt
  obtain ⟨qW0, qW1, qW2, qW3⟩ := KW.out.c4
  have jW := KW.out.lt
  obtain ⟨qG0, qG1, qG2, qG3⟩ := KG.out.c4
  have jG := KG.out.lt
  go_wp2
  go_ret
  exact ⟨rfl, Ew21.out⟩
end Go.Proofs.Ytkiohppknlmfaaa
