/- The law FnTakeLast: the walk. -/
import Derived.Test.YtkiohppknlmfaaaSf
import Derived.Test.YtkiohppknlmfaaaTt
import Derived.Test.YtkiohppknlmfaaaTu
import Derived.Test.YtkiohppknlmfaaaTl
import Derived.Test.YtkiohppknlmfaaaTk
import Derived.Test.YtkiohppknlmfaaaTy
import Derived.Test.YtkiohppknlmfaaaTz
import Derived.Test.YtkiohppknlmfaaaTw
import Derived.Test.YtkiohppknlmfaaaTd
import Derived.Test.YtkiohppknlmfaaaTq
import Derived.Deep.RegionHeld3
namespace Go.Proofs.Ytkiohppknlmfaaa
open Go.ChangeShapes Go.WideShapes Go.ChangeAt Go.RowKit
open Rec (sz cs)
set_option linter.unusedVariables false
set_option maxRecDepth 100000

set_option maxHeartbeats 16000000 in
theorem walk_FnTakeLast (A : Option Addr) (n c : Nat) (bs : List ByteD) (w : World) (hr : Rd w A bs) (hc : Bytes bs ∧ bs.length = n ∧ n ≤ c ∧ c ≤ maxLen) :
    Calls Try.prog 19 #[.slice A n c] w fun r w' => r = .returned (.bool true) ∧ Ex w w' := by
  obtain ⟨hb, rfl, hnc, hcm⟩ := hc
  by_cases hbig : 1048576 < bs.length
  · have hbig' : (1048576 : Int) < (bs.length : Int) := by omega
    unfold maxLen at hcm
    generalize bs.length = n at *
    go_enter Try.func19, Try.ntmps19
    go_wp2
    go_ret
    exact ⟨rfl, Ex.refl _⟩
  have hsm : ¬ (1048576 : Int) < (bs.length : Int) := by omega
  have C0 := Lib.hid (fun w' (h : Ex w w') => drawTakeTags_c A c bs w' (hr.ex h) hb (by omega) hnc hcm)
  have hcm' := hcm
  unfold maxLen at hcm'
  generalize bs.length = n at *
  clear hr hb hcm
  go_enter Try.func19, Try.ntmps19
  go_wp2_with fail
  refine name_calls ?_; intro v0 hv0
  have X0 : Hid (Chg (0) (0) w v0) := Lib.hid (by rw [hv0]; repeat' (first | with_reducible exact Chg.refl _ _ _ | with_reducible refine Chg.alloc ?_ _ | with_reducible refine Chg.drew ?_ | with_reducible refine Chg.set ?_ (by omega) _))
  have t0 : w.heap.size ≤ v0.heap.size := X0.out.size
  have Ev0 : Hid (Ex w v0) := Lib.hid ((Ex.refl w).chg X0.out (by omega))
  clear hv0
  refine (C0.out _ Ev0.out).mono ?_; rintro r w0 ⟨t, zs, A0, Z0, c0, d0, rfl, hl0, hlz, hf0, hfz, hb0⟩
  have Y0 : Hid (Chg 0 0 v0 w0) := Lib.hid (Chg.of_ex hb0)
  have s0 : v0.heap.size ≤ w0.heap.size := Y0.out.size
  have Ew0 : Hid (Ex w w0) := Lib.hid (Ev0.out.chg Y0.out (by omega))
  clear hb0
  have HF0 := Lib.hid hf0; clear hf0
  have WHF0 := Lib.hid HF0.out.row
  have HFZ := Lib.hid hfz; clear hfz
  have WHFZ := Lib.hid HFZ.out.row
  clear C0
  have hn : t.owns.length ≤ 1048576 := by omega
  have hzn : zs.length ≤ 1048576 := by omega
  have C1 := Lib.hid (takeTagsI_c t zs)
  have C2 := Lib.hid (takeTagsS_c t zs)
  have hfew := (by have := takeTags_few t zs; omega : (takeTags t zs).1.owns.length ≤ 1048576)
  have HLAW : Hid (∀ u rr, takeTags t zs = (u, rr, true) → ∀ z, zs[zs.length - 1]? = some z → ∃ g, tagOf u z = (g, true) ∧ spaceOf u g = (z, true) ∧ rr ≤ zs.length) := Lib.hid (fun u rr h z hz => last_law h hz)
  generalize takeTags t zs = q at C1 C2 hfew HLAW
  obtain ⟨u, rr, ok⟩ := q
  dsimp only at C1 C2 hfew
  have hne0 : (rr != rr) = false := by simp
  have heq0 : (rr == rr) = true := by simp
  cases ok
  · skip
    go_wp2_with fail
    refine name_calls ?_; intro v1 hv1
    have X1 : Hid (Chg (0) (0) w0 v1) := Lib.hid (by rw [hv1]; repeat' (first | with_reducible exact Chg.refl _ _ _ | with_reducible refine Chg.alloc ?_ _ | with_reducible refine Chg.drew ?_ | with_reducible refine Chg.set ?_ (by omega) _))
    have t1 : w0.heap.size ≤ v1.heap.size := X1.out.size
    have Ev1 : Hid (Ex w v1) := Lib.hid (Ew0.out.chg X1.out (by omega))
    replace HF0 := Lib.hid (HF0.out.chg X1.out WHF0.out (by omega))
    replace HFZ := Lib.hid (HFZ.out.chg X1.out WHFZ.out (by omega))
    have KX : Hid (Blk v1 (w0.heap.size) 30 [.int .i64 t.count, .int .i64 t.next, .int .i64 t.round, .slice A0 t.owns.length c0]) := Lib.hid (by rw [hv1]; repeat' (first | with_reducible exact Blk.new_at _ _ _ (by simp) | with_reducible refine Blk.alloc ?_ _ | with_reducible refine Blk.drew ?_ | with_reducible refine Blk.far ?_ (by simp; omega) _))
    have lX : w0.heap.size < v1.heap.size := KX.out.lt
    clear hv1
    refine (C1.out A0 Z0 c0 d0 _ HF0.out.rd HFZ.out.rd hn HF0.out.le HF0.out.cap hzn).mono ?_; rintro r w1 ⟨A1, c1, rfl, hf1, hb1⟩
    have Y1 : Hid (Chg 0 0 v1 w1) := Lib.hid (Chg.of_ex hb1)
    have s1 : v1.heap.size ≤ w1.heap.size := Y1.out.size
    have Ew1 : Hid (Ex w w1) := Lib.hid (Ev1.out.chg Y1.out (by omega))
    clear hb1
    replace KX : Hid (Blk w1 (w0.heap.size) 30 [.int .i64 t.count, .int .i64 t.next, .int .i64 t.round, .slice A0 t.owns.length c0]) := Lib.hid (KX.out.chg Y1.out (by omega))
    replace HF0 := Lib.hid (HF0.out.chg Y1.out WHF0.out (by omega))
    replace HFZ := Lib.hid (HFZ.out.chg Y1.out WHFZ.out (by omega))
    have HF1 := Lib.hid hf1; clear hf1
    have WHF1 := Lib.hid HF1.out.row
    obtain ⟨qX0, qX1, qX2, qX3⟩ := KX.out.c4
    have jX := KX.out.lt
    go_wp2_with fail
    refine name_calls ?_; intro v2 hv2
    have X2 : Hid (Chg (0) (0) w1 v2) := Lib.hid (by rw [hv2]; repeat' (first | with_reducible exact Chg.refl _ _ _ | with_reducible refine Chg.alloc ?_ _ | with_reducible refine Chg.drew ?_ | with_reducible refine Chg.set ?_ (by omega) _))
    have t2 : w1.heap.size ≤ v2.heap.size := X2.out.size
    have Ev2 : Hid (Ex w v2) := Lib.hid (Ew1.out.chg X2.out (by omega))
    clear qX0 qX1 qX2 qX3 jX
    replace KX : Hid (Blk v2 (w0.heap.size) 30 [.int .i64 t.count, .int .i64 t.next, .int .i64 t.round, .slice A0 t.owns.length c0]) := Lib.hid (KX.out.chg X2.out (by omega))
    replace HF0 := Lib.hid (HF0.out.chg X2.out WHF0.out (by omega))
    replace HFZ := Lib.hid (HFZ.out.chg X2.out WHFZ.out (by omega))
    replace HF1 := Lib.hid (HF1.out.chg X2.out WHF1.out (by omega))
    have KD : Hid (Blk v2 (w1.heap.size) 30 [.int .i64 u.count, .int .i64 u.next, .int .i64 u.round, .slice A1 u.owns.length c1]) := Lib.hid (by rw [hv2]; repeat' (first | with_reducible exact Blk.new_at _ _ _ (by simp) | with_reducible refine Blk.alloc ?_ _ | with_reducible refine Blk.drew ?_ | with_reducible refine Blk.far ?_ (by simp; omega) _))
    have lD : w1.heap.size < v2.heap.size := KD.out.lt
    clear hv2
    refine (C2.out A0 Z0 c0 d0 _ HF0.out.rd HFZ.out.rd hn HF0.out.le HF0.out.cap hzn).mono ?_; rintro r w2 ⟨A2, c2, rfl, hf2, hb2⟩
    have Y2 : Hid (Chg 0 0 v2 w2) := Lib.hid (Chg.of_ex hb2)
    have s2 : v2.heap.size ≤ w2.heap.size := Y2.out.size
    have Ew2 : Hid (Ex w w2) := Lib.hid (Ev2.out.chg Y2.out (by omega))
    clear hb2
    replace KX : Hid (Blk w2 (w0.heap.size) 30 [.int .i64 t.count, .int .i64 t.next, .int .i64 t.round, .slice A0 t.owns.length c0]) := Lib.hid (KX.out.chg Y2.out (by omega))
    replace KD : Hid (Blk w2 (w1.heap.size) 30 [.int .i64 u.count, .int .i64 u.next, .int .i64 u.round, .slice A1 u.owns.length c1]) := Lib.hid (KD.out.chg Y2.out (by omega))
    replace HF0 := Lib.hid (HF0.out.chg Y2.out WHF0.out (by omega))
    replace HFZ := Lib.hid (HFZ.out.chg Y2.out WHFZ.out (by omega))
    replace HF1 := Lib.hid (HF1.out.chg Y2.out WHF1.out (by omega))
    have HF2 := Lib.hid hf2; clear hf2
    have WHF2 := Lib.hid HF2.out.row
    obtain ⟨qX0, qX1, qX2, qX3⟩ := KX.out.c4
    have jX := KX.out.lt
    obtain ⟨qD0, qD1, qD2, qD3⟩ := KD.out.c4
    have jD := KD.out.lt
    go_wp2_with fail
    refine name_calls ?_; intro v3 hv3
    have X3 : Hid (Chg (0) (0) w2 v3) := Lib.hid (by rw [hv3]; repeat' (first | with_reducible exact Chg.refl _ _ _ | with_reducible refine Chg.alloc ?_ _ | with_reducible refine Chg.drew ?_ | with_reducible refine Chg.set ?_ (by omega) _))
    have t3 : w2.heap.size ≤ v3.heap.size := X3.out.size
    have Ev3 : Hid (Ex w v3) := Lib.hid (Ew2.out.chg X3.out (by omega))
    clear qX0 qX1 qX2 qX3 jX
    clear qD0 qD1 qD2 qD3 jD
    replace KX : Hid (Blk v3 (w0.heap.size) 30 [.int .i64 t.count, .int .i64 t.next, .int .i64 t.round, .slice A0 t.owns.length c0]) := Lib.hid (KX.out.chg X3.out (by omega))
    replace KD : Hid (Blk v3 (w1.heap.size) 30 [.int .i64 u.count, .int .i64 u.next, .int .i64 u.round, .slice A1 u.owns.length c1]) := Lib.hid (KD.out.chg X3.out (by omega))
    replace HF0 := Lib.hid (HF0.out.chg X3.out WHF0.out (by omega))
    replace HFZ := Lib.hid (HFZ.out.chg X3.out WHFZ.out (by omega))
    replace HF1 := Lib.hid (HF1.out.chg X3.out WHF1.out (by omega))
    replace HF2 := Lib.hid (HF2.out.chg X3.out WHF2.out (by omega))
    have KW : Hid (Blk v3 (w2.heap.size) 30 [.int .i64 u.count, .int .i64 u.next, .int .i64 u.round, .slice A2 u.owns.length c2]) := Lib.hid (by rw [hv3]; repeat' (first | with_reducible exact Blk.new_at _ _ _ (by simp) | with_reducible refine Blk.alloc ?_ _ | with_reducible refine Blk.drew ?_ | with_reducible refine Blk.far ?_ (by simp; omega) _))
    have lW : w2.heap.size < v3.heap.size := KW.out.lt
    clear hv3
    refine (tagsSameI_c u u _ _ _ _ _ HF1.out.rd HF2.out.rd hfew hfew).mono ?_; rintro r w3 ⟨rfl, hb3⟩
    have Y3 : Hid (Chg 0 0 v3 w3) := Lib.hid (Chg.of_ex hb3)
    have s3 : v3.heap.size ≤ w3.heap.size := Y3.out.size
    have Ew3 : Hid (Ex w w3) := Lib.hid (Ev3.out.chg Y3.out (by omega))
    clear hb3
    replace KX : Hid (Blk w3 (w0.heap.size) 30 [.int .i64 t.count, .int .i64 t.next, .int .i64 t.round, .slice A0 t.owns.length c0]) := Lib.hid (KX.out.chg Y3.out (by omega))
    replace KD : Hid (Blk w3 (w1.heap.size) 30 [.int .i64 u.count, .int .i64 u.next, .int .i64 u.round, .slice A1 u.owns.length c1]) := Lib.hid (KD.out.chg Y3.out (by omega))
    replace KW : Hid (Blk w3 (w2.heap.size) 30 [.int .i64 u.count, .int .i64 u.next, .int .i64 u.round, .slice A2 u.owns.length c2]) := Lib.hid (KW.out.chg Y3.out (by omega))
    replace HF0 := Lib.hid (HF0.out.chg Y3.out WHF0.out (by omega))
    replace HFZ := Lib.hid (HFZ.out.chg Y3.out WHFZ.out (by omega))
    replace HF1 := Lib.hid (HF1.out.chg Y3.out WHF1.out (by omega))
    replace HF2 := Lib.hid (HF2.out.chg Y3.out WHF2.out (by omega))
    obtain ⟨qX0, qX1, qX2, qX3⟩ := KX.out.c4
    have jX := KX.out.lt
    obtain ⟨qD0, qD1, qD2, qD3⟩ := KD.out.c4
    have jD := KD.out.lt
    obtain ⟨qW0, qW1, qW2, qW3⟩ := KW.out.c4
    have jW := KW.out.lt
    rw [eqB_self]
    go_wp2_with fail
    refine name_calls ?_; intro v4 hv4
    have X4 : Hid (Chg (0) (0) w3 v4) := Lib.hid (by rw [hv4]; repeat' (first | with_reducible exact Chg.refl _ _ _ | with_reducible refine Chg.alloc ?_ _ | with_reducible refine Chg.drew ?_ | with_reducible refine Chg.set ?_ (by omega) _))
    have t4 : w3.heap.size ≤ v4.heap.size := X4.out.size
    have Ev4 : Hid (Ex w v4) := Lib.hid (Ew3.out.chg X4.out (by omega))
    clear qX0 qX1 qX2 qX3 jX
    clear qD0 qD1 qD2 qD3 jD
    clear qW0 qW1 qW2 qW3 jW
    replace KX : Hid (Blk v4 (w0.heap.size) 30 [.int .i64 t.count, .int .i64 t.next, .int .i64 t.round, .slice A0 t.owns.length c0]) := Lib.hid (KX.out.chg X4.out (by omega))
    replace KD : Hid (Blk v4 (w1.heap.size) 30 [.int .i64 u.count, .int .i64 u.next, .int .i64 u.round, .slice A1 u.owns.length c1]) := Lib.hid (KD.out.chg X4.out (by omega))
    replace KW : Hid (Blk v4 (w2.heap.size) 30 [.int .i64 u.count, .int .i64 u.next, .int .i64 u.round, .slice A2 u.owns.length c2]) := Lib.hid (KW.out.chg X4.out (by omega))
    replace HF0 := Lib.hid (HF0.out.chg X4.out WHF0.out (by omega))
    replace HFZ := Lib.hid (HFZ.out.chg X4.out WHFZ.out (by omega))
    replace HF1 := Lib.hid (HF1.out.chg X4.out WHF1.out (by omega))
    replace HF2 := Lib.hid (HF2.out.chg X4.out WHF2.out (by omega))
    clear hv4
    refine (tagsSameI_c u u _ _ _ _ _ HF1.out.rd HF2.out.rd hfew hfew).mono ?_; rintro r w4 ⟨rfl, hb4⟩
    have Y4 : Hid (Chg 0 0 v4 w4) := Lib.hid (Chg.of_ex hb4)
    have s4 : v4.heap.size ≤ w4.heap.size := Y4.out.size
    have Ew4 : Hid (Ex w w4) := Lib.hid (Ev4.out.chg Y4.out (by omega))
    clear hb4
    replace KX : Hid (Blk w4 (w0.heap.size) 30 [.int .i64 t.count, .int .i64 t.next, .int .i64 t.round, .slice A0 t.owns.length c0]) := Lib.hid (KX.out.chg Y4.out (by omega))
    replace KD : Hid (Blk w4 (w1.heap.size) 30 [.int .i64 u.count, .int .i64 u.next, .int .i64 u.round, .slice A1 u.owns.length c1]) := Lib.hid (KD.out.chg Y4.out (by omega))
    replace KW : Hid (Blk w4 (w2.heap.size) 30 [.int .i64 u.count, .int .i64 u.next, .int .i64 u.round, .slice A2 u.owns.length c2]) := Lib.hid (KW.out.chg Y4.out (by omega))
    replace HF0 := Lib.hid (HF0.out.chg Y4.out WHF0.out (by omega))
    replace HFZ := Lib.hid (HFZ.out.chg Y4.out WHFZ.out (by omega))
    replace HF1 := Lib.hid (HF1.out.chg Y4.out WHF1.out (by omega))
    replace HF2 := Lib.hid (HF2.out.chg Y4.out WHF2.out (by omega))
    obtain ⟨qX0, qX1, qX2, qX3⟩ := KX.out.c4
    have jX := KX.out.lt
    obtain ⟨qD0, qD1, qD2, qD3⟩ := KD.out.c4
    have jD := KD.out.lt
    obtain ⟨qW0, qW1, qW2, qW3⟩ := KW.out.c4
    have jW := KW.out.lt
    rw [eqB_self]
    go_wp2
    go_ret
    exact ⟨rfl, (by repeat' (first | with_reducible exact Ew4.out | with_reducible refine Ex.alloc ?_ _ | with_reducible refine Ex.drew ?_ | with_reducible refine Ex.put ?_ (by omega) _))⟩
  by_cases hz0 : zs.length = 0
  · have hzb : ((zs.length : Int) == 0) = true := by simp [hz0]
    clear hz0
    go_wp2_with fail
    refine name_calls ?_; intro v1 hv1
    have X1 : Hid (Chg (0) (0) w0 v1) := Lib.hid (by rw [hv1]; repeat' (first | with_reducible exact Chg.refl _ _ _ | with_reducible refine Chg.alloc ?_ _ | with_reducible refine Chg.drew ?_ | with_reducible refine Chg.set ?_ (by omega) _))
    have t1 : w0.heap.size ≤ v1.heap.size := X1.out.size
    have Ev1 : Hid (Ex w v1) := Lib.hid (Ew0.out.chg X1.out (by omega))
    replace HF0 := Lib.hid (HF0.out.chg X1.out WHF0.out (by omega))
    replace HFZ := Lib.hid (HFZ.out.chg X1.out WHFZ.out (by omega))
    have KX : Hid (Blk v1 (w0.heap.size) 30 [.int .i64 t.count, .int .i64 t.next, .int .i64 t.round, .slice A0 t.owns.length c0]) := Lib.hid (by rw [hv1]; repeat' (first | with_reducible exact Blk.new_at _ _ _ (by simp) | with_reducible refine Blk.alloc ?_ _ | with_reducible refine Blk.drew ?_ | with_reducible refine Blk.far ?_ (by simp; omega) _))
    have lX : w0.heap.size < v1.heap.size := KX.out.lt
    clear hv1
    refine (C1.out A0 Z0 c0 d0 _ HF0.out.rd HFZ.out.rd hn HF0.out.le HF0.out.cap hzn).mono ?_; rintro r w1 ⟨A1, c1, rfl, hf1, hb1⟩
    have Y1 : Hid (Chg 0 0 v1 w1) := Lib.hid (Chg.of_ex hb1)
    have s1 : v1.heap.size ≤ w1.heap.size := Y1.out.size
    have Ew1 : Hid (Ex w w1) := Lib.hid (Ev1.out.chg Y1.out (by omega))
    clear hb1
    replace KX : Hid (Blk w1 (w0.heap.size) 30 [.int .i64 t.count, .int .i64 t.next, .int .i64 t.round, .slice A0 t.owns.length c0]) := Lib.hid (KX.out.chg Y1.out (by omega))
    replace HF0 := Lib.hid (HF0.out.chg Y1.out WHF0.out (by omega))
    replace HFZ := Lib.hid (HFZ.out.chg Y1.out WHFZ.out (by omega))
    have HF1 := Lib.hid hf1; clear hf1
    have WHF1 := Lib.hid HF1.out.row
    obtain ⟨qX0, qX1, qX2, qX3⟩ := KX.out.c4
    have jX := KX.out.lt
    go_wp2_with fail
    refine name_calls ?_; intro v2 hv2
    have X2 : Hid (Chg (0) (0) w1 v2) := Lib.hid (by rw [hv2]; repeat' (first | with_reducible exact Chg.refl _ _ _ | with_reducible refine Chg.alloc ?_ _ | with_reducible refine Chg.drew ?_ | with_reducible refine Chg.set ?_ (by omega) _))
    have t2 : w1.heap.size ≤ v2.heap.size := X2.out.size
    have Ev2 : Hid (Ex w v2) := Lib.hid (Ew1.out.chg X2.out (by omega))
    clear qX0 qX1 qX2 qX3 jX
    replace KX : Hid (Blk v2 (w0.heap.size) 30 [.int .i64 t.count, .int .i64 t.next, .int .i64 t.round, .slice A0 t.owns.length c0]) := Lib.hid (KX.out.chg X2.out (by omega))
    replace HF0 := Lib.hid (HF0.out.chg X2.out WHF0.out (by omega))
    replace HFZ := Lib.hid (HFZ.out.chg X2.out WHFZ.out (by omega))
    replace HF1 := Lib.hid (HF1.out.chg X2.out WHF1.out (by omega))
    have KD : Hid (Blk v2 (w1.heap.size) 30 [.int .i64 u.count, .int .i64 u.next, .int .i64 u.round, .slice A1 u.owns.length c1]) := Lib.hid (by rw [hv2]; repeat' (first | with_reducible exact Blk.new_at _ _ _ (by simp) | with_reducible refine Blk.alloc ?_ _ | with_reducible refine Blk.drew ?_ | with_reducible refine Blk.far ?_ (by simp; omega) _))
    have lD : w1.heap.size < v2.heap.size := KD.out.lt
    clear hv2
    refine (C2.out A0 Z0 c0 d0 _ HF0.out.rd HFZ.out.rd hn HF0.out.le HF0.out.cap hzn).mono ?_; rintro r w2 ⟨A2, c2, rfl, hf2, hb2⟩
    have Y2 : Hid (Chg 0 0 v2 w2) := Lib.hid (Chg.of_ex hb2)
    have s2 : v2.heap.size ≤ w2.heap.size := Y2.out.size
    have Ew2 : Hid (Ex w w2) := Lib.hid (Ev2.out.chg Y2.out (by omega))
    clear hb2
    replace KX : Hid (Blk w2 (w0.heap.size) 30 [.int .i64 t.count, .int .i64 t.next, .int .i64 t.round, .slice A0 t.owns.length c0]) := Lib.hid (KX.out.chg Y2.out (by omega))
    replace KD : Hid (Blk w2 (w1.heap.size) 30 [.int .i64 u.count, .int .i64 u.next, .int .i64 u.round, .slice A1 u.owns.length c1]) := Lib.hid (KD.out.chg Y2.out (by omega))
    replace HF0 := Lib.hid (HF0.out.chg Y2.out WHF0.out (by omega))
    replace HFZ := Lib.hid (HFZ.out.chg Y2.out WHFZ.out (by omega))
    replace HF1 := Lib.hid (HF1.out.chg Y2.out WHF1.out (by omega))
    have HF2 := Lib.hid hf2; clear hf2
    have WHF2 := Lib.hid HF2.out.row
    obtain ⟨qX0, qX1, qX2, qX3⟩ := KX.out.c4
    have jX := KX.out.lt
    obtain ⟨qD0, qD1, qD2, qD3⟩ := KD.out.c4
    have jD := KD.out.lt
    go_wp2_with fail
    refine name_calls ?_; intro v3 hv3
    have X3 : Hid (Chg (0) (0) w2 v3) := Lib.hid (by rw [hv3]; repeat' (first | with_reducible exact Chg.refl _ _ _ | with_reducible refine Chg.alloc ?_ _ | with_reducible refine Chg.drew ?_ | with_reducible refine Chg.set ?_ (by omega) _))
    have t3 : w2.heap.size ≤ v3.heap.size := X3.out.size
    have Ev3 : Hid (Ex w v3) := Lib.hid (Ew2.out.chg X3.out (by omega))
    clear qX0 qX1 qX2 qX3 jX
    clear qD0 qD1 qD2 qD3 jD
    replace KX : Hid (Blk v3 (w0.heap.size) 30 [.int .i64 t.count, .int .i64 t.next, .int .i64 t.round, .slice A0 t.owns.length c0]) := Lib.hid (KX.out.chg X3.out (by omega))
    replace KD : Hid (Blk v3 (w1.heap.size) 30 [.int .i64 u.count, .int .i64 u.next, .int .i64 u.round, .slice A1 u.owns.length c1]) := Lib.hid (KD.out.chg X3.out (by omega))
    replace HF0 := Lib.hid (HF0.out.chg X3.out WHF0.out (by omega))
    replace HFZ := Lib.hid (HFZ.out.chg X3.out WHFZ.out (by omega))
    replace HF1 := Lib.hid (HF1.out.chg X3.out WHF1.out (by omega))
    replace HF2 := Lib.hid (HF2.out.chg X3.out WHF2.out (by omega))
    have KW : Hid (Blk v3 (w2.heap.size) 30 [.int .i64 u.count, .int .i64 u.next, .int .i64 u.round, .slice A2 u.owns.length c2]) := Lib.hid (by rw [hv3]; repeat' (first | with_reducible exact Blk.new_at _ _ _ (by simp) | with_reducible refine Blk.alloc ?_ _ | with_reducible refine Blk.drew ?_ | with_reducible refine Blk.far ?_ (by simp; omega) _))
    have lW : w2.heap.size < v3.heap.size := KW.out.lt
    clear hv3
    refine (tagsSameI_c u u _ _ _ _ _ HF1.out.rd HF2.out.rd hfew hfew).mono ?_; rintro r w3 ⟨rfl, hb3⟩
    have Y3 : Hid (Chg 0 0 v3 w3) := Lib.hid (Chg.of_ex hb3)
    have s3 : v3.heap.size ≤ w3.heap.size := Y3.out.size
    have Ew3 : Hid (Ex w w3) := Lib.hid (Ev3.out.chg Y3.out (by omega))
    clear hb3
    replace KX : Hid (Blk w3 (w0.heap.size) 30 [.int .i64 t.count, .int .i64 t.next, .int .i64 t.round, .slice A0 t.owns.length c0]) := Lib.hid (KX.out.chg Y3.out (by omega))
    replace KD : Hid (Blk w3 (w1.heap.size) 30 [.int .i64 u.count, .int .i64 u.next, .int .i64 u.round, .slice A1 u.owns.length c1]) := Lib.hid (KD.out.chg Y3.out (by omega))
    replace KW : Hid (Blk w3 (w2.heap.size) 30 [.int .i64 u.count, .int .i64 u.next, .int .i64 u.round, .slice A2 u.owns.length c2]) := Lib.hid (KW.out.chg Y3.out (by omega))
    replace HF0 := Lib.hid (HF0.out.chg Y3.out WHF0.out (by omega))
    replace HFZ := Lib.hid (HFZ.out.chg Y3.out WHFZ.out (by omega))
    replace HF1 := Lib.hid (HF1.out.chg Y3.out WHF1.out (by omega))
    replace HF2 := Lib.hid (HF2.out.chg Y3.out WHF2.out (by omega))
    obtain ⟨qX0, qX1, qX2, qX3⟩ := KX.out.c4
    have jX := KX.out.lt
    obtain ⟨qD0, qD1, qD2, qD3⟩ := KD.out.c4
    have jD := KD.out.lt
    obtain ⟨qW0, qW1, qW2, qW3⟩ := KW.out.c4
    have jW := KW.out.lt
    rw [eqB_self]
    go_wp2_with fail
    refine name_calls ?_; intro v4 hv4
    have X4 : Hid (Chg (0) (0) w3 v4) := Lib.hid (by rw [hv4]; repeat' (first | with_reducible exact Chg.refl _ _ _ | with_reducible refine Chg.alloc ?_ _ | with_reducible refine Chg.drew ?_ | with_reducible refine Chg.set ?_ (by omega) _))
    have t4 : w3.heap.size ≤ v4.heap.size := X4.out.size
    have Ev4 : Hid (Ex w v4) := Lib.hid (Ew3.out.chg X4.out (by omega))
    clear qX0 qX1 qX2 qX3 jX
    clear qD0 qD1 qD2 qD3 jD
    clear qW0 qW1 qW2 qW3 jW
    replace KX : Hid (Blk v4 (w0.heap.size) 30 [.int .i64 t.count, .int .i64 t.next, .int .i64 t.round, .slice A0 t.owns.length c0]) := Lib.hid (KX.out.chg X4.out (by omega))
    replace KD : Hid (Blk v4 (w1.heap.size) 30 [.int .i64 u.count, .int .i64 u.next, .int .i64 u.round, .slice A1 u.owns.length c1]) := Lib.hid (KD.out.chg X4.out (by omega))
    replace KW : Hid (Blk v4 (w2.heap.size) 30 [.int .i64 u.count, .int .i64 u.next, .int .i64 u.round, .slice A2 u.owns.length c2]) := Lib.hid (KW.out.chg X4.out (by omega))
    replace HF0 := Lib.hid (HF0.out.chg X4.out WHF0.out (by omega))
    replace HFZ := Lib.hid (HFZ.out.chg X4.out WHFZ.out (by omega))
    replace HF1 := Lib.hid (HF1.out.chg X4.out WHF1.out (by omega))
    replace HF2 := Lib.hid (HF2.out.chg X4.out WHF2.out (by omega))
    clear hv4
    refine (tagsSameI_c u u _ _ _ _ _ HF1.out.rd HF2.out.rd hfew hfew).mono ?_; rintro r w4 ⟨rfl, hb4⟩
    have Y4 : Hid (Chg 0 0 v4 w4) := Lib.hid (Chg.of_ex hb4)
    have s4 : v4.heap.size ≤ w4.heap.size := Y4.out.size
    have Ew4 : Hid (Ex w w4) := Lib.hid (Ev4.out.chg Y4.out (by omega))
    clear hb4
    replace KX : Hid (Blk w4 (w0.heap.size) 30 [.int .i64 t.count, .int .i64 t.next, .int .i64 t.round, .slice A0 t.owns.length c0]) := Lib.hid (KX.out.chg Y4.out (by omega))
    replace KD : Hid (Blk w4 (w1.heap.size) 30 [.int .i64 u.count, .int .i64 u.next, .int .i64 u.round, .slice A1 u.owns.length c1]) := Lib.hid (KD.out.chg Y4.out (by omega))
    replace KW : Hid (Blk w4 (w2.heap.size) 30 [.int .i64 u.count, .int .i64 u.next, .int .i64 u.round, .slice A2 u.owns.length c2]) := Lib.hid (KW.out.chg Y4.out (by omega))
    replace HF0 := Lib.hid (HF0.out.chg Y4.out WHF0.out (by omega))
    replace HFZ := Lib.hid (HFZ.out.chg Y4.out WHFZ.out (by omega))
    replace HF1 := Lib.hid (HF1.out.chg Y4.out WHF1.out (by omega))
    replace HF2 := Lib.hid (HF2.out.chg Y4.out WHF2.out (by omega))
    obtain ⟨qX0, qX1, qX2, qX3⟩ := KX.out.c4
    have jX := KX.out.lt
    obtain ⟨qD0, qD1, qD2, qD3⟩ := KD.out.c4
    have jD := KD.out.lt
    obtain ⟨qW0, qW1, qW2, qW3⟩ := KW.out.c4
    have jW := KW.out.lt
    rw [eqB_self]
    go_wp2
    go_ret
    exact ⟨rfl, (by repeat' (first | with_reducible exact Ew4.out | with_reducible refine Ex.alloc ?_ _ | with_reducible refine Ex.drew ?_ | with_reducible refine Ex.put ?_ (by omega) _))⟩
  have hzb : ((zs.length : Int) == 0) = false := beq_eq_false_iff_ne.2 (by omega)
  obtain ⟨k, hk⟩ : ∃ k, zs.length = k + 1 := ⟨zs.length - 1, by omega⟩
  obtain ⟨z, hzk⟩ : ∃ z, zs[k]? = some z := ⟨_, List.getElem?_eq_getElem (by omega)⟩
  obtain ⟨gg, e4, e5, hrl⟩ := HLAW.out u rr rfl z (by rw [hk]; exact hzk)
  have C4 := Lib.hid (tagOfI_c u z)
  have C5 := Lib.hid (spaceOfI_c u gg)
  rw [e4] at C4
  rw [e5] at C5
  dsimp only at C4 C5
  have hkl : (k : Int) < (zs.length : Int) := by omega
  have hk0 : (0 : Int) ≤ (k : Int) := by omega
  have hsub : IntKind.i64.wrap ((zs.length : Int) - 1) = (k : Int) := by rw [show (zs.length : Int) - 1 = (k : Int) from by omega]; exact IntWalk.i64_in _ (by omega)
  have hzz : (z == z) = true := by simp
  have hrl' : rr ≤ (zs.length : Int) := hrl
  have HZK := Lib.hid hzk
  have HK := Lib.hid hk
  clear e4 e5 HLAW hrl hzk hk hz0
  go_wp2_with fail
  refine name_calls ?_; intro v1 hv1
  have X1 : Hid (Chg (0) (0) w0 v1) := Lib.hid (by rw [hv1]; repeat' (first | with_reducible exact Chg.refl _ _ _ | with_reducible refine Chg.alloc ?_ _ | with_reducible refine Chg.drew ?_ | with_reducible refine Chg.set ?_ (by omega) _))
  have t1 : w0.heap.size ≤ v1.heap.size := X1.out.size
  have Ev1 : Hid (Ex w v1) := Lib.hid (Ew0.out.chg X1.out (by omega))
  replace HF0 := Lib.hid (HF0.out.chg X1.out WHF0.out (by omega))
  replace HFZ := Lib.hid (HFZ.out.chg X1.out WHFZ.out (by omega))
  have KX : Hid (Blk v1 (w0.heap.size) 30 [.int .i64 t.count, .int .i64 t.next, .int .i64 t.round, .slice A0 t.owns.length c0]) := Lib.hid (by rw [hv1]; repeat' (first | with_reducible exact Blk.new_at _ _ _ (by simp) | with_reducible refine Blk.alloc ?_ _ | with_reducible refine Blk.drew ?_ | with_reducible refine Blk.far ?_ (by simp; omega) _))
  have lX : w0.heap.size < v1.heap.size := KX.out.lt
  clear hv1
  refine (C1.out A0 Z0 c0 d0 _ HF0.out.rd HFZ.out.rd hn HF0.out.le HF0.out.cap hzn).mono ?_; rintro r w1 ⟨A1, c1, rfl, hf1, hb1⟩
  have Y1 : Hid (Chg 0 0 v1 w1) := Lib.hid (Chg.of_ex hb1)
  have s1 : v1.heap.size ≤ w1.heap.size := Y1.out.size
  have Ew1 : Hid (Ex w w1) := Lib.hid (Ev1.out.chg Y1.out (by omega))
  clear hb1
  replace KX : Hid (Blk w1 (w0.heap.size) 30 [.int .i64 t.count, .int .i64 t.next, .int .i64 t.round, .slice A0 t.owns.length c0]) := Lib.hid (KX.out.chg Y1.out (by omega))
  replace HF0 := Lib.hid (HF0.out.chg Y1.out WHF0.out (by omega))
  replace HFZ := Lib.hid (HFZ.out.chg Y1.out WHFZ.out (by omega))
  have HF1 := Lib.hid hf1; clear hf1
  have WHF1 := Lib.hid HF1.out.row
  obtain ⟨qX0, qX1, qX2, qX3⟩ := KX.out.c4
  have jX := KX.out.lt
  go_wp2_with fail
  refine name_calls ?_; intro v2 hv2
  have X2 : Hid (Chg (0) (0) w1 v2) := Lib.hid (by rw [hv2]; repeat' (first | with_reducible exact Chg.refl _ _ _ | with_reducible refine Chg.alloc ?_ _ | with_reducible refine Chg.drew ?_ | with_reducible refine Chg.set ?_ (by omega) _))
  have t2 : w1.heap.size ≤ v2.heap.size := X2.out.size
  have Ev2 : Hid (Ex w v2) := Lib.hid (Ew1.out.chg X2.out (by omega))
  clear qX0 qX1 qX2 qX3 jX
  replace KX : Hid (Blk v2 (w0.heap.size) 30 [.int .i64 t.count, .int .i64 t.next, .int .i64 t.round, .slice A0 t.owns.length c0]) := Lib.hid (KX.out.chg X2.out (by omega))
  replace HF0 := Lib.hid (HF0.out.chg X2.out WHF0.out (by omega))
  replace HFZ := Lib.hid (HFZ.out.chg X2.out WHFZ.out (by omega))
  replace HF1 := Lib.hid (HF1.out.chg X2.out WHF1.out (by omega))
  have KD : Hid (Blk v2 (w1.heap.size) 30 [.int .i64 u.count, .int .i64 u.next, .int .i64 u.round, .slice A1 u.owns.length c1]) := Lib.hid (by rw [hv2]; repeat' (first | with_reducible exact Blk.new_at _ _ _ (by simp) | with_reducible refine Blk.alloc ?_ _ | with_reducible refine Blk.drew ?_ | with_reducible refine Blk.far ?_ (by simp; omega) _))
  have lD : w1.heap.size < v2.heap.size := KD.out.lt
  clear hv2
  refine (C2.out A0 Z0 c0 d0 _ HF0.out.rd HFZ.out.rd hn HF0.out.le HF0.out.cap hzn).mono ?_; rintro r w2 ⟨A2, c2, rfl, hf2, hb2⟩
  have Y2 : Hid (Chg 0 0 v2 w2) := Lib.hid (Chg.of_ex hb2)
  have s2 : v2.heap.size ≤ w2.heap.size := Y2.out.size
  have Ew2 : Hid (Ex w w2) := Lib.hid (Ev2.out.chg Y2.out (by omega))
  clear hb2
  replace KX : Hid (Blk w2 (w0.heap.size) 30 [.int .i64 t.count, .int .i64 t.next, .int .i64 t.round, .slice A0 t.owns.length c0]) := Lib.hid (KX.out.chg Y2.out (by omega))
  replace KD : Hid (Blk w2 (w1.heap.size) 30 [.int .i64 u.count, .int .i64 u.next, .int .i64 u.round, .slice A1 u.owns.length c1]) := Lib.hid (KD.out.chg Y2.out (by omega))
  replace HF0 := Lib.hid (HF0.out.chg Y2.out WHF0.out (by omega))
  replace HFZ := Lib.hid (HFZ.out.chg Y2.out WHFZ.out (by omega))
  replace HF1 := Lib.hid (HF1.out.chg Y2.out WHF1.out (by omega))
  have HF2 := Lib.hid hf2; clear hf2
  have WHF2 := Lib.hid HF2.out.row
  obtain ⟨qX0, qX1, qX2, qX3⟩ := KX.out.c4
  have jX := KX.out.lt
  obtain ⟨qD0, qD1, qD2, qD3⟩ := KD.out.c4
  have jD := KD.out.lt
  go_wp2_with fail
  refine name_calls ?_; intro v3 hv3
  have X3 : Hid (Chg (0) (0) w2 v3) := Lib.hid (by rw [hv3]; repeat' (first | with_reducible exact Chg.refl _ _ _ | with_reducible refine Chg.alloc ?_ _ | with_reducible refine Chg.drew ?_ | with_reducible refine Chg.set ?_ (by omega) _))
  have t3 : w2.heap.size ≤ v3.heap.size := X3.out.size
  have Ev3 : Hid (Ex w v3) := Lib.hid (Ew2.out.chg X3.out (by omega))
  clear qX0 qX1 qX2 qX3 jX
  clear qD0 qD1 qD2 qD3 jD
  replace KX : Hid (Blk v3 (w0.heap.size) 30 [.int .i64 t.count, .int .i64 t.next, .int .i64 t.round, .slice A0 t.owns.length c0]) := Lib.hid (KX.out.chg X3.out (by omega))
  replace KD : Hid (Blk v3 (w1.heap.size) 30 [.int .i64 u.count, .int .i64 u.next, .int .i64 u.round, .slice A1 u.owns.length c1]) := Lib.hid (KD.out.chg X3.out (by omega))
  replace HF0 := Lib.hid (HF0.out.chg X3.out WHF0.out (by omega))
  replace HFZ := Lib.hid (HFZ.out.chg X3.out WHFZ.out (by omega))
  replace HF1 := Lib.hid (HF1.out.chg X3.out WHF1.out (by omega))
  replace HF2 := Lib.hid (HF2.out.chg X3.out WHF2.out (by omega))
  have KW : Hid (Blk v3 (w2.heap.size) 30 [.int .i64 u.count, .int .i64 u.next, .int .i64 u.round, .slice A2 u.owns.length c2]) := Lib.hid (by rw [hv3]; repeat' (first | with_reducible exact Blk.new_at _ _ _ (by simp) | with_reducible refine Blk.alloc ?_ _ | with_reducible refine Blk.drew ?_ | with_reducible refine Blk.far ?_ (by simp; omega) _))
  have lW : w2.heap.size < v3.heap.size := KW.out.lt
  clear hv3
  refine (tagsSameI_c u u _ _ _ _ _ HF1.out.rd HF2.out.rd hfew hfew).mono ?_; rintro r w3 ⟨rfl, hb3⟩
  have Y3 : Hid (Chg 0 0 v3 w3) := Lib.hid (Chg.of_ex hb3)
  have s3 : v3.heap.size ≤ w3.heap.size := Y3.out.size
  have Ew3 : Hid (Ex w w3) := Lib.hid (Ev3.out.chg Y3.out (by omega))
  clear hb3
  replace KX : Hid (Blk w3 (w0.heap.size) 30 [.int .i64 t.count, .int .i64 t.next, .int .i64 t.round, .slice A0 t.owns.length c0]) := Lib.hid (KX.out.chg Y3.out (by omega))
  replace KD : Hid (Blk w3 (w1.heap.size) 30 [.int .i64 u.count, .int .i64 u.next, .int .i64 u.round, .slice A1 u.owns.length c1]) := Lib.hid (KD.out.chg Y3.out (by omega))
  replace KW : Hid (Blk w3 (w2.heap.size) 30 [.int .i64 u.count, .int .i64 u.next, .int .i64 u.round, .slice A2 u.owns.length c2]) := Lib.hid (KW.out.chg Y3.out (by omega))
  replace HF0 := Lib.hid (HF0.out.chg Y3.out WHF0.out (by omega))
  replace HFZ := Lib.hid (HFZ.out.chg Y3.out WHFZ.out (by omega))
  replace HF1 := Lib.hid (HF1.out.chg Y3.out WHF1.out (by omega))
  replace HF2 := Lib.hid (HF2.out.chg Y3.out WHF2.out (by omega))
  obtain ⟨qX0, qX1, qX2, qX3⟩ := KX.out.c4
  have jX := KX.out.lt
  obtain ⟨qD0, qD1, qD2, qD3⟩ := KD.out.c4
  have jD := KD.out.lt
  obtain ⟨qW0, qW1, qW2, qW3⟩ := KW.out.c4
  have jW := KW.out.lt
  rw [eqB_self]
  clear qW0 qW1 qW2 qW3 jW
  clear KW
  clear HF2 WHF2
  obtain ⟨zb, zo, z', hZ, hzb2, hzk', hz2⟩ := Rd.int HFZ.out.rd (k := k) (by have := HK.out; omega)
  obtain rfl : z = z' := by have := HZK.out; rw [hzk'] at this; injection this with this; exact this.symm
  subst hZ
  clear hzk'
  have FK : Hid (∀ w', Ex w3 w' → (w'.cell? ⟨w1.heap.size, 0, none⟩ = some (.int .i64 u.count) ∧ w'.cell? ⟨w1.heap.size, 1, none⟩ = some (.int .i64 u.next) ∧ w'.cell? ⟨w1.heap.size, 2, none⟩ = some (.int .i64 u.round) ∧ w'.cell? ⟨w1.heap.size, 3, none⟩ = some (.slice A1 u.owns.length c1) ∧ w'.cell? ⟨zb, zo + k, none⟩ = some (.int .i64 z))) := Lib.hid (fun w' h => by
    obtain ⟨a0, a1, a2, a3⟩ := (KD.out.ex h).c4
    exact ⟨a0, a1, a2, a3, (h.cell hzb2).trans hz2⟩)
  have RD1 : Hid (∀ w', Ex w3 w' → Rd w' A1 u.owns) := Lib.hid (fun w' h => HF1.out.rd.ex h)
  have hle1 := HF1.out.le
  have HZB := Lib.hid hzb2
  have HZC := Lib.hid hz2
  clear hz2
  go_wp2_with fail
  go_region_held3 (fun w' => (w'.cell? ⟨w1.heap.size, 0, none⟩ = some (.int .i64 u.count) ∧ w'.cell? ⟨w1.heap.size, 1, none⟩ = some (.int .i64 u.next) ∧ w'.cell? ⟨w1.heap.size, 2, none⟩ = some (.int .i64 u.round) ∧ w'.cell? ⟨w1.heap.size, 3, none⟩ = some (.slice A1 u.owns.length c1) ∧ w'.cell? ⟨zb, zo + k, none⟩ = some (.int .i64 z))) ((refine FK.out _ ?_; with_reducible (first | exact Ex.refl _ | exact (Ex.refl _).drew | exact (Ex.refl _).drew.trans hba))) (first | (go_at_call 35; (with_reducible refine (C4.out A1 c1 _ ?_ hfew hle1).mono ?_); (with_reducible exact RD1.out _ (Ex.refl _).drew); rintro r wa ⟨rfl, hba⟩))
  rename_i hHeld
  clear hHeld
  have Y4 : Hid (Chg 0 0 w3 wa) := Lib.hid (Chg.of_ex ((Ex.refl _).drew.trans hba))
  have HZ4 : Hid (wa.cell? ⟨zb, zo + k, none⟩ = some (.int .i64 z)) := Lib.hid ((((Ex.refl w3).drew.trans hba).cell HZB.out).trans HZC.out)
  clear hba FK RD1
  have s4 : w3.heap.size ≤ wa.heap.size := Y4.out.size
  have Ewa : Hid (Ex w wa) := Lib.hid (Ew3.out.chg Y4.out (by omega))
  clear qX0 qX1 qX2 qX3 jX
  clear qD0 qD1 qD2 qD3 jD
  replace KX : Hid (Blk wa (w0.heap.size) 30 [.int .i64 t.count, .int .i64 t.next, .int .i64 t.round, .slice A0 t.owns.length c0]) := Lib.hid (KX.out.chg Y4.out (by omega))
  replace KD : Hid (Blk wa (w1.heap.size) 30 [.int .i64 u.count, .int .i64 u.next, .int .i64 u.round, .slice A1 u.owns.length c1]) := Lib.hid (KD.out.chg Y4.out (by omega))
  replace HF0 := Lib.hid (HF0.out.chg Y4.out WHF0.out (by omega))
  replace HFZ := Lib.hid (HFZ.out.chg Y4.out WHFZ.out (by omega))
  replace HF1 := Lib.hid (HF1.out.chg Y4.out WHF1.out (by omega))
  obtain ⟨qX0, qX1, qX2, qX3⟩ := KX.out.c4
  have jX := KX.out.lt
  obtain ⟨qD0, qD1, qD2, qD3⟩ := KD.out.c4
  have jD := KD.out.lt
  go_wp2_with fail
  refine name_calls ?_; intro v5 hv5
  have X5 : Hid (Chg (0) (0) wa v5) := Lib.hid (by rw [hv5]; repeat' (first | with_reducible exact Chg.refl _ _ _ | with_reducible refine Chg.alloc ?_ _ | with_reducible refine Chg.drew ?_ | with_reducible refine Chg.set ?_ (by omega) _))
  have t5 : wa.heap.size ≤ v5.heap.size := X5.out.size
  have Ev5 : Hid (Ex w v5) := Lib.hid (Ewa.out.chg X5.out (by omega))
  clear qX0 qX1 qX2 qX3 jX
  clear qD0 qD1 qD2 qD3 jD
  replace KX : Hid (Blk v5 (w0.heap.size) 30 [.int .i64 t.count, .int .i64 t.next, .int .i64 t.round, .slice A0 t.owns.length c0]) := Lib.hid (KX.out.chg X5.out (by omega))
  replace KD : Hid (Blk v5 (w1.heap.size) 30 [.int .i64 u.count, .int .i64 u.next, .int .i64 u.round, .slice A1 u.owns.length c1]) := Lib.hid (KD.out.chg X5.out (by omega))
  replace HF0 := Lib.hid (HF0.out.chg X5.out WHF0.out (by omega))
  replace HFZ := Lib.hid (HFZ.out.chg X5.out WHFZ.out (by omega))
  replace HF1 := Lib.hid (HF1.out.chg X5.out WHF1.out (by omega))
  clear hv5
  refine (C5.out A1 c1 _ HF1.out.rd hfew HF1.out.le).mono ?_; rintro r w5 ⟨rfl, hb5⟩
  have Y5 : Hid (Chg 0 0 v5 w5) := Lib.hid (Chg.of_ex hb5)
  have s5 : v5.heap.size ≤ w5.heap.size := Y5.out.size
  have Ew5 : Hid (Ex w w5) := Lib.hid (Ev5.out.chg Y5.out (by omega))
  clear hb5
  replace KX : Hid (Blk w5 (w0.heap.size) 30 [.int .i64 t.count, .int .i64 t.next, .int .i64 t.round, .slice A0 t.owns.length c0]) := Lib.hid (KX.out.chg Y5.out (by omega))
  replace KD : Hid (Blk w5 (w1.heap.size) 30 [.int .i64 u.count, .int .i64 u.next, .int .i64 u.round, .slice A1 u.owns.length c1]) := Lib.hid (KD.out.chg Y5.out (by omega))
  replace HF0 := Lib.hid (HF0.out.chg Y5.out WHF0.out (by omega))
  replace HFZ := Lib.hid (HFZ.out.chg Y5.out WHFZ.out (by omega))
  replace HF1 := Lib.hid (HF1.out.chg Y5.out WHF1.out (by omega))
  obtain ⟨qX0, qX1, qX2, qX3⟩ := KX.out.c4
  have jX := KX.out.lt
  obtain ⟨qD0, qD1, qD2, qD3⟩ := KD.out.c4
  have jD := KD.out.lt
  have hz5 : w5.cell? ⟨zb, zo + k, none⟩ = some (.int .i64 z) := ((X5.out.ex_.trans Y5.out.ex_).cell (by have := HZB.out; have := Y4.out.size; omega)).trans HZ4.out
  go_wp2
  go_ret
  exact ⟨rfl, (by repeat' (first | with_reducible exact Ew5.out | with_reducible refine Ex.alloc ?_ _ | with_reducible refine Ex.drew ?_ | with_reducible refine Ex.put ?_ (by omega) _))⟩
end Go.Proofs.Ytkiohppknlmfaaa
