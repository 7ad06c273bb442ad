/- Drawn caches: l4New, l4Draw. -/
import Derived.Test.YtidnefcnojedoaaRe

import Derived.Test.YtidnefcnojedoaaCl
import Derived.Deep.RegionHeld3
namespace Go.Proofs.Ytidnefcnojedoaa
open Go.ChangeShapes Go.WideShapes Go.ChangeAt Go.RowKit
open Rec (sz cs)
set_option linter.unusedVariables false
set_option maxRecDepth 100000

/-- The pages that are drawn lie apart from those from 50 on. -/
def Apart (x : LineD) : Prop := x.page < 50 ∨ 58 ≤ x.page
def NewLine (x : LineD) : Prop := x.valid = true ∧ x.wired = false ∧ Apart x
def SomeLine (g p : Nat) (w : World) (e : Ending) (w' : World) : Prop := ∃ x : LineD, e = .returned (.agg #[.bool x.valid, .int .i64 x.tag, .int .i64 x.page, .int .i64 x.frame, .int .i64 x.rights, .bool x.wired]) ∧ NewLine x ∧ Rdr w' g (p + 4) ∧ w.grownBy w' (some g)

set_option maxHeartbeats 2000000 in
theorem l4New_c (g p : Nat) (w : World) (h : Rdr w g p) (hp : p ≤ 900000) : Calls Try.prog 44 #[.pointer (some ⟨g, 0, none⟩)] w (SomeLine g p w) := by
  have lg := h.lt
  have HR0 := Lib.hid h
  clear h
  go_enter Try.func44, Try.ntmps44
  go_wp2_with fail
  refine name_calls ?_; intro v1 hv1
  have X1 : Hid (Chg (0) (0) w v1) := Lib.hid (by rw [hv1]; repeat' (first | with_reducible exact Chg.refl _ _ _ | with_reducible refine Chg.alloc ?_ _ | with_reducible refine Chg.drew ?_ | with_reducible refine Chg.set ?_ (by omega) _))
  have t1 : w.heap.size ≤ v1.heap.size := X1.out.size
  have Ev1 : Hid (Chg g (g + 1) w v1) := Lib.hid ((Chg.refl g (g + 1) w).step X1.out (by omega))
  replace HR0 := Lib.hid (HR0.out.chg X1.out (by omega))
  have L1 : Hid (Rd v1 (some ⟨w.heap.size + 1, 0, none⟩) ([0, 1, 2, 0, 1, -1] : List Int)) := Lib.hid (by rw [hv1]; repeat' (first | exact Rd.lits _ _ _ | exact Rd.lits_at _ _ _ (by simp) | with_reducible refine Rd.alloc ?_ _))
  have KR : Hid (Blk v1 (w.heap.size) 43 [.bool false, .int .i64 0, .int .i64 0, .int .i64 0, .int .i64 0, .bool false]) := Lib.hid (by rw [hv1]; repeat' (first | with_reducible exact Blk.new_at _ _ _ (by simp) | with_reducible refine Blk.alloc ?_ _ | with_reducible refine Blk.drew ?_ | with_reducible refine Blk.far ?_ (by simp; omega) _))
  have lR : w.heap.size < v1.heap.size := KR.out.lt
  clear hv1
  refine (num_c g p _ 0 _ [0, 1, 2, 0, 1, -1] _ HR0.out L1.out (by simp) (by simp) (by omega) (by omega)).mono ?_; rintro r w1 ⟨x1, rfl, hhx1, hrd1, hb1⟩
  have Y1 : Hid (Chg (g) (g + 1) v1 w1) := Lib.hid (Chg.of_grown hb1 (fun b hb => by injection hb with hb; omega))
  have s1 : v1.heap.size ≤ w1.heap.size := Y1.out.size
  have Ew1 : Hid (Chg g (g + 1) w w1) := Lib.hid (Ev1.out.step Y1.out (by omega))
  clear hb1
  replace KR : Hid (Blk w1 (w.heap.size) 43 [.bool false, .int .i64 0, .int .i64 0, .int .i64 0, .int .i64 0, .bool false]) := Lib.hid (KR.out.chg Y1.out (by omega))
  clear HR0
  have HRD1 := Lib.hid hrd1; clear hrd1
  have HHX1 := Lib.hid hhx1; clear hhx1
  obtain ⟨qR0, qR1, qR2, qR3, qR4, qR5⟩ := KR.out.c6
  have jR := KR.out.lt
  have zR := KR.out.frozen
  go_wp2_with fail
  refine name_calls ?_; intro v2 hv2
  have X2 : Hid (Chg (0) (0) w1 v2) := Lib.hid (by rw [hv2]; repeat' (first | with_reducible exact Chg.refl _ _ _ | with_reducible refine Chg.alloc ?_ _ | with_reducible refine Chg.drew ?_ | with_reducible refine Chg.set ?_ (by omega) _))
  have t2 : w1.heap.size ≤ v2.heap.size := X2.out.size
  have Ev2 : Hid (Chg g (g + 1) w v2) := Lib.hid (Ew1.out.step X2.out (by omega))
  clear qR0 qR1 qR2 qR3 qR4 qR5 jR zR
  replace KR : Hid (Blk v2 (w.heap.size) 43 [.bool false, .int .i64 0, .int .i64 0, .int .i64 0, .int .i64 0, .bool false]) := Lib.hid (KR.out.chg X2.out (by omega))
  replace HRD1 := Lib.hid (HRD1.out.chg X2.out (by omega))
  have L2 : Hid (Rd v2 (some ⟨w1.heap.size, 0, none⟩) ([1, 2, 3, 4, 5, 200, 201] : List Int)) := Lib.hid (by rw [hv2]; repeat' (first | exact Rd.lits _ _ _ | exact Rd.lits_at _ _ _ (by simp) | with_reducible refine Rd.alloc ?_ _))
  clear hv2
  refine (num_c g (p + 1) _ 0 _ [1, 2, 3, 4, 5, 200, 201] _ HRD1.out L2.out (by simp) (by simp) (by omega) (by omega)).mono ?_; rintro r w2 ⟨x2, rfl, hhx2, hrd2, hb2⟩
  have Y2 : Hid (Chg (g) (g + 1) v2 w2) := Lib.hid (Chg.of_grown hb2 (fun b hb => by injection hb with hb; omega))
  have s2 : v2.heap.size ≤ w2.heap.size := Y2.out.size
  have Ew2 : Hid (Chg g (g + 1) w w2) := Lib.hid (Ev2.out.step Y2.out (by omega))
  clear hb2
  replace KR : Hid (Blk w2 (w.heap.size) 43 [.bool false, .int .i64 0, .int .i64 0, .int .i64 0, .int .i64 0, .bool false]) := Lib.hid (KR.out.chg Y2.out (by omega))
  clear HRD1
  have HRD2 := Lib.hid hrd2; clear hrd2
  have HHX2 := Lib.hid hhx2; clear hhx2
  obtain ⟨qR0, qR1, qR2, qR3, qR4, qR5⟩ := KR.out.c6
  have jR := KR.out.lt
  have zR := KR.out.frozen
  go_wp2_with fail
  refine name_calls ?_; intro v3 hv3
  have X3 : Hid (Chg (0) (0) w2 v3) := Lib.hid (by rw [hv3]; repeat' (first | with_reducible exact Chg.refl _ _ _ | with_reducible refine Chg.alloc ?_ _ | with_reducible refine Chg.drew ?_ | with_reducible refine Chg.set ?_ (by omega) _))
  have t3 : w2.heap.size ≤ v3.heap.size := X3.out.size
  have Ev3 : Hid (Chg g (g + 1) w v3) := Lib.hid (Ew2.out.step X3.out (by omega))
  clear qR0 qR1 qR2 qR3 qR4 qR5 jR zR
  replace KR : Hid (Blk v3 (w.heap.size) 43 [.bool false, .int .i64 0, .int .i64 0, .int .i64 0, .int .i64 0, .bool false]) := Lib.hid (KR.out.chg X3.out (by omega))
  replace HRD2 := Lib.hid (HRD2.out.chg X3.out (by omega))
  clear hv3
  refine (pick_c g (p + 2) 6 _ HRD2.out (by omega) (by omega)).mono ?_; rintro r w3 ⟨x3, rfl, hhx3, hrd3, hb3⟩
  have Y3 : Hid (Chg (g) (g + 1) v3 w3) := Lib.hid (Chg.of_grown hb3 (fun b hb => by injection hb with hb; omega))
  have s3 : v3.heap.size ≤ w3.heap.size := Y3.out.size
  have Ew3 : Hid (Chg g (g + 1) w w3) := Lib.hid (Ev3.out.step Y3.out (by omega))
  clear hb3
  replace KR : Hid (Blk w3 (w.heap.size) 43 [.bool false, .int .i64 0, .int .i64 0, .int .i64 0, .int .i64 0, .bool false]) := Lib.hid (KR.out.chg Y3.out (by omega))
  clear HRD2
  have HRD3 := Lib.hid hrd3; clear hrd3
  have HHX3 := Lib.hid hhx3; clear hhx3
  obtain ⟨qR0, qR1, qR2, qR3, qR4, qR5⟩ := KR.out.c6
  have jR := KR.out.lt
  have zR := KR.out.frozen
  go_wp2_with fail
  refine name_calls ?_; intro v4 hv4
  have X4 : Hid (Chg (0) (0) w3 v4) := Lib.hid (by rw [hv4]; repeat' (first | with_reducible exact Chg.refl _ _ _ | with_reducible refine Chg.alloc ?_ _ | with_reducible refine Chg.drew ?_ | with_reducible refine Chg.set ?_ (by omega) _))
  have t4 : w3.heap.size ≤ v4.heap.size := X4.out.size
  have Ev4 : Hid (Chg g (g + 1) w v4) := Lib.hid (Ew3.out.step X4.out (by omega))
  clear qR0 qR1 qR2 qR3 qR4 qR5 jR zR
  replace KR : Hid (Blk v4 (w.heap.size) 43 [.bool false, .int .i64 0, .int .i64 0, .int .i64 0, .int .i64 0, .bool false]) := Lib.hid (KR.out.chg X4.out (by omega))
  replace HRD3 := Lib.hid (HRD3.out.chg X4.out (by omega))
  have L4 : Hid (Rd v4 (some ⟨w3.heap.size, 0, none⟩) ([3, 1, 7, 5] : List Int)) := Lib.hid (by rw [hv4]; repeat' (first | exact Rd.lits _ _ _ | exact Rd.lits_at _ _ _ (by simp) | with_reducible refine Rd.alloc ?_ _))
  clear hv4
  refine (num_c g (p + 3) _ 0 _ [3, 1, 7, 5] _ HRD3.out L4.out (by simp) (by simp) (by omega) (by omega)).mono ?_; rintro r w4 ⟨x4, rfl, hhx4, hrd4, hb4⟩
  have Y4 : Hid (Chg (g) (g + 1) v4 w4) := Lib.hid (Chg.of_grown hb4 (fun b hb => by injection hb with hb; omega))
  have s4 : v4.heap.size ≤ w4.heap.size := Y4.out.size
  have Ew4 : Hid (Chg g (g + 1) w w4) := Lib.hid (Ev4.out.step Y4.out (by omega))
  clear hb4
  replace KR : Hid (Blk w4 (w.heap.size) 43 [.bool false, .int .i64 0, .int .i64 0, .int .i64 0, .int .i64 0, .bool false]) := Lib.hid (KR.out.chg Y4.out (by omega))
  clear HRD3
  have HRD4 := Lib.hid hrd4; clear hrd4
  have HHX4 := Lib.hid hhx4; clear hhx4
  obtain ⟨qR0, qR1, qR2, qR3, qR4, qR5⟩ := KR.out.c6
  have jR := KR.out.lt
  have zR := KR.out.frozen
  have HAP : Hid (Apart ⟨true, x1, x2, x3, x4, false⟩) := Lib.hid (by have := HHX2.out; simp at this; unfold Apart; simp only; omega)
  go_wp2
  exact bodyPost_ret (v := .agg #[.bool true, .int .i64 x1, .int .i64 x2, .int .i64 x3, .int .i64 x4, .bool false]) (by simp [results, Try.results44, go_sem, qR0, qR1, qR2, qR3, qR4, qR5]) rfl
    ⟨⟨true, x1, x2, x3, x4, false⟩, rfl, ⟨rfl, rfl, HAP.out⟩, Rdr.chg (lo := w.heap.size) (hi := w.heap.size + 1) HRD4.out (by repeat' (first | with_reducible exact Chg.refl _ _ w4 | with_reducible refine Chg.alloc ?_ _ | with_reducible refine Chg.drew ?_ | with_reducible refine Chg.set ?_ (by omega) _)) (by omega), Chg.grown (by repeat' (first | with_reducible exact Ew4.out | with_reducible refine Chg.alloc ?_ _ | with_reducible refine Chg.drew ?_ | with_reducible refine Chg.set ?_ (by omega) _))⟩
end Go.Proofs.Ytidnefcnojedoaa
