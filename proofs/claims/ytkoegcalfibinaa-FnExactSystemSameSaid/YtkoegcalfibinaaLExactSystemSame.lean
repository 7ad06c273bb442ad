/- The law FnExactSystemSame: the walk. -/
import Derived.Test.YtkoegcalfibinaaYu
import Derived.Deep.RegionHeld3
namespace Go.Proofs.Ytkoegcalfibinaa
open Go.ChangeShapes Go.WideShapes Go.ChangeAt Go.RowKit
open Rec (sz cs)
set_option linter.unusedVariables false
set_option maxRecDepth 100000

set_option maxHeartbeats 16000000 in
theorem walk_FnExactSystemSame (x : SysD) (ax : SA) (y : SysD) (ay : SA) (w : World) (hx : HasS w x ax) (hxl : LenS x) (hy : HasS w y ay) (hyl : LenS y) :
    Calls Try.prog 3 #[.agg #[.slice ax.b x.table.buckets.length ax.bc, .slice ax.f x.table.frames.length ax.fc, .slice ax.q x.cpus.length ax.qc], .agg #[.slice ay.b y.table.buckets.length ay.bc, .slice ay.f y.table.frames.length ay.fc, .slice ay.q y.cpus.length ay.qc]] w fun r w' => r = .returned (.bool true) ∧ Ex w w' := by
  have HX := Lib.hid hx
  have HY := Lib.hid hy
  have HXL := Lib.hid hxl
  have HYL := Lib.hid hyl
  clear hx hy hxl hyl
  have C1 := Lib.hid (fun w (h : HasS w x ax) => szSystem_c x ax 1048576 w h (by omega) (by omega) HXL.out)
  by_cases h1 : (1048576 : Int) < sumS x
  · rw [szI_neg h1] at C1
    go_enter Try.func3, Try.ntmps3
    go_wp2_with fail
    refine name_calls ?_; intro v1 hv1
    have X1 : Hid (Chg (0) (0) w v1) := Lib.hid (by rw [hv1]; repeat' (first | with_reducible exact Chg.refl _ _ _ | with_reducible refine Chg.alloc ?_ _ | with_reducible refine Chg.drew ?_ | with_reducible refine Chg.set ?_ (by omega) _))
    have t1 : w.heap.size ≤ v1.heap.size := X1.out.size
    have Ev1 : Hid (Ex w v1) := Lib.hid ((Ex.refl w).chg X1.out (by omega))
    clear hv1
    refine (C1.out _ (HX.out.ex Ev1.out)).mono ?_; rintro r w1 ⟨rfl, hb1⟩
    have Y1 : Hid (Chg 0 0 v1 w1) := Lib.hid (Chg.of_ex hb1)
    have s1 : v1.heap.size ≤ w1.heap.size := Y1.out.size
    have Ew1 : Hid (Ex w w1) := Lib.hid (Ev1.out.chg Y1.out (by omega))
    clear hb1
    go_wp2
    go_ret
    exact ⟨rfl, Ew1.out⟩
  rw [szI_pos h1] at C1
  obtain ⟨l1, hl1⟩ : ∃ l1 : Int, l1 = (1048576 : Int) - sumS x := ⟨_, rfl⟩
  rw [← hl1] at C1
  have h3 : ¬ (l1 < 0) := by omega
  have C2 := Lib.hid (fun w (h : HasS w y ay) => szSystem_c y ay l1 w h (by omega) (by omega) HYL.out)
  have HFx : Hid (FewS x) := Lib.hid (FewS.of_sum (by omega))
  by_cases h2 : l1 < sumS y
  · rw [szI_neg h2] at C2
    clear hl1
    go_enter Try.func3, Try.ntmps3
    go_wp2_with fail
    refine name_calls ?_; intro v1 hv1
    have X1 : Hid (Chg (0) (0) w v1) := Lib.hid (by rw [hv1]; repeat' (first | with_reducible exact Chg.refl _ _ _ | with_reducible refine Chg.alloc ?_ _ | with_reducible refine Chg.drew ?_ | with_reducible refine Chg.set ?_ (by omega) _))
    have t1 : w.heap.size ≤ v1.heap.size := X1.out.size
    have Ev1 : Hid (Ex w v1) := Lib.hid ((Ex.refl w).chg X1.out (by omega))
    have KY : Hid (Blk v1 (w.heap.size + 1) 28 [.slice ay.b y.table.buckets.length ay.bc, .slice ay.f y.table.frames.length ay.fc, .slice ay.q y.cpus.length ay.qc]) := Lib.hid (by rw [hv1]; repeat' (first | with_reducible exact Blk.new_at _ _ _ (by simp) | with_reducible refine Blk.alloc ?_ _ | with_reducible refine Blk.drew ?_ | with_reducible refine Blk.far ?_ (by simp; omega) _))
    have lY : w.heap.size + 1 < v1.heap.size := KY.out.lt
    clear hv1
    refine (C1.out _ (HX.out.ex Ev1.out)).mono ?_; rintro r w1 ⟨rfl, hb1⟩
    have Y1 : Hid (Chg 0 0 v1 w1) := Lib.hid (Chg.of_ex hb1)
    have s1 : v1.heap.size ≤ w1.heap.size := Y1.out.size
    have Ew1 : Hid (Ex w w1) := Lib.hid (Ev1.out.chg Y1.out (by omega))
    clear hb1
    replace KY : Hid (Blk w1 (w.heap.size + 1) 28 [.slice ay.b y.table.buckets.length ay.bc, .slice ay.f y.table.frames.length ay.fc, .slice ay.q y.cpus.length ay.qc]) := Lib.hid (KY.out.chg Y1.out (by omega))
    obtain ⟨qY0, qY1, qY2⟩ := KY.out.c3
    have jY := KY.out.lt
    go_wp2_with fail
    refine name_calls ?_; intro v2 hv2
    have X2 : Hid (Chg (0) (0) w1 v2) := Lib.hid (by rw [hv2]; repeat' (first | with_reducible exact Chg.refl _ _ _ | with_reducible refine Chg.alloc ?_ _ | with_reducible refine Chg.drew ?_ | with_reducible refine Chg.set ?_ (by omega) _))
    have t2 : w1.heap.size ≤ v2.heap.size := X2.out.size
    have Ev2 : Hid (Ex w v2) := Lib.hid (Ew1.out.chg X2.out (by omega))
    clear qY0 qY1 qY2 jY
    replace KY : Hid (Blk v2 (w.heap.size + 1) 28 [.slice ay.b y.table.buckets.length ay.bc, .slice ay.f y.table.frames.length ay.fc, .slice ay.q y.cpus.length ay.qc]) := Lib.hid (KY.out.chg X2.out (by omega))
    clear hv2
    refine (C2.out _ (HY.out.ex Ev2.out)).mono ?_; rintro r w2 ⟨rfl, hb2⟩
    have Y2 : Hid (Chg 0 0 v2 w2) := Lib.hid (Chg.of_ex hb2)
    have s2 : v2.heap.size ≤ w2.heap.size := Y2.out.size
    have Ew2 : Hid (Ex w w2) := Lib.hid (Ev2.out.chg Y2.out (by omega))
    clear hb2
    replace KY : Hid (Blk w2 (w.heap.size + 1) 28 [.slice ay.b y.table.buckets.length ay.bc, .slice ay.f y.table.frames.length ay.fc, .slice ay.q y.cpus.length ay.qc]) := Lib.hid (KY.out.chg Y2.out (by omega))
    obtain ⟨qY0, qY1, qY2⟩ := KY.out.c3
    have jY := KY.out.lt
    go_wp2
    go_ret
    exact ⟨rfl, Ew2.out⟩
  rw [szI_pos h2] at C2
  obtain ⟨l2, hl2⟩ : ∃ l2 : Int, l2 = l1 - sumS y := ⟨_, rfl⟩
  rw [← hl2] at C2
  have h4 : ¬ (l2 < 0) := by omega
  have HFy : Hid (FewS y) := Lib.hid (FewS.of_sum (by omega))
  clear h1 h2 hl1 hl2
  have CS := Lib.hid (fun (a3 : SA) (a4 : SA) w' (h1 : HasS w' x a3) (h2 : HasS w' y a4) => sysSameS_c x y a3 a4 w' h1 h2 HFx.out HFy.out)
  have CI := Lib.hid (fun (a3 : SA) (a4 : SA) w' (h1 : HasS w' x a3) (h2 : HasS w' y a4) => sysSameI_c x y a3 a4 w' h1 h2 HFx.out HFy.out)
  generalize eqB x y = same at CS CI
  have hbb : (!(same == same)) = false := by simp
  have hbb2 : (same != same) = false := by simp
  go_enter Try.func3, Try.ntmps3
  go_wp2_with fail
  refine name_calls ?_; intro v1 hv1
  have X1 : Hid (Chg (0) (0) w v1) := Lib.hid (by rw [hv1]; repeat' (first | with_reducible exact Chg.refl _ _ _ | with_reducible refine Chg.alloc ?_ _ | with_reducible refine Chg.drew ?_ | with_reducible refine Chg.set ?_ (by omega) _))
  have t1 : w.heap.size ≤ v1.heap.size := X1.out.size
  have Ev1 : Hid (Ex w v1) := Lib.hid ((Ex.refl w).chg X1.out (by omega))
  have KX : Hid (Blk v1 (w.heap.size) 28 [.slice ax.b x.table.buckets.length ax.bc, .slice ax.f x.table.frames.length ax.fc, .slice ax.q x.cpus.length ax.qc]) := Lib.hid (by rw [hv1]; repeat' (first | with_reducible exact Blk.new_at _ _ _ (by simp) | with_reducible refine Blk.alloc ?_ _ | with_reducible refine Blk.drew ?_ | with_reducible refine Blk.far ?_ (by simp; omega) _))
  have lX : w.heap.size < v1.heap.size := KX.out.lt
  have KY : Hid (Blk v1 (w.heap.size + 1) 28 [.slice ay.b y.table.buckets.length ay.bc, .slice ay.f y.table.frames.length ay.fc, .slice ay.q y.cpus.length ay.qc]) := Lib.hid (by rw [hv1]; repeat' (first | with_reducible exact Blk.new_at _ _ _ (by simp) | with_reducible refine Blk.alloc ?_ _ | with_reducible refine Blk.drew ?_ | with_reducible refine Blk.far ?_ (by simp; omega) _))
  have lY : w.heap.size + 1 < v1.heap.size := KY.out.lt
  have DX := Lib.hid (HX.out.ex Ev1.out)
  have DY := Lib.hid (HY.out.ex Ev1.out)
  clear hv1
  refine (C1.out _ (HX.out.ex Ev1.out)).mono ?_; rintro r w1 ⟨rfl, hb1⟩
  have Y1 : Hid (Chg 0 0 v1 w1) := Lib.hid (Chg.of_ex hb1)
  have s1 : v1.heap.size ≤ w1.heap.size := Y1.out.size
  have Ew1 : Hid (Ex w w1) := Lib.hid (Ev1.out.chg Y1.out (by omega))
  clear hb1
  replace KX : Hid (Blk w1 (w.heap.size) 28 [.slice ax.b x.table.buckets.length ax.bc, .slice ax.f x.table.frames.length ax.fc, .slice ax.q x.cpus.length ax.qc]) := Lib.hid (KX.out.chg Y1.out (by omega))
  replace KY : Hid (Blk w1 (w.heap.size + 1) 28 [.slice ay.b y.table.buckets.length ay.bc, .slice ay.f y.table.frames.length ay.fc, .slice ay.q y.cpus.length ay.qc]) := Lib.hid (KY.out.chg Y1.out (by omega))
  replace DX := Lib.hid (HX.out.ex Ew1.out)
  replace DY := Lib.hid (HY.out.ex Ew1.out)
  obtain ⟨qX0, qX1, qX2⟩ := KX.out.c3
  have jX := KX.out.lt
  obtain ⟨qY0, qY1, qY2⟩ := KY.out.c3
  have jY := KY.out.lt
  go_wp2_with fail
  refine name_calls ?_; intro v2 hv2
  have X2 : Hid (Chg (0) (0) w1 v2) := Lib.hid (by rw [hv2]; repeat' (first | with_reducible exact Chg.refl _ _ _ | with_reducible refine Chg.alloc ?_ _ | with_reducible refine Chg.drew ?_ | with_reducible refine Chg.set ?_ (by omega) _))
  have t2 : w1.heap.size ≤ v2.heap.size := X2.out.size
  have Ev2 : Hid (Ex w v2) := Lib.hid (Ew1.out.chg X2.out (by omega))
  clear qX0 qX1 qX2 jX
  clear qY0 qY1 qY2 jY
  replace KX : Hid (Blk v2 (w.heap.size) 28 [.slice ax.b x.table.buckets.length ax.bc, .slice ax.f x.table.frames.length ax.fc, .slice ax.q x.cpus.length ax.qc]) := Lib.hid (KX.out.chg X2.out (by omega))
  replace KY : Hid (Blk v2 (w.heap.size + 1) 28 [.slice ay.b y.table.buckets.length ay.bc, .slice ay.f y.table.frames.length ay.fc, .slice ay.q y.cpus.length ay.qc]) := Lib.hid (KY.out.chg X2.out (by omega))
  replace DX := Lib.hid (HX.out.ex Ev2.out)
  replace DY := Lib.hid (HY.out.ex Ev2.out)
  clear hv2
  refine (C2.out _ (HY.out.ex Ev2.out)).mono ?_; rintro r w2 ⟨rfl, hb2⟩
  have Y2 : Hid (Chg 0 0 v2 w2) := Lib.hid (Chg.of_ex hb2)
  have s2 : v2.heap.size ≤ w2.heap.size := Y2.out.size
  have Ew2 : Hid (Ex w w2) := Lib.hid (Ev2.out.chg Y2.out (by omega))
  clear hb2
  replace KX : Hid (Blk w2 (w.heap.size) 28 [.slice ax.b x.table.buckets.length ax.bc, .slice ax.f x.table.frames.length ax.fc, .slice ax.q x.cpus.length ax.qc]) := Lib.hid (KX.out.chg Y2.out (by omega))
  replace KY : Hid (Blk w2 (w.heap.size + 1) 28 [.slice ay.b y.table.buckets.length ay.bc, .slice ay.f y.table.frames.length ay.fc, .slice ay.q y.cpus.length ay.qc]) := Lib.hid (KY.out.chg Y2.out (by omega))
  replace DX := Lib.hid (HX.out.ex Ew2.out)
  replace DY := Lib.hid (HY.out.ex Ew2.out)
  obtain ⟨qX0, qX1, qX2⟩ := KX.out.c3
  have jX := KX.out.lt
  obtain ⟨qY0, qY1, qY2⟩ := KY.out.c3
  have jY := KY.out.lt
  have FK2 : Hid (∀ w', Ex w2 w' → (w'.cell? ⟨w.heap.size, 0, none⟩ = some (.slice ax.b x.table.buckets.length ax.bc) ∧ w'.cell? ⟨w.heap.size, 1, none⟩ = some (.slice ax.f x.table.frames.length ax.fc) ∧ w'.cell? ⟨w.heap.size, 2, none⟩ = some (.slice ax.q x.cpus.length ax.qc) ∧ w'.cell? ⟨w.heap.size + 1, 0, none⟩ = some (.slice ay.b y.table.buckets.length ay.bc) ∧ w'.cell? ⟨w.heap.size + 1, 1, none⟩ = some (.slice ay.f y.table.frames.length ay.fc) ∧ w'.cell? ⟨w.heap.size + 1, 2, none⟩ = some (.slice ay.q y.cpus.length ay.qc))) := Lib.hid (fun w' h => by
    obtain ⟨p0, p1, p2⟩ := (KX.out.ex h).c3
    obtain ⟨q0, q1, q2⟩ := (KY.out.ex h).c3
    exact ⟨p0, p1, p2, q0, q1, q2⟩)
  have CT2x : Hid (∀ w', Ex w2 w' → Calls Try.prog 8 #[.agg #[.slice ax.b x.table.buckets.length ax.bc, .slice ax.f x.table.frames.length ax.fc, .slice ax.q x.cpus.length ax.qc]] w' fun r w'' => ∃ a9, r = .returned (.agg #[.slice a9.b x.table.buckets.length a9.bc, .slice a9.f x.table.frames.length a9.fc, .slice a9.q x.cpus.length a9.qc]) ∧ FrS w'' w'.heap.size x a9 ∧ Ex w' w'') := Lib.hid (fun w' h => toSystem_c x ax w' (DX.out.ex h) HFx.out)
  have CT2y : Hid (∀ w', Ex w2 w' → Calls Try.prog 8 #[.agg #[.slice ay.b y.table.buckets.length ay.bc, .slice ay.f y.table.frames.length ay.fc, .slice ay.q y.cpus.length ay.qc]] w' fun r w'' => ∃ a9, r = .returned (.agg #[.slice a9.b y.table.buckets.length a9.bc, .slice a9.f y.table.frames.length a9.fc, .slice a9.q y.cpus.length a9.qc]) ∧ FrS w'' w'.heap.size y a9 ∧ Ex w' w'') := Lib.hid (fun w' h => toSystem_c y ay w' (DY.out.ex h) HFy.out)
  clear qX0 qX1 qX2 jX
  clear qY0 qY1 qY2 jY
  go_wp2_with fail
  go_region_held3 (fun w' => (w'.cell? ⟨w.heap.size, 0, none⟩ = some (.slice ax.b x.table.buckets.length ax.bc) ∧ w'.cell? ⟨w.heap.size, 1, none⟩ = some (.slice ax.f x.table.frames.length ax.fc) ∧ w'.cell? ⟨w.heap.size, 2, none⟩ = some (.slice ax.q x.cpus.length ax.qc) ∧ w'.cell? ⟨w.heap.size + 1, 0, none⟩ = some (.slice ay.b y.table.buckets.length ay.bc) ∧ w'.cell? ⟨w.heap.size + 1, 1, none⟩ = some (.slice ay.f y.table.frames.length ay.fc) ∧ w'.cell? ⟨w.heap.size + 1, 2, none⟩ = some (.slice ay.q y.cpus.length ay.qc))) ((refine FK2.out _ ?_; with_reducible (first | exact Ex.refl _ | exact (Ex.refl _).drew | exact hE3 | exact hE4 | exact hE5))) (first | (go_at_call 8; (with_reducible refine (CT2x.out _ ?_).mono ?_); (with_reducible exact (Ex.refl _).drew); rintro r w3 ⟨a3, rfl, hf3, hb3⟩; have hE3 := Ex.trans (Ex.refl _).drew hb3) | (go_at_call 8; (with_reducible refine (CT2y.out _ ?_).mono ?_); (with_reducible exact hE3); rintro r w4 ⟨a4, rfl, hf4, hb4⟩; have hE4 := Ex.trans hE3 hb4) | (go_at_call 7; (with_reducible refine (CS.out _ _ _ ?_ ?_).mono ?_); (exact (hf3.ex hb4).has); (exact hf4.has); rintro r w5 ⟨rfl, hb5⟩; have hE5 := Ex.trans hE4 hb5))
  rename_i hHeld
  clear hHeld
  have Y5 : Hid (Chg 0 0 w2 w5) := Lib.hid (Chg.of_ex hE5)
  clear hb3 hb4 hb5 hf3 hf4 hE3 hE4 hE5 FK2 CT2x CT2y CS
  have s5 : w2.heap.size ≤ w5.heap.size := Y5.out.size
  have Ew5 : Hid (Ex w w5) := Lib.hid (Ew2.out.chg Y5.out (by omega))
  replace KX : Hid (Blk w5 (w.heap.size) 28 [.slice ax.b x.table.buckets.length ax.bc, .slice ax.f x.table.frames.length ax.fc, .slice ax.q x.cpus.length ax.qc]) := Lib.hid (KX.out.chg Y5.out (by omega))
  replace KY : Hid (Blk w5 (w.heap.size + 1) 28 [.slice ay.b y.table.buckets.length ay.bc, .slice ay.f y.table.frames.length ay.fc, .slice ay.q y.cpus.length ay.qc]) := Lib.hid (KY.out.chg Y5.out (by omega))
  replace DX := Lib.hid (HX.out.ex Ew5.out)
  replace DY := Lib.hid (HY.out.ex Ew5.out)
  obtain ⟨qX0, qX1, qX2⟩ := KX.out.c3
  have jX := KX.out.lt
  obtain ⟨qY0, qY1, qY2⟩ := KY.out.c3
  have jY := KY.out.lt
  go_wp2_with fail
  refine name_calls ?_; intro v6 hv6
  have X6 : Hid (Chg (0) (0) w5 v6) := Lib.hid (by rw [hv6]; repeat' (first | with_reducible exact Chg.refl _ _ _ | with_reducible refine Chg.alloc ?_ _ | with_reducible refine Chg.drew ?_ | with_reducible refine Chg.set ?_ (by omega) _))
  have t6 : w5.heap.size ≤ v6.heap.size := X6.out.size
  have Ev6 : Hid (Ex w v6) := Lib.hid (Ew5.out.chg X6.out (by omega))
  clear qX0 qX1 qX2 jX
  clear qY0 qY1 qY2 jY
  replace KX : Hid (Blk v6 (w.heap.size) 28 [.slice ax.b x.table.buckets.length ax.bc, .slice ax.f x.table.frames.length ax.fc, .slice ax.q x.cpus.length ax.qc]) := Lib.hid (KX.out.chg X6.out (by omega))
  replace KY : Hid (Blk v6 (w.heap.size + 1) 28 [.slice ay.b y.table.buckets.length ay.bc, .slice ay.f y.table.frames.length ay.fc, .slice ay.q y.cpus.length ay.qc]) := Lib.hid (KY.out.chg X6.out (by omega))
  replace DX := Lib.hid (HX.out.ex Ev6.out)
  replace DY := Lib.hid (HY.out.ex Ev6.out)
  clear hv6
  refine (toSystem_c x ax _ DX.out HFx.out).mono ?_; rintro r w6 ⟨a6, rfl, hhf6, hb6⟩
  have Y6 : Hid (Chg 0 0 v6 w6) := Lib.hid (Chg.of_ex hb6)
  have s6 : v6.heap.size ≤ w6.heap.size := Y6.out.size
  have Ew6 : Hid (Ex w w6) := Lib.hid (Ev6.out.chg Y6.out (by omega))
  clear hb6
  replace KX : Hid (Blk w6 (w.heap.size) 28 [.slice ax.b x.table.buckets.length ax.bc, .slice ax.f x.table.frames.length ax.fc, .slice ax.q x.cpus.length ax.qc]) := Lib.hid (KX.out.chg Y6.out (by omega))
  replace KY : Hid (Blk w6 (w.heap.size + 1) 28 [.slice ay.b y.table.buckets.length ay.bc, .slice ay.f y.table.frames.length ay.fc, .slice ay.q y.cpus.length ay.qc]) := Lib.hid (KY.out.chg Y6.out (by omega))
  replace DX := Lib.hid (HX.out.ex Ew6.out)
  replace DY := Lib.hid (HY.out.ex Ew6.out)
  have HHF6 := Lib.hid hhf6; clear hhf6
  obtain ⟨qX0, qX1, qX2⟩ := KX.out.c3
  have jX := KX.out.lt
  obtain ⟨qY0, qY1, qY2⟩ := KY.out.c3
  have jY := KY.out.lt
  go_wp2_with fail
  refine name_calls ?_; intro v7 hv7
  have X7 : Hid (Chg (0) (0) w6 v7) := Lib.hid (by rw [hv7]; repeat' (first | with_reducible exact Chg.refl _ _ _ | with_reducible refine Chg.alloc ?_ _ | with_reducible refine Chg.drew ?_ | with_reducible refine Chg.set ?_ (by omega) _))
  have t7 : w6.heap.size ≤ v7.heap.size := X7.out.size
  have Ev7 : Hid (Ex w v7) := Lib.hid (Ew6.out.chg X7.out (by omega))
  clear qX0 qX1 qX2 jX
  clear qY0 qY1 qY2 jY
  replace KX : Hid (Blk v7 (w.heap.size) 28 [.slice ax.b x.table.buckets.length ax.bc, .slice ax.f x.table.frames.length ax.fc, .slice ax.q x.cpus.length ax.qc]) := Lib.hid (KX.out.chg X7.out (by omega))
  replace KY : Hid (Blk v7 (w.heap.size + 1) 28 [.slice ay.b y.table.buckets.length ay.bc, .slice ay.f y.table.frames.length ay.fc, .slice ay.q y.cpus.length ay.qc]) := Lib.hid (KY.out.chg X7.out (by omega))
  have KG : Hid (Blk v7 (w6.heap.size) 36 [.slice a6.b x.table.buckets.length a6.bc, .slice a6.f x.table.frames.length a6.fc, .slice a6.q x.cpus.length a6.qc]) := Lib.hid (by rw [hv7]; repeat' (first | with_reducible exact Blk.new_at _ _ _ (by simp) | with_reducible refine Blk.alloc ?_ _ | with_reducible refine Blk.drew ?_ | with_reducible refine Blk.far ?_ (by simp; omega) _))
  have lG : w6.heap.size < v7.heap.size := KG.out.lt
  replace DX := Lib.hid (HX.out.ex Ev7.out)
  replace DY := Lib.hid (HY.out.ex Ev7.out)
  clear hv7
  refine (toSystem_c y ay _ DY.out HFy.out).mono ?_; rintro r w7 ⟨a7, rfl, hhf7, hb7⟩
  have Y7 : Hid (Chg 0 0 v7 w7) := Lib.hid (Chg.of_ex hb7)
  have s7 : v7.heap.size ≤ w7.heap.size := Y7.out.size
  have Ew7 : Hid (Ex w w7) := Lib.hid (Ev7.out.chg Y7.out (by omega))
  clear hb7
  replace KX : Hid (Blk w7 (w.heap.size) 28 [.slice ax.b x.table.buckets.length ax.bc, .slice ax.f x.table.frames.length ax.fc, .slice ax.q x.cpus.length ax.qc]) := Lib.hid (KX.out.chg Y7.out (by omega))
  replace KY : Hid (Blk w7 (w.heap.size + 1) 28 [.slice ay.b y.table.buckets.length ay.bc, .slice ay.f y.table.frames.length ay.fc, .slice ay.q y.cpus.length ay.qc]) := Lib.hid (KY.out.chg Y7.out (by omega))
  replace KG : Hid (Blk w7 (w6.heap.size) 36 [.slice a6.b x.table.buckets.length a6.bc, .slice a6.f x.table.frames.length a6.fc, .slice a6.q x.cpus.length a6.qc]) := Lib.hid (KG.out.chg Y7.out (by omega))
  replace DX := Lib.hid (HX.out.ex Ew7.out)
  replace DY := Lib.hid (HY.out.ex Ew7.out)
  have HHF7 := Lib.hid hhf7; clear hhf7
  obtain ⟨qX0, qX1, qX2⟩ := KX.out.c3
  have jX := KX.out.lt
  obtain ⟨qY0, qY1, qY2⟩ := KY.out.c3
  have jY := KY.out.lt
  obtain ⟨qG0, qG1, qG2⟩ := KG.out.c3
  have jG := KG.out.lt
  have HG7 : Hid (HasS w7 x a6) := Lib.hid ((HHF6.out.has.ex X7.out.ex_).ex Y7.out.ex_)
  go_wp2_with fail
  refine name_calls ?_; intro v8 hv8
  have X8 : Hid (Chg (0) (0) w7 v8) := Lib.hid (by rw [hv8]; repeat' (first | with_reducible exact Chg.refl _ _ _ | with_reducible refine Chg.alloc ?_ _ | with_reducible refine Chg.drew ?_ | with_reducible refine Chg.set ?_ (by omega) _))
  have t8 : w7.heap.size ≤ v8.heap.size := X8.out.size
  have Ev8 : Hid (Ex w v8) := Lib.hid (Ew7.out.chg X8.out (by omega))
  clear qX0 qX1 qX2 jX
  clear qY0 qY1 qY2 jY
  clear qG0 qG1 qG2 jG
  replace KX : Hid (Blk v8 (w.heap.size) 28 [.slice ax.b x.table.buckets.length ax.bc, .slice ax.f x.table.frames.length ax.fc, .slice ax.q x.cpus.length ax.qc]) := Lib.hid (KX.out.chg X8.out (by omega))
  replace KY : Hid (Blk v8 (w.heap.size + 1) 28 [.slice ay.b y.table.buckets.length ay.bc, .slice ay.f y.table.frames.length ay.fc, .slice ay.q y.cpus.length ay.qc]) := Lib.hid (KY.out.chg X8.out (by omega))
  replace KG : Hid (Blk v8 (w6.heap.size) 36 [.slice a6.b x.table.buckets.length a6.bc, .slice a6.f x.table.frames.length a6.fc, .slice a6.q x.cpus.length a6.qc]) := Lib.hid (KG.out.chg X8.out (by omega))
  have KH : Hid (Blk v8 (w7.heap.size) 36 [.slice a7.b y.table.buckets.length a7.bc, .slice a7.f y.table.frames.length a7.fc, .slice a7.q y.cpus.length a7.qc]) := Lib.hid (by rw [hv8]; repeat' (first | with_reducible exact Blk.new_at _ _ _ (by simp) | with_reducible refine Blk.alloc ?_ _ | with_reducible refine Blk.drew ?_ | with_reducible refine Blk.far ?_ (by simp; omega) _))
  have lH : w7.heap.size < v8.heap.size := KH.out.lt
  replace DX := Lib.hid (HX.out.ex Ev8.out)
  replace DY := Lib.hid (HY.out.ex Ev8.out)
  clear hv8
  refine (CI.out _ _ _ (HG7.out.ex X8.out.ex_) (HHF7.out.has.ex X8.out.ex_)).mono ?_; rintro r w8 ⟨rfl, hb8⟩
  have Y8 : Hid (Chg 0 0 v8 w8) := Lib.hid (Chg.of_ex hb8)
  have s8 : v8.heap.size ≤ w8.heap.size := Y8.out.size
  have Ew8 : Hid (Ex w w8) := Lib.hid (Ev8.out.chg Y8.out (by omega))
  clear hb8
  replace KX : Hid (Blk w8 (w.heap.size) 28 [.slice ax.b x.table.buckets.length ax.bc, .slice ax.f x.table.frames.length ax.fc, .slice ax.q x.cpus.length ax.qc]) := Lib.hid (KX.out.chg Y8.out (by omega))
  replace KY : Hid (Blk w8 (w.heap.size + 1) 28 [.slice ay.b y.table.buckets.length ay.bc, .slice ay.f y.table.frames.length ay.fc, .slice ay.q y.cpus.length ay.qc]) := Lib.hid (KY.out.chg Y8.out (by omega))
  replace KG : Hid (Blk w8 (w6.heap.size) 36 [.slice a6.b x.table.buckets.length a6.bc, .slice a6.f x.table.frames.length a6.fc, .slice a6.q x.cpus.length a6.qc]) := Lib.hid (KG.out.chg Y8.out (by omega))
  replace KH : Hid (Blk w8 (w7.heap.size) 36 [.slice a7.b y.table.buckets.length a7.bc, .slice a7.f y.table.frames.length a7.fc, .slice a7.q y.cpus.length a7.qc]) := Lib.hid (KH.out.chg Y8.out (by omega))
  replace DX := Lib.hid (HX.out.ex Ew8.out)
  replace DY := Lib.hid (HY.out.ex Ew8.out)
  obtain ⟨qX0, qX1, qX2⟩ := KX.out.c3
  have jX := KX.out.lt
  obtain ⟨qY0, qY1, qY2⟩ := KY.out.c3
  have jY := KY.out.lt
  obtain ⟨qG0, qG1, qG2⟩ := KG.out.c3
  have jG := KG.out.lt
  obtain ⟨qH0, qH1, qH2⟩ := KH.out.c3
  have jH := KH.out.lt
  have HG8 : Hid (HasS w8 x a6) := Lib.hid ((HG7.out.ex X8.out.ex_).ex Y8.out.ex_)
  have HH8 : Hid (HasS w8 y a7) := Lib.hid ((HHF7.out.has.ex X8.out.ex_).ex Y8.out.ex_)
  obtain ⟨gG, hgG⟩ : ∃ g, g = w6.heap.size := ⟨_, rfl⟩
  obtain ⟨gH, hgH⟩ : ∃ g, g = w7.heap.size := ⟨_, rfl⟩
  rw [← hgG] at KG qG0 qG1 qG2 jG ⊢
  rw [← hgH] at KH qH0 qH1 qH2 jH ⊢
  clear hgG hgH
  have FK9 : Hid (∀ w', Ex w8 w' → (w'.cell? ⟨gG, 0, none⟩ = some (.slice a6.b x.table.buckets.length a6.bc) ∧ w'.cell? ⟨gG, 1, none⟩ = some (.slice a6.f x.table.frames.length a6.fc) ∧ w'.cell? ⟨gG, 2, none⟩ = some (.slice a6.q x.cpus.length a6.qc) ∧ w'.cell? ⟨w.heap.size, 0, none⟩ = some (.slice ax.b x.table.buckets.length ax.bc) ∧ w'.cell? ⟨w.heap.size, 1, none⟩ = some (.slice ax.f x.table.frames.length ax.fc) ∧ w'.cell? ⟨w.heap.size, 2, none⟩ = some (.slice ax.q x.cpus.length ax.qc))) := Lib.hid (fun w' h => by
    obtain ⟨p0, p1, p2⟩ := (KG.out.ex h).c3
    obtain ⟨q0, q1, q2⟩ := (KX.out.ex h).c3
    exact ⟨p0, p1, p2, q0, q1, q2⟩)
  have CT9 : Hid (∀ w', Ex w8 w' → Calls Try.prog 8 #[.agg #[.slice ax.b x.table.buckets.length ax.bc, .slice ax.f x.table.frames.length ax.fc, .slice ax.q x.cpus.length ax.qc]] w' fun r w'' => ∃ a9, r = .returned (.agg #[.slice a9.b x.table.buckets.length a9.bc, .slice a9.f x.table.frames.length a9.fc, .slice a9.q x.cpus.length a9.qc]) ∧ FrS w'' w'.heap.size x a9 ∧ Ex w' w'') := Lib.hid (fun w' h => toSystem_c x ax w' (DX.out.ex h) HFx.out)
  have CQ9 : Hid (∀ (a9 : SA) w', Ex w8 w' → HasS w' x a9 → Calls Try.prog 10 #[.agg #[.slice a6.b x.table.buckets.length a6.bc, .slice a6.f x.table.frames.length a6.fc, .slice a6.q x.cpus.length a6.qc], .agg #[.slice a9.b x.table.buckets.length a9.bc, .slice a9.f x.table.frames.length a9.fc, .slice a9.q x.cpus.length a9.qc]] w' fun r w'' => r = .returned (.bool true) ∧ Ex w' w'') := Lib.hid (fun a9 w' h1 h2 => eqSystem_self_c x a6 a9 w' (HG8.out.ex h1) h2 HFx.out)
  clear qX0 qX1 qX2 jX
  clear qY0 qY1 qY2 jY
  clear qG0 qG1 qG2 jG
  clear qH0 qH1 qH2 jH
  go_wp2_with fail
  go_region_held3 (fun w' => (w'.cell? ⟨gG, 0, none⟩ = some (.slice a6.b x.table.buckets.length a6.bc) ∧ w'.cell? ⟨gG, 1, none⟩ = some (.slice a6.f x.table.frames.length a6.fc) ∧ w'.cell? ⟨gG, 2, none⟩ = some (.slice a6.q x.cpus.length a6.qc) ∧ w'.cell? ⟨w.heap.size, 0, none⟩ = some (.slice ax.b x.table.buckets.length ax.bc) ∧ w'.cell? ⟨w.heap.size, 1, none⟩ = some (.slice ax.f x.table.frames.length ax.fc) ∧ w'.cell? ⟨w.heap.size, 2, none⟩ = some (.slice ax.q x.cpus.length ax.qc))) ((refine FK9.out _ ?_; with_reducible (first | exact Ex.refl _ | exact (Ex.refl _).drew | exact hE9a | exact hE9))) (first | (go_at_call 8; (with_reducible refine (CT9.out _ ?_).mono ?_); (with_reducible exact (Ex.refl _).drew); rintro r w9a ⟨a9, rfl, hf9, hb9a⟩; have hE9a := Ex.trans (Ex.refl _).drew hb9a) | (go_at_call 10; (with_reducible refine (CQ9.out _ _ ?_ ?_).mono ?_); (with_reducible exact hE9a); (exact hf9.has); rintro r w9 ⟨rfl, hb9⟩; have hE9 := Ex.trans hE9a hb9))
  rename_i hHeld
  clear hHeld
  have Y9 : Hid (Chg 0 0 w8 w9) := Lib.hid (Chg.of_ex hE9)
  clear hb9a hb9 hf9 hE9a hE9 FK9 CT9 CQ9
  have s9 : w8.heap.size ≤ w9.heap.size := Y9.out.size
  have Ew9 : Hid (Ex w w9) := Lib.hid (Ew8.out.chg Y9.out (by omega))
  replace KX : Hid (Blk w9 (w.heap.size) 28 [.slice ax.b x.table.buckets.length ax.bc, .slice ax.f x.table.frames.length ax.fc, .slice ax.q x.cpus.length ax.qc]) := Lib.hid (KX.out.chg Y9.out (by omega))
  replace KY : Hid (Blk w9 (w.heap.size + 1) 28 [.slice ay.b y.table.buckets.length ay.bc, .slice ay.f y.table.frames.length ay.fc, .slice ay.q y.cpus.length ay.qc]) := Lib.hid (KY.out.chg Y9.out (by omega))
  replace KG : Hid (Blk w9 (gG) 36 [.slice a6.b x.table.buckets.length a6.bc, .slice a6.f x.table.frames.length a6.fc, .slice a6.q x.cpus.length a6.qc]) := Lib.hid (KG.out.chg Y9.out (by omega))
  replace KH : Hid (Blk w9 (gH) 36 [.slice a7.b y.table.buckets.length a7.bc, .slice a7.f y.table.frames.length a7.fc, .slice a7.q y.cpus.length a7.qc]) := Lib.hid (KH.out.chg Y9.out (by omega))
  replace DX := Lib.hid (HX.out.ex Ew9.out)
  replace DY := Lib.hid (HY.out.ex Ew9.out)
  have HH9 : Hid (HasS w9 y a7) := Lib.hid (HH8.out.ex Y9.out.ex_)
  have FK10 : Hid (∀ w', Ex w9 w' → (w'.cell? ⟨gH, 0, none⟩ = some (.slice a7.b y.table.buckets.length a7.bc) ∧ w'.cell? ⟨gH, 1, none⟩ = some (.slice a7.f y.table.frames.length a7.fc) ∧ w'.cell? ⟨gH, 2, none⟩ = some (.slice a7.q y.cpus.length a7.qc) ∧ w'.cell? ⟨w.heap.size + 1, 0, none⟩ = some (.slice ay.b y.table.buckets.length ay.bc) ∧ w'.cell? ⟨w.heap.size + 1, 1, none⟩ = some (.slice ay.f y.table.frames.length ay.fc) ∧ w'.cell? ⟨w.heap.size + 1, 2, none⟩ = some (.slice ay.q y.cpus.length ay.qc))) := Lib.hid (fun w' h => by
    obtain ⟨p0, p1, p2⟩ := (KH.out.ex h).c3
    obtain ⟨q0, q1, q2⟩ := (KY.out.ex h).c3
    exact ⟨p0, p1, p2, q0, q1, q2⟩)
  have CT10 : Hid (∀ w', Ex w9 w' → Calls Try.prog 8 #[.agg #[.slice ay.b y.table.buckets.length ay.bc, .slice ay.f y.table.frames.length ay.fc, .slice ay.q y.cpus.length ay.qc]] w' fun r w'' => ∃ a9, r = .returned (.agg #[.slice a9.b y.table.buckets.length a9.bc, .slice a9.f y.table.frames.length a9.fc, .slice a9.q y.cpus.length a9.qc]) ∧ FrS w'' w'.heap.size y a9 ∧ Ex w' w'') := Lib.hid (fun w' h => toSystem_c y ay w' (DY.out.ex h) HFy.out)
  have CQ10 : Hid (∀ (a9 : SA) w', Ex w9 w' → HasS w' y a9 → Calls Try.prog 10 #[.agg #[.slice a7.b y.table.buckets.length a7.bc, .slice a7.f y.table.frames.length a7.fc, .slice a7.q y.cpus.length a7.qc], .agg #[.slice a9.b y.table.buckets.length a9.bc, .slice a9.f y.table.frames.length a9.fc, .slice a9.q y.cpus.length a9.qc]] w' fun r w'' => r = .returned (.bool true) ∧ Ex w' w'') := Lib.hid (fun a9 w' h1 h2 => eqSystem_self_c y a7 a9 w' (HH9.out.ex h1) h2 HFy.out)
  go_wp2_with fail
  go_region_held3 (fun w' => (w'.cell? ⟨gH, 0, none⟩ = some (.slice a7.b y.table.buckets.length a7.bc) ∧ w'.cell? ⟨gH, 1, none⟩ = some (.slice a7.f y.table.frames.length a7.fc) ∧ w'.cell? ⟨gH, 2, none⟩ = some (.slice a7.q y.cpus.length a7.qc) ∧ w'.cell? ⟨w.heap.size + 1, 0, none⟩ = some (.slice ay.b y.table.buckets.length ay.bc) ∧ w'.cell? ⟨w.heap.size + 1, 1, none⟩ = some (.slice ay.f y.table.frames.length ay.fc) ∧ w'.cell? ⟨w.heap.size + 1, 2, none⟩ = some (.slice ay.q y.cpus.length ay.qc))) ((refine FK10.out _ ?_; with_reducible (first | exact Ex.refl _ | exact (Ex.refl _).drew | exact hE10a | exact hE10))) (first | (go_at_call 8; (with_reducible refine (CT10.out _ ?_).mono ?_); (with_reducible exact (Ex.refl _).drew); rintro r w10a ⟨a10, rfl, hf10, hb10a⟩; have hE10a := Ex.trans (Ex.refl _).drew hb10a) | (go_at_call 10; (with_reducible refine (CQ10.out _ _ ?_ ?_).mono ?_); (with_reducible exact hE10a); (exact hf10.has); rintro r w10 ⟨rfl, hb10⟩; have hE10 := Ex.trans hE10a hb10))
  rename_i hHeld
  clear hHeld
  have Y10 : Hid (Chg 0 0 w9 w10) := Lib.hid (Chg.of_ex hE10)
  clear hb10a hb10 hf10 hE10a hE10 FK10 CT10 CQ10
  go_wp2
  go_ret
  exact ⟨rfl, Ew9.out.trans Y10.out.ex_⟩
end Go.Proofs.Ytkoegcalfibinaa
