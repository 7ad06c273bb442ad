/- The law FnExactMemorySame: the walk. -/
import Derived.Test.YtkoegcalfibinaaMe
import Derived.Deep.RegionHeld3
namespace Go.Proofs.Ytkoegcalfibinaa
open Go.ChangeShapes Go.WideShapes Go.ChangeAt Go.RowKit
open Rec (sz cs)
set_option linter.unusedVariables false
set_option maxRecDepth 100000

set_option maxHeartbeats 16000000 in
theorem walk_FnExactMemorySame (x : MemD) (ax : MA) (Kx : Option Addr) (kx : Nat) (y : MemD) (ay : MA) (Ky : Option Addr) (ky : Nat) (w : World) (hx : HasE w x ax Kx) (hxl : LenE x) (hy : HasE w y ay Ky) (hyl : LenE y) :
    Calls Try.prog 5 #[.agg #[.slice ax.b x.mach.table.buckets.length ax.bc, .slice ax.f x.mach.table.frames.length ax.fc, .slice ax.l x.mach.cache.lines.length ax.lc, .int .i64 x.mach.cache.hand, .int .i64 x.mach.tags.count, .int .i64 x.mach.tags.next, .int .i64 x.mach.tags.round, .slice ax.o x.mach.tags.owns.length ax.oc, .int .i64 x.mach.space, .slice Kx x.marks.length kx, .int .i64 x.hand], .agg #[.slice ay.b y.mach.table.buckets.length ay.bc, .slice ay.f y.mach.table.frames.length ay.fc, .slice ay.l y.mach.cache.lines.length ay.lc, .int .i64 y.mach.cache.hand, .int .i64 y.mach.tags.count, .int .i64 y.mach.tags.next, .int .i64 y.mach.tags.round, .slice ay.o y.mach.tags.owns.length ay.oc, .int .i64 y.mach.space, .slice Ky y.marks.length ky, .int .i64 y.hand]] w fun r w' => r = .returned (.bool true) ∧ Ex w w' := by
  have HX := Lib.hid hx
  have HY := Lib.hid hy
  have HXL := Lib.hid hxl
  have HYL := Lib.hid hyl
  clear hx hy hxl hyl
  have C1 := Lib.hid (fun w => szMemory_c x ax Kx kx 1048576 w (by omega) (by omega) HXL.out)
  by_cases h1 : (1048576 : Int) < sumE x
  · rw [szI_neg h1] at C1
    go_enter Try.func5, Try.ntmps5
    go_wp2_with fail
    refine name_calls ?_; intro v1 hv1
    have X1 : Hid (Chg (0) (0) w v1) := Lib.hid (by rw [hv1]; repeat' (first | with_reducible exact Chg.refl _ _ _ | with_reducible refine Chg.alloc ?_ _ | with_reducible refine Chg.drew ?_ | with_reducible refine Chg.set ?_ (by omega) _))
    have t1 : w.heap.size ≤ v1.heap.size := X1.out.size
    have Ev1 : Hid (Ex w v1) := Lib.hid ((Ex.refl w).chg X1.out (by omega))
    clear hv1
    refine (C1.out _).mono ?_; rintro r w1 ⟨rfl, hb1⟩
    have Y1 : Hid (Chg 0 0 v1 w1) := Lib.hid (Chg.of_ex hb1)
    have s1 : v1.heap.size ≤ w1.heap.size := Y1.out.size
    have Ew1 : Hid (Ex w w1) := Lib.hid (Ev1.out.chg Y1.out (by omega))
    clear hb1
    go_wp2
    go_ret
    exact ⟨rfl, Ew1.out⟩
  rw [szI_pos h1] at C1
  obtain ⟨l1, hl1⟩ : ∃ l1 : Int, l1 = (1048576 : Int) - sumE x := ⟨_, rfl⟩
  rw [← hl1] at C1
  have h3 : ¬ (l1 < 0) := by omega
  have C2 := Lib.hid (fun w => szMemory_c y ay Ky ky l1 w (by omega) (by omega) HYL.out)
  have HFx : Hid (FewE x) := Lib.hid (FewE.of_sum (by omega))
  by_cases h2 : l1 < sumE y
  · rw [szI_neg h2] at C2
    clear hl1
    go_enter Try.func5, Try.ntmps5
    go_wp2_with fail
    refine name_calls ?_; intro v1 hv1
    have X1 : Hid (Chg (0) (0) w v1) := Lib.hid (by rw [hv1]; repeat' (first | with_reducible exact Chg.refl _ _ _ | with_reducible refine Chg.alloc ?_ _ | with_reducible refine Chg.drew ?_ | with_reducible refine Chg.set ?_ (by omega) _))
    have t1 : w.heap.size ≤ v1.heap.size := X1.out.size
    have Ev1 : Hid (Ex w v1) := Lib.hid ((Ex.refl w).chg X1.out (by omega))
    have KY : Hid (Blk v1 (w.heap.size + 1) 61 [.slice ay.b y.mach.table.buckets.length ay.bc, .slice ay.f y.mach.table.frames.length ay.fc, .slice ay.l y.mach.cache.lines.length ay.lc, .int .i64 y.mach.cache.hand, .int .i64 y.mach.tags.count, .int .i64 y.mach.tags.next, .int .i64 y.mach.tags.round, .slice ay.o y.mach.tags.owns.length ay.oc, .int .i64 y.mach.space, .slice Ky y.marks.length ky, .int .i64 y.hand]) := Lib.hid (by rw [hv1]; repeat' (first | with_reducible exact Blk.new_at _ _ _ (by simp) | with_reducible refine Blk.alloc ?_ _ | with_reducible refine Blk.drew ?_ | with_reducible refine Blk.far ?_ (by simp; omega) _))
    have lY : w.heap.size + 1 < v1.heap.size := KY.out.lt
    clear hv1
    refine (C1.out _).mono ?_; rintro r w1 ⟨rfl, hb1⟩
    have Y1 : Hid (Chg 0 0 v1 w1) := Lib.hid (Chg.of_ex hb1)
    have s1 : v1.heap.size ≤ w1.heap.size := Y1.out.size
    have Ew1 : Hid (Ex w w1) := Lib.hid (Ev1.out.chg Y1.out (by omega))
    clear hb1
    replace KY : Hid (Blk w1 (w.heap.size + 1) 61 [.slice ay.b y.mach.table.buckets.length ay.bc, .slice ay.f y.mach.table.frames.length ay.fc, .slice ay.l y.mach.cache.lines.length ay.lc, .int .i64 y.mach.cache.hand, .int .i64 y.mach.tags.count, .int .i64 y.mach.tags.next, .int .i64 y.mach.tags.round, .slice ay.o y.mach.tags.owns.length ay.oc, .int .i64 y.mach.space, .slice Ky y.marks.length ky, .int .i64 y.hand]) := Lib.hid (KY.out.chg Y1.out (by omega))
    obtain ⟨qY0, qY1, qY2, qY3, qY4, qY5, qY6, qY7, qY8, qY9, qY10⟩ := KY.out.c11
    have jY := KY.out.lt
    go_wp2_with fail
    refine name_calls ?_; intro v2 hv2
    have X2 : Hid (Chg (0) (0) w1 v2) := Lib.hid (by rw [hv2]; repeat' (first | with_reducible exact Chg.refl _ _ _ | with_reducible refine Chg.alloc ?_ _ | with_reducible refine Chg.drew ?_ | with_reducible refine Chg.set ?_ (by omega) _))
    have t2 : w1.heap.size ≤ v2.heap.size := X2.out.size
    have Ev2 : Hid (Ex w v2) := Lib.hid (Ew1.out.chg X2.out (by omega))
    clear qY0 qY1 qY2 qY3 qY4 qY5 qY6 qY7 qY8 qY9 qY10 jY
    replace KY : Hid (Blk v2 (w.heap.size + 1) 61 [.slice ay.b y.mach.table.buckets.length ay.bc, .slice ay.f y.mach.table.frames.length ay.fc, .slice ay.l y.mach.cache.lines.length ay.lc, .int .i64 y.mach.cache.hand, .int .i64 y.mach.tags.count, .int .i64 y.mach.tags.next, .int .i64 y.mach.tags.round, .slice ay.o y.mach.tags.owns.length ay.oc, .int .i64 y.mach.space, .slice Ky y.marks.length ky, .int .i64 y.hand]) := Lib.hid (KY.out.chg X2.out (by omega))
    clear hv2
    refine (C2.out _).mono ?_; rintro r w2 ⟨rfl, hb2⟩
    have Y2 : Hid (Chg 0 0 v2 w2) := Lib.hid (Chg.of_ex hb2)
    have s2 : v2.heap.size ≤ w2.heap.size := Y2.out.size
    have Ew2 : Hid (Ex w w2) := Lib.hid (Ev2.out.chg Y2.out (by omega))
    clear hb2
    replace KY : Hid (Blk w2 (w.heap.size + 1) 61 [.slice ay.b y.mach.table.buckets.length ay.bc, .slice ay.f y.mach.table.frames.length ay.fc, .slice ay.l y.mach.cache.lines.length ay.lc, .int .i64 y.mach.cache.hand, .int .i64 y.mach.tags.count, .int .i64 y.mach.tags.next, .int .i64 y.mach.tags.round, .slice ay.o y.mach.tags.owns.length ay.oc, .int .i64 y.mach.space, .slice Ky y.marks.length ky, .int .i64 y.hand]) := Lib.hid (KY.out.chg Y2.out (by omega))
    obtain ⟨qY0, qY1, qY2, qY3, qY4, qY5, qY6, qY7, qY8, qY9, qY10⟩ := KY.out.c11
    have jY := KY.out.lt
    go_wp2
    go_ret
    exact ⟨rfl, Ew2.out⟩
  rw [szI_pos h2] at C2
  obtain ⟨l2, hl2⟩ : ∃ l2 : Int, l2 = l1 - sumE y := ⟨_, rfl⟩
  rw [← hl2] at C2
  have h4 : ¬ (l2 < 0) := by omega
  have HFy : Hid (FewE y) := Lib.hid (FewE.of_sum (by omega))
  clear h1 h2 hl1 hl2
  have CS := Lib.hid (fun (a3 : MA) (K3 : Option Addr) (k3 : Nat) (a4 : MA) (K4 : Option Addr) (k4 : Nat) w' (h1 : HasE w' x a3 K3) (h2 : HasE w' y a4 K4) => memSameS_c x y a3 a4 K3 K4 k3 k4 w' h1 h2 HFx.out HFy.out)
  have CI := Lib.hid (fun (a3 : MA) (K3 : Option Addr) (k3 : Nat) (a4 : MA) (K4 : Option Addr) (k4 : Nat) w' (h1 : HasE w' x a3 K3) (h2 : HasE w' y a4 K4) => memSameI_c x y a3 a4 K3 K4 k3 k4 w' h1 h2 HFx.out HFy.out)
  generalize eqB x y = same at CS CI
  have hbb : (!(same == same)) = false := by simp
  have hbb2 : (same != same) = false := by simp
  go_enter Try.func5, Try.ntmps5
  go_wp2_with fail
  refine name_calls ?_; intro v1 hv1
  have X1 : Hid (Chg (0) (0) w v1) := Lib.hid (by rw [hv1]; repeat' (first | with_reducible exact Chg.refl _ _ _ | with_reducible refine Chg.alloc ?_ _ | with_reducible refine Chg.drew ?_ | with_reducible refine Chg.set ?_ (by omega) _))
  have t1 : w.heap.size ≤ v1.heap.size := X1.out.size
  have Ev1 : Hid (Ex w v1) := Lib.hid ((Ex.refl w).chg X1.out (by omega))
  have KX : Hid (Blk v1 (w.heap.size) 61 [.slice ax.b x.mach.table.buckets.length ax.bc, .slice ax.f x.mach.table.frames.length ax.fc, .slice ax.l x.mach.cache.lines.length ax.lc, .int .i64 x.mach.cache.hand, .int .i64 x.mach.tags.count, .int .i64 x.mach.tags.next, .int .i64 x.mach.tags.round, .slice ax.o x.mach.tags.owns.length ax.oc, .int .i64 x.mach.space, .slice Kx x.marks.length kx, .int .i64 x.hand]) := Lib.hid (by rw [hv1]; repeat' (first | with_reducible exact Blk.new_at _ _ _ (by simp) | with_reducible refine Blk.alloc ?_ _ | with_reducible refine Blk.drew ?_ | with_reducible refine Blk.far ?_ (by simp; omega) _))
  have lX : w.heap.size < v1.heap.size := KX.out.lt
  have KY : Hid (Blk v1 (w.heap.size + 1) 61 [.slice ay.b y.mach.table.buckets.length ay.bc, .slice ay.f y.mach.table.frames.length ay.fc, .slice ay.l y.mach.cache.lines.length ay.lc, .int .i64 y.mach.cache.hand, .int .i64 y.mach.tags.count, .int .i64 y.mach.tags.next, .int .i64 y.mach.tags.round, .slice ay.o y.mach.tags.owns.length ay.oc, .int .i64 y.mach.space, .slice Ky y.marks.length ky, .int .i64 y.hand]) := Lib.hid (by rw [hv1]; repeat' (first | with_reducible exact Blk.new_at _ _ _ (by simp) | with_reducible refine Blk.alloc ?_ _ | with_reducible refine Blk.drew ?_ | with_reducible refine Blk.far ?_ (by simp; omega) _))
  have lY : w.heap.size + 1 < v1.heap.size := KY.out.lt
  have DX := Lib.hid (HX.out.ex Ev1.out)
  have DY := Lib.hid (HY.out.ex Ev1.out)
  clear hv1
  refine (C1.out _).mono ?_; rintro r w1 ⟨rfl, hb1⟩
  have Y1 : Hid (Chg 0 0 v1 w1) := Lib.hid (Chg.of_ex hb1)
  have s1 : v1.heap.size ≤ w1.heap.size := Y1.out.size
  have Ew1 : Hid (Ex w w1) := Lib.hid (Ev1.out.chg Y1.out (by omega))
  clear hb1
  replace KX : Hid (Blk w1 (w.heap.size) 61 [.slice ax.b x.mach.table.buckets.length ax.bc, .slice ax.f x.mach.table.frames.length ax.fc, .slice ax.l x.mach.cache.lines.length ax.lc, .int .i64 x.mach.cache.hand, .int .i64 x.mach.tags.count, .int .i64 x.mach.tags.next, .int .i64 x.mach.tags.round, .slice ax.o x.mach.tags.owns.length ax.oc, .int .i64 x.mach.space, .slice Kx x.marks.length kx, .int .i64 x.hand]) := Lib.hid (KX.out.chg Y1.out (by omega))
  replace KY : Hid (Blk w1 (w.heap.size + 1) 61 [.slice ay.b y.mach.table.buckets.length ay.bc, .slice ay.f y.mach.table.frames.length ay.fc, .slice ay.l y.mach.cache.lines.length ay.lc, .int .i64 y.mach.cache.hand, .int .i64 y.mach.tags.count, .int .i64 y.mach.tags.next, .int .i64 y.mach.tags.round, .slice ay.o y.mach.tags.owns.length ay.oc, .int .i64 y.mach.space, .slice Ky y.marks.length ky, .int .i64 y.hand]) := Lib.hid (KY.out.chg Y1.out (by omega))
  replace DX := Lib.hid (HX.out.ex Ew1.out)
  replace DY := Lib.hid (HY.out.ex Ew1.out)
  obtain ⟨qX0, qX1, qX2, qX3, qX4, qX5, qX6, qX7, qX8, qX9, qX10⟩ := KX.out.c11
  have jX := KX.out.lt
  obtain ⟨qY0, qY1, qY2, qY3, qY4, qY5, qY6, qY7, qY8, qY9, qY10⟩ := KY.out.c11
  have jY := KY.out.lt
  go_wp2_with fail
  refine name_calls ?_; intro v2 hv2
  have X2 : Hid (Chg (0) (0) w1 v2) := Lib.hid (by rw [hv2]; repeat' (first | with_reducible exact Chg.refl _ _ _ | with_reducible refine Chg.alloc ?_ _ | with_reducible refine Chg.drew ?_ | with_reducible refine Chg.set ?_ (by omega) _))
  have t2 : w1.heap.size ≤ v2.heap.size := X2.out.size
  have Ev2 : Hid (Ex w v2) := Lib.hid (Ew1.out.chg X2.out (by omega))
  clear qX0 qX1 qX2 qX3 qX4 qX5 qX6 qX7 qX8 qX9 qX10 jX
  clear qY0 qY1 qY2 qY3 qY4 qY5 qY6 qY7 qY8 qY9 qY10 jY
  replace KX : Hid (Blk v2 (w.heap.size) 61 [.slice ax.b x.mach.table.buckets.length ax.bc, .slice ax.f x.mach.table.frames.length ax.fc, .slice ax.l x.mach.cache.lines.length ax.lc, .int .i64 x.mach.cache.hand, .int .i64 x.mach.tags.count, .int .i64 x.mach.tags.next, .int .i64 x.mach.tags.round, .slice ax.o x.mach.tags.owns.length ax.oc, .int .i64 x.mach.space, .slice Kx x.marks.length kx, .int .i64 x.hand]) := Lib.hid (KX.out.chg X2.out (by omega))
  replace KY : Hid (Blk v2 (w.heap.size + 1) 61 [.slice ay.b y.mach.table.buckets.length ay.bc, .slice ay.f y.mach.table.frames.length ay.fc, .slice ay.l y.mach.cache.lines.length ay.lc, .int .i64 y.mach.cache.hand, .int .i64 y.mach.tags.count, .int .i64 y.mach.tags.next, .int .i64 y.mach.tags.round, .slice ay.o y.mach.tags.owns.length ay.oc, .int .i64 y.mach.space, .slice Ky y.marks.length ky, .int .i64 y.hand]) := Lib.hid (KY.out.chg X2.out (by omega))
  replace DX := Lib.hid (HX.out.ex Ev2.out)
  replace DY := Lib.hid (HY.out.ex Ev2.out)
  clear hv2
  refine (C2.out _).mono ?_; rintro r w2 ⟨rfl, hb2⟩
  have Y2 : Hid (Chg 0 0 v2 w2) := Lib.hid (Chg.of_ex hb2)
  have s2 : v2.heap.size ≤ w2.heap.size := Y2.out.size
  have Ew2 : Hid (Ex w w2) := Lib.hid (Ev2.out.chg Y2.out (by omega))
  clear hb2
  replace KX : Hid (Blk w2 (w.heap.size) 61 [.slice ax.b x.mach.table.buckets.length ax.bc, .slice ax.f x.mach.table.frames.length ax.fc, .slice ax.l x.mach.cache.lines.length ax.lc, .int .i64 x.mach.cache.hand, .int .i64 x.mach.tags.count, .int .i64 x.mach.tags.next, .int .i64 x.mach.tags.round, .slice ax.o x.mach.tags.owns.length ax.oc, .int .i64 x.mach.space, .slice Kx x.marks.length kx, .int .i64 x.hand]) := Lib.hid (KX.out.chg Y2.out (by omega))
  replace KY : Hid (Blk w2 (w.heap.size + 1) 61 [.slice ay.b y.mach.table.buckets.length ay.bc, .slice ay.f y.mach.table.frames.length ay.fc, .slice ay.l y.mach.cache.lines.length ay.lc, .int .i64 y.mach.cache.hand, .int .i64 y.mach.tags.count, .int .i64 y.mach.tags.next, .int .i64 y.mach.tags.round, .slice ay.o y.mach.tags.owns.length ay.oc, .int .i64 y.mach.space, .slice Ky y.marks.length ky, .int .i64 y.hand]) := Lib.hid (KY.out.chg Y2.out (by omega))
  replace DX := Lib.hid (HX.out.ex Ew2.out)
  replace DY := Lib.hid (HY.out.ex Ew2.out)
  obtain ⟨qX0, qX1, qX2, qX3, qX4, qX5, qX6, qX7, qX8, qX9, qX10⟩ := KX.out.c11
  have jX := KX.out.lt
  obtain ⟨qY0, qY1, qY2, qY3, qY4, qY5, qY6, qY7, qY8, qY9, qY10⟩ := KY.out.c11
  have jY := KY.out.lt
  have FK2 : Hid (∀ w', Ex w2 w' → (w'.cell? ⟨w.heap.size, 0, none⟩ = some (.slice ax.b x.mach.table.buckets.length ax.bc) ∧ w'.cell? ⟨w.heap.size, 1, none⟩ = some (.slice ax.f x.mach.table.frames.length ax.fc) ∧ w'.cell? ⟨w.heap.size, 2, none⟩ = some (.slice ax.l x.mach.cache.lines.length ax.lc) ∧ w'.cell? ⟨w.heap.size, 3, none⟩ = some (.int .i64 x.mach.cache.hand) ∧ w'.cell? ⟨w.heap.size, 4, none⟩ = some (.int .i64 x.mach.tags.count) ∧ w'.cell? ⟨w.heap.size, 5, none⟩ = some (.int .i64 x.mach.tags.next) ∧ w'.cell? ⟨w.heap.size, 6, none⟩ = some (.int .i64 x.mach.tags.round) ∧ w'.cell? ⟨w.heap.size, 7, none⟩ = some (.slice ax.o x.mach.tags.owns.length ax.oc) ∧ w'.cell? ⟨w.heap.size, 8, none⟩ = some (.int .i64 x.mach.space) ∧ w'.cell? ⟨w.heap.size, 9, none⟩ = some (.slice Kx x.marks.length kx) ∧ w'.cell? ⟨w.heap.size, 10, none⟩ = some (.int .i64 x.hand) ∧ w'.cell? ⟨w.heap.size + 1, 0, none⟩ = some (.slice ay.b y.mach.table.buckets.length ay.bc) ∧ w'.cell? ⟨w.heap.size + 1, 1, none⟩ = some (.slice ay.f y.mach.table.frames.length ay.fc) ∧ w'.cell? ⟨w.heap.size + 1, 2, none⟩ = some (.slice ay.l y.mach.cache.lines.length ay.lc) ∧ w'.cell? ⟨w.heap.size + 1, 3, none⟩ = some (.int .i64 y.mach.cache.hand) ∧ w'.cell? ⟨w.heap.size + 1, 4, none⟩ = some (.int .i64 y.mach.tags.count) ∧ w'.cell? ⟨w.heap.size + 1, 5, none⟩ = some (.int .i64 y.mach.tags.next) ∧ w'.cell? ⟨w.heap.size + 1, 6, none⟩ = some (.int .i64 y.mach.tags.round) ∧ w'.cell? ⟨w.heap.size + 1, 7, none⟩ = some (.slice ay.o y.mach.tags.owns.length ay.oc) ∧ w'.cell? ⟨w.heap.size + 1, 8, none⟩ = some (.int .i64 y.mach.space) ∧ w'.cell? ⟨w.heap.size + 1, 9, none⟩ = some (.slice Ky y.marks.length ky) ∧ w'.cell? ⟨w.heap.size + 1, 10, none⟩ = some (.int .i64 y.hand))) := Lib.hid (fun w' h => by
    obtain ⟨p0, p1, p2, p3, p4, p5, p6, p7, p8, p9, p10⟩ := (KX.out.ex h).c11
    obtain ⟨q0, q1, q2, q3, q4, q5, q6, q7, q8, q9, q10⟩ := (KY.out.ex h).c11
    exact ⟨p0, p1, p2, p3, p4, p5, p6, p7, p8, p9, p10, q0, q1, q2, q3, q4, q5, q6, q7, q8, q9, q10⟩)
  have CT2x : Hid (∀ w', Ex w2 w' → Calls Try.prog 18 #[.agg #[.slice ax.b x.mach.table.buckets.length ax.bc, .slice ax.f x.mach.table.frames.length ax.fc, .slice ax.l x.mach.cache.lines.length ax.lc, .int .i64 x.mach.cache.hand, .int .i64 x.mach.tags.count, .int .i64 x.mach.tags.next, .int .i64 x.mach.tags.round, .slice ax.o x.mach.tags.owns.length ax.oc, .int .i64 x.mach.space, .slice Kx x.marks.length kx, .int .i64 x.hand]] w' fun r w'' => ∃ a9 K9 k9, r = .returned (.agg #[.slice a9.b x.mach.table.buckets.length a9.bc, .slice a9.f x.mach.table.frames.length a9.fc, .slice a9.l x.mach.cache.lines.length a9.lc, .int .i64 x.mach.cache.hand, .int .i64 x.mach.tags.count, .int .i64 x.mach.tags.next, .int .i64 x.mach.tags.round, .slice a9.o x.mach.tags.owns.length a9.oc, .int .i64 x.mach.space, .slice K9 x.marks.length k9, .int .i64 x.hand]) ∧ FrE w'' w'.heap.size x a9 K9 k9 ∧ Ex w' w'') := Lib.hid (fun w' h => toMemory_c x ax Kx kx w' (DX.out.ex h) HFx.out)
  have CT2y : Hid (∀ w', Ex w2 w' → Calls Try.prog 18 #[.agg #[.slice ay.b y.mach.table.buckets.length ay.bc, .slice ay.f y.mach.table.frames.length ay.fc, .slice ay.l y.mach.cache.lines.length ay.lc, .int .i64 y.mach.cache.hand, .int .i64 y.mach.tags.count, .int .i64 y.mach.tags.next, .int .i64 y.mach.tags.round, .slice ay.o y.mach.tags.owns.length ay.oc, .int .i64 y.mach.space, .slice Ky y.marks.length ky, .int .i64 y.hand]] w' fun r w'' => ∃ a9 K9 k9, r = .returned (.agg #[.slice a9.b y.mach.table.buckets.length a9.bc, .slice a9.f y.mach.table.frames.length a9.fc, .slice a9.l y.mach.cache.lines.length a9.lc, .int .i64 y.mach.cache.hand, .int .i64 y.mach.tags.count, .int .i64 y.mach.tags.next, .int .i64 y.mach.tags.round, .slice a9.o y.mach.tags.owns.length a9.oc, .int .i64 y.mach.space, .slice K9 y.marks.length k9, .int .i64 y.hand]) ∧ FrE w'' w'.heap.size y a9 K9 k9 ∧ Ex w' w'') := Lib.hid (fun w' h => toMemory_c y ay Ky ky w' (DY.out.ex h) HFy.out)
  clear qX0 qX1 qX2 qX3 qX4 qX5 qX6 qX7 qX8 qX9 qX10 jX
  clear qY0 qY1 qY2 qY3 qY4 qY5 qY6 qY7 qY8 qY9 qY10 jY
  go_wp2_with fail
  go_region_held3 (fun w' => (w'.cell? ⟨w.heap.size, 0, none⟩ = some (.slice ax.b x.mach.table.buckets.length ax.bc) ∧ w'.cell? ⟨w.heap.size, 1, none⟩ = some (.slice ax.f x.mach.table.frames.length ax.fc) ∧ w'.cell? ⟨w.heap.size, 2, none⟩ = some (.slice ax.l x.mach.cache.lines.length ax.lc) ∧ w'.cell? ⟨w.heap.size, 3, none⟩ = some (.int .i64 x.mach.cache.hand) ∧ w'.cell? ⟨w.heap.size, 4, none⟩ = some (.int .i64 x.mach.tags.count) ∧ w'.cell? ⟨w.heap.size, 5, none⟩ = some (.int .i64 x.mach.tags.next) ∧ w'.cell? ⟨w.heap.size, 6, none⟩ = some (.int .i64 x.mach.tags.round) ∧ w'.cell? ⟨w.heap.size, 7, none⟩ = some (.slice ax.o x.mach.tags.owns.length ax.oc) ∧ w'.cell? ⟨w.heap.size, 8, none⟩ = some (.int .i64 x.mach.space) ∧ w'.cell? ⟨w.heap.size, 9, none⟩ = some (.slice Kx x.marks.length kx) ∧ w'.cell? ⟨w.heap.size, 10, none⟩ = some (.int .i64 x.hand) ∧ w'.cell? ⟨w.heap.size + 1, 0, none⟩ = some (.slice ay.b y.mach.table.buckets.length ay.bc) ∧ w'.cell? ⟨w.heap.size + 1, 1, none⟩ = some (.slice ay.f y.mach.table.frames.length ay.fc) ∧ w'.cell? ⟨w.heap.size + 1, 2, none⟩ = some (.slice ay.l y.mach.cache.lines.length ay.lc) ∧ w'.cell? ⟨w.heap.size + 1, 3, none⟩ = some (.int .i64 y.mach.cache.hand) ∧ w'.cell? ⟨w.heap.size + 1, 4, none⟩ = some (.int .i64 y.mach.tags.count) ∧ w'.cell? ⟨w.heap.size + 1, 5, none⟩ = some (.int .i64 y.mach.tags.next) ∧ w'.cell? ⟨w.heap.size + 1, 6, none⟩ = some (.int .i64 y.mach.tags.round) ∧ w'.cell? ⟨w.heap.size + 1, 7, none⟩ = some (.slice ay.o y.mach.tags.owns.length ay.oc) ∧ w'.cell? ⟨w.heap.size + 1, 8, none⟩ = some (.int .i64 y.mach.space) ∧ w'.cell? ⟨w.heap.size + 1, 9, none⟩ = some (.slice Ky y.marks.length ky) ∧ w'.cell? ⟨w.heap.size + 1, 10, none⟩ = some (.int .i64 y.hand))) ((refine FK2.out _ ?_; with_reducible (first | exact Ex.refl _ | exact (Ex.refl _).drew | exact hE3 | exact hE4 | exact hE5))) (first | (go_at_call 18; (with_reducible refine (CT2x.out _ ?_).mono ?_); (with_reducible exact (Ex.refl _).drew); rintro r w3 ⟨a3, K3, k3, rfl, hf3, hb3⟩; have hE3 := Ex.trans (Ex.refl _).drew hb3) | (go_at_call 18; (with_reducible refine (CT2y.out _ ?_).mono ?_); (with_reducible exact hE3); rintro r w4 ⟨a4, K4, k4, rfl, hf4, hb4⟩; have hE4 := Ex.trans hE3 hb4) | (go_at_call 17; (with_reducible refine (CS.out _ _ _ _ _ _ _ ?_ ?_).mono ?_); (exact (hf3.ex hb4).has); (exact hf4.has); rintro r w5 ⟨rfl, hb5⟩; have hE5 := Ex.trans hE4 hb5))
  rename_i hHeld
  clear hHeld
  have Y5 : Hid (Chg 0 0 w2 w5) := Lib.hid (Chg.of_ex hE5)
  clear hb3 hb4 hb5 hf3 hf4 hE3 hE4 hE5 FK2 CT2x CT2y CS
  have s5 : w2.heap.size ≤ w5.heap.size := Y5.out.size
  have Ew5 : Hid (Ex w w5) := Lib.hid (Ew2.out.chg Y5.out (by omega))
  replace KX : Hid (Blk w5 (w.heap.size) 61 [.slice ax.b x.mach.table.buckets.length ax.bc, .slice ax.f x.mach.table.frames.length ax.fc, .slice ax.l x.mach.cache.lines.length ax.lc, .int .i64 x.mach.cache.hand, .int .i64 x.mach.tags.count, .int .i64 x.mach.tags.next, .int .i64 x.mach.tags.round, .slice ax.o x.mach.tags.owns.length ax.oc, .int .i64 x.mach.space, .slice Kx x.marks.length kx, .int .i64 x.hand]) := Lib.hid (KX.out.chg Y5.out (by omega))
  replace KY : Hid (Blk w5 (w.heap.size + 1) 61 [.slice ay.b y.mach.table.buckets.length ay.bc, .slice ay.f y.mach.table.frames.length ay.fc, .slice ay.l y.mach.cache.lines.length ay.lc, .int .i64 y.mach.cache.hand, .int .i64 y.mach.tags.count, .int .i64 y.mach.tags.next, .int .i64 y.mach.tags.round, .slice ay.o y.mach.tags.owns.length ay.oc, .int .i64 y.mach.space, .slice Ky y.marks.length ky, .int .i64 y.hand]) := Lib.hid (KY.out.chg Y5.out (by omega))
  replace DX := Lib.hid (HX.out.ex Ew5.out)
  replace DY := Lib.hid (HY.out.ex Ew5.out)
  obtain ⟨qX0, qX1, qX2, qX3, qX4, qX5, qX6, qX7, qX8, qX9, qX10⟩ := KX.out.c11
  have jX := KX.out.lt
  obtain ⟨qY0, qY1, qY2, qY3, qY4, qY5, qY6, qY7, qY8, qY9, qY10⟩ := KY.out.c11
  have jY := KY.out.lt
  go_wp2_with fail
  refine name_calls ?_; intro v6 hv6
  have X6 : Hid (Chg (0) (0) w5 v6) := Lib.hid (by rw [hv6]; repeat' (first | with_reducible exact Chg.refl _ _ _ | with_reducible refine Chg.alloc ?_ _ | with_reducible refine Chg.drew ?_ | with_reducible refine Chg.set ?_ (by omega) _))
  have t6 : w5.heap.size ≤ v6.heap.size := X6.out.size
  have Ev6 : Hid (Ex w v6) := Lib.hid (Ew5.out.chg X6.out (by omega))
  clear qX0 qX1 qX2 qX3 qX4 qX5 qX6 qX7 qX8 qX9 qX10 jX
  clear qY0 qY1 qY2 qY3 qY4 qY5 qY6 qY7 qY8 qY9 qY10 jY
  replace KX : Hid (Blk v6 (w.heap.size) 61 [.slice ax.b x.mach.table.buckets.length ax.bc, .slice ax.f x.mach.table.frames.length ax.fc, .slice ax.l x.mach.cache.lines.length ax.lc, .int .i64 x.mach.cache.hand, .int .i64 x.mach.tags.count, .int .i64 x.mach.tags.next, .int .i64 x.mach.tags.round, .slice ax.o x.mach.tags.owns.length ax.oc, .int .i64 x.mach.space, .slice Kx x.marks.length kx, .int .i64 x.hand]) := Lib.hid (KX.out.chg X6.out (by omega))
  replace KY : Hid (Blk v6 (w.heap.size + 1) 61 [.slice ay.b y.mach.table.buckets.length ay.bc, .slice ay.f y.mach.table.frames.length ay.fc, .slice ay.l y.mach.cache.lines.length ay.lc, .int .i64 y.mach.cache.hand, .int .i64 y.mach.tags.count, .int .i64 y.mach.tags.next, .int .i64 y.mach.tags.round, .slice ay.o y.mach.tags.owns.length ay.oc, .int .i64 y.mach.space, .slice Ky y.marks.length ky, .int .i64 y.hand]) := Lib.hid (KY.out.chg X6.out (by omega))
  replace DX := Lib.hid (HX.out.ex Ev6.out)
  replace DY := Lib.hid (HY.out.ex Ev6.out)
  clear hv6
  refine (toMemory_c x ax Kx kx _ DX.out HFx.out).mono ?_; rintro r w6 ⟨a6, K6, k6, rfl, hhf6, hb6⟩
  have Y6 : Hid (Chg 0 0 v6 w6) := Lib.hid (Chg.of_ex hb6)
  have s6 : v6.heap.size ≤ w6.heap.size := Y6.out.size
  have Ew6 : Hid (Ex w w6) := Lib.hid (Ev6.out.chg Y6.out (by omega))
  clear hb6
  replace KX : Hid (Blk w6 (w.heap.size) 61 [.slice ax.b x.mach.table.buckets.length ax.bc, .slice ax.f x.mach.table.frames.length ax.fc, .slice ax.l x.mach.cache.lines.length ax.lc, .int .i64 x.mach.cache.hand, .int .i64 x.mach.tags.count, .int .i64 x.mach.tags.next, .int .i64 x.mach.tags.round, .slice ax.o x.mach.tags.owns.length ax.oc, .int .i64 x.mach.space, .slice Kx x.marks.length kx, .int .i64 x.hand]) := Lib.hid (KX.out.chg Y6.out (by omega))
  replace KY : Hid (Blk w6 (w.heap.size + 1) 61 [.slice ay.b y.mach.table.buckets.length ay.bc, .slice ay.f y.mach.table.frames.length ay.fc, .slice ay.l y.mach.cache.lines.length ay.lc, .int .i64 y.mach.cache.hand, .int .i64 y.mach.tags.count, .int .i64 y.mach.tags.next, .int .i64 y.mach.tags.round, .slice ay.o y.mach.tags.owns.length ay.oc, .int .i64 y.mach.space, .slice Ky y.marks.length ky, .int .i64 y.hand]) := Lib.hid (KY.out.chg Y6.out (by omega))
  replace DX := Lib.hid (HX.out.ex Ew6.out)
  replace DY := Lib.hid (HY.out.ex Ew6.out)
  have HHF6 := Lib.hid hhf6; clear hhf6
  obtain ⟨qX0, qX1, qX2, qX3, qX4, qX5, qX6, qX7, qX8, qX9, qX10⟩ := KX.out.c11
  have jX := KX.out.lt
  obtain ⟨qY0, qY1, qY2, qY3, qY4, qY5, qY6, qY7, qY8, qY9, qY10⟩ := KY.out.c11
  have jY := KY.out.lt
  go_wp2_with fail
  refine name_calls ?_; intro v7 hv7
  have X7 : Hid (Chg (0) (0) w6 v7) := Lib.hid (by rw [hv7]; repeat' (first | with_reducible exact Chg.refl _ _ _ | with_reducible refine Chg.alloc ?_ _ | with_reducible refine Chg.drew ?_ | with_reducible refine Chg.set ?_ (by omega) _))
  have t7 : w6.heap.size ≤ v7.heap.size := X7.out.size
  have Ev7 : Hid (Ex w v7) := Lib.hid (Ew6.out.chg X7.out (by omega))
  clear qX0 qX1 qX2 qX3 qX4 qX5 qX6 qX7 qX8 qX9 qX10 jX
  clear qY0 qY1 qY2 qY3 qY4 qY5 qY6 qY7 qY8 qY9 qY10 jY
  replace KX : Hid (Blk v7 (w.heap.size) 61 [.slice ax.b x.mach.table.buckets.length ax.bc, .slice ax.f x.mach.table.frames.length ax.fc, .slice ax.l x.mach.cache.lines.length ax.lc, .int .i64 x.mach.cache.hand, .int .i64 x.mach.tags.count, .int .i64 x.mach.tags.next, .int .i64 x.mach.tags.round, .slice ax.o x.mach.tags.owns.length ax.oc, .int .i64 x.mach.space, .slice Kx x.marks.length kx, .int .i64 x.hand]) := Lib.hid (KX.out.chg X7.out (by omega))
  replace KY : Hid (Blk v7 (w.heap.size + 1) 61 [.slice ay.b y.mach.table.buckets.length ay.bc, .slice ay.f y.mach.table.frames.length ay.fc, .slice ay.l y.mach.cache.lines.length ay.lc, .int .i64 y.mach.cache.hand, .int .i64 y.mach.tags.count, .int .i64 y.mach.tags.next, .int .i64 y.mach.tags.round, .slice ay.o y.mach.tags.owns.length ay.oc, .int .i64 y.mach.space, .slice Ky y.marks.length ky, .int .i64 y.hand]) := Lib.hid (KY.out.chg X7.out (by omega))
  have KG : Hid (Blk v7 (w6.heap.size) 65 [.slice a6.b x.mach.table.buckets.length a6.bc, .slice a6.f x.mach.table.frames.length a6.fc, .slice a6.l x.mach.cache.lines.length a6.lc, .int .i64 x.mach.cache.hand, .int .i64 x.mach.tags.count, .int .i64 x.mach.tags.next, .int .i64 x.mach.tags.round, .slice a6.o x.mach.tags.owns.length a6.oc, .int .i64 x.mach.space, .slice K6 x.marks.length k6, .int .i64 x.hand]) := Lib.hid (by rw [hv7]; repeat' (first | with_reducible exact Blk.new_at _ _ _ (by simp) | with_reducible refine Blk.alloc ?_ _ | with_reducible refine Blk.drew ?_ | with_reducible refine Blk.far ?_ (by simp; omega) _))
  have lG : w6.heap.size < v7.heap.size := KG.out.lt
  replace DX := Lib.hid (HX.out.ex Ev7.out)
  replace DY := Lib.hid (HY.out.ex Ev7.out)
  clear hv7
  refine (toMemory_c y ay Ky ky _ DY.out HFy.out).mono ?_; rintro r w7 ⟨a7, K7, k7, rfl, hhf7, hb7⟩
  have Y7 : Hid (Chg 0 0 v7 w7) := Lib.hid (Chg.of_ex hb7)
  have s7 : v7.heap.size ≤ w7.heap.size := Y7.out.size
  have Ew7 : Hid (Ex w w7) := Lib.hid (Ev7.out.chg Y7.out (by omega))
  clear hb7
  replace KX : Hid (Blk w7 (w.heap.size) 61 [.slice ax.b x.mach.table.buckets.length ax.bc, .slice ax.f x.mach.table.frames.length ax.fc, .slice ax.l x.mach.cache.lines.length ax.lc, .int .i64 x.mach.cache.hand, .int .i64 x.mach.tags.count, .int .i64 x.mach.tags.next, .int .i64 x.mach.tags.round, .slice ax.o x.mach.tags.owns.length ax.oc, .int .i64 x.mach.space, .slice Kx x.marks.length kx, .int .i64 x.hand]) := Lib.hid (KX.out.chg Y7.out (by omega))
  replace KY : Hid (Blk w7 (w.heap.size + 1) 61 [.slice ay.b y.mach.table.buckets.length ay.bc, .slice ay.f y.mach.table.frames.length ay.fc, .slice ay.l y.mach.cache.lines.length ay.lc, .int .i64 y.mach.cache.hand, .int .i64 y.mach.tags.count, .int .i64 y.mach.tags.next, .int .i64 y.mach.tags.round, .slice ay.o y.mach.tags.owns.length ay.oc, .int .i64 y.mach.space, .slice Ky y.marks.length ky, .int .i64 y.hand]) := Lib.hid (KY.out.chg Y7.out (by omega))
  replace KG : Hid (Blk w7 (w6.heap.size) 65 [.slice a6.b x.mach.table.buckets.length a6.bc, .slice a6.f x.mach.table.frames.length a6.fc, .slice a6.l x.mach.cache.lines.length a6.lc, .int .i64 x.mach.cache.hand, .int .i64 x.mach.tags.count, .int .i64 x.mach.tags.next, .int .i64 x.mach.tags.round, .slice a6.o x.mach.tags.owns.length a6.oc, .int .i64 x.mach.space, .slice K6 x.marks.length k6, .int .i64 x.hand]) := Lib.hid (KG.out.chg Y7.out (by omega))
  replace DX := Lib.hid (HX.out.ex Ew7.out)
  replace DY := Lib.hid (HY.out.ex Ew7.out)
  have HHF7 := Lib.hid hhf7; clear hhf7
  obtain ⟨qX0, qX1, qX2, qX3, qX4, qX5, qX6, qX7, qX8, qX9, qX10⟩ := KX.out.c11
  have jX := KX.out.lt
  obtain ⟨qY0, qY1, qY2, qY3, qY4, qY5, qY6, qY7, qY8, qY9, qY10⟩ := KY.out.c11
  have jY := KY.out.lt
  obtain ⟨qG0, qG1, qG2, qG3, qG4, qG5, qG6, qG7, qG8, qG9, qG10⟩ := KG.out.c11
  have jG := KG.out.lt
  have HG7 : Hid (HasE w7 x a6 K6) := Lib.hid ((HHF6.out.has.ex X7.out.ex_).ex Y7.out.ex_)
  go_wp2_with fail
  refine name_calls ?_; intro v8 hv8
  have X8 : Hid (Chg (0) (0) w7 v8) := Lib.hid (by rw [hv8]; repeat' (first | with_reducible exact Chg.refl _ _ _ | with_reducible refine Chg.alloc ?_ _ | with_reducible refine Chg.drew ?_ | with_reducible refine Chg.set ?_ (by omega) _))
  have t8 : w7.heap.size ≤ v8.heap.size := X8.out.size
  have Ev8 : Hid (Ex w v8) := Lib.hid (Ew7.out.chg X8.out (by omega))
  clear qX0 qX1 qX2 qX3 qX4 qX5 qX6 qX7 qX8 qX9 qX10 jX
  clear qY0 qY1 qY2 qY3 qY4 qY5 qY6 qY7 qY8 qY9 qY10 jY
  clear qG0 qG1 qG2 qG3 qG4 qG5 qG6 qG7 qG8 qG9 qG10 jG
  replace KX : Hid (Blk v8 (w.heap.size) 61 [.slice ax.b x.mach.table.buckets.length ax.bc, .slice ax.f x.mach.table.frames.length ax.fc, .slice ax.l x.mach.cache.lines.length ax.lc, .int .i64 x.mach.cache.hand, .int .i64 x.mach.tags.count, .int .i64 x.mach.tags.next, .int .i64 x.mach.tags.round, .slice ax.o x.mach.tags.owns.length ax.oc, .int .i64 x.mach.space, .slice Kx x.marks.length kx, .int .i64 x.hand]) := Lib.hid (KX.out.chg X8.out (by omega))
  replace KY : Hid (Blk v8 (w.heap.size + 1) 61 [.slice ay.b y.mach.table.buckets.length ay.bc, .slice ay.f y.mach.table.frames.length ay.fc, .slice ay.l y.mach.cache.lines.length ay.lc, .int .i64 y.mach.cache.hand, .int .i64 y.mach.tags.count, .int .i64 y.mach.tags.next, .int .i64 y.mach.tags.round, .slice ay.o y.mach.tags.owns.length ay.oc, .int .i64 y.mach.space, .slice Ky y.marks.length ky, .int .i64 y.hand]) := Lib.hid (KY.out.chg X8.out (by omega))
  replace KG : Hid (Blk v8 (w6.heap.size) 65 [.slice a6.b x.mach.table.buckets.length a6.bc, .slice a6.f x.mach.table.frames.length a6.fc, .slice a6.l x.mach.cache.lines.length a6.lc, .int .i64 x.mach.cache.hand, .int .i64 x.mach.tags.count, .int .i64 x.mach.tags.next, .int .i64 x.mach.tags.round, .slice a6.o x.mach.tags.owns.length a6.oc, .int .i64 x.mach.space, .slice K6 x.marks.length k6, .int .i64 x.hand]) := Lib.hid (KG.out.chg X8.out (by omega))
  have KH : Hid (Blk v8 (w7.heap.size) 65 [.slice a7.b y.mach.table.buckets.length a7.bc, .slice a7.f y.mach.table.frames.length a7.fc, .slice a7.l y.mach.cache.lines.length a7.lc, .int .i64 y.mach.cache.hand, .int .i64 y.mach.tags.count, .int .i64 y.mach.tags.next, .int .i64 y.mach.tags.round, .slice a7.o y.mach.tags.owns.length a7.oc, .int .i64 y.mach.space, .slice K7 y.marks.length k7, .int .i64 y.hand]) := Lib.hid (by rw [hv8]; repeat' (first | with_reducible exact Blk.new_at _ _ _ (by simp) | with_reducible refine Blk.alloc ?_ _ | with_reducible refine Blk.drew ?_ | with_reducible refine Blk.far ?_ (by simp; omega) _))
  have lH : w7.heap.size < v8.heap.size := KH.out.lt
  replace DX := Lib.hid (HX.out.ex Ev8.out)
  replace DY := Lib.hid (HY.out.ex Ev8.out)
  clear hv8
  refine (CI.out _ _ _ _ _ _ _ (HG7.out.ex X8.out.ex_) (HHF7.out.has.ex X8.out.ex_)).mono ?_; rintro r w8 ⟨rfl, hb8⟩
  have Y8 : Hid (Chg 0 0 v8 w8) := Lib.hid (Chg.of_ex hb8)
  have s8 : v8.heap.size ≤ w8.heap.size := Y8.out.size
  have Ew8 : Hid (Ex w w8) := Lib.hid (Ev8.out.chg Y8.out (by omega))
  clear hb8
  replace KX : Hid (Blk w8 (w.heap.size) 61 [.slice ax.b x.mach.table.buckets.length ax.bc, .slice ax.f x.mach.table.frames.length ax.fc, .slice ax.l x.mach.cache.lines.length ax.lc, .int .i64 x.mach.cache.hand, .int .i64 x.mach.tags.count, .int .i64 x.mach.tags.next, .int .i64 x.mach.tags.round, .slice ax.o x.mach.tags.owns.length ax.oc, .int .i64 x.mach.space, .slice Kx x.marks.length kx, .int .i64 x.hand]) := Lib.hid (KX.out.chg Y8.out (by omega))
  replace KY : Hid (Blk w8 (w.heap.size + 1) 61 [.slice ay.b y.mach.table.buckets.length ay.bc, .slice ay.f y.mach.table.frames.length ay.fc, .slice ay.l y.mach.cache.lines.length ay.lc, .int .i64 y.mach.cache.hand, .int .i64 y.mach.tags.count, .int .i64 y.mach.tags.next, .int .i64 y.mach.tags.round, .slice ay.o y.mach.tags.owns.length ay.oc, .int .i64 y.mach.space, .slice Ky y.marks.length ky, .int .i64 y.hand]) := Lib.hid (KY.out.chg Y8.out (by omega))
  replace KG : Hid (Blk w8 (w6.heap.size) 65 [.slice a6.b x.mach.table.buckets.length a6.bc, .slice a6.f x.mach.table.frames.length a6.fc, .slice a6.l x.mach.cache.lines.length a6.lc, .int .i64 x.mach.cache.hand, .int .i64 x.mach.tags.count, .int .i64 x.mach.tags.next, .int .i64 x.mach.tags.round, .slice a6.o x.mach.tags.owns.length a6.oc, .int .i64 x.mach.space, .slice K6 x.marks.length k6, .int .i64 x.hand]) := Lib.hid (KG.out.chg Y8.out (by omega))
  replace KH : Hid (Blk w8 (w7.heap.size) 65 [.slice a7.b y.mach.table.buckets.length a7.bc, .slice a7.f y.mach.table.frames.length a7.fc, .slice a7.l y.mach.cache.lines.length a7.lc, .int .i64 y.mach.cache.hand, .int .i64 y.mach.tags.count, .int .i64 y.mach.tags.next, .int .i64 y.mach.tags.round, .slice a7.o y.mach.tags.owns.length a7.oc, .int .i64 y.mach.space, .slice K7 y.marks.length k7, .int .i64 y.hand]) := Lib.hid (KH.out.chg Y8.out (by omega))
  replace DX := Lib.hid (HX.out.ex Ew8.out)
  replace DY := Lib.hid (HY.out.ex Ew8.out)
  obtain ⟨qX0, qX1, qX2, qX3, qX4, qX5, qX6, qX7, qX8, qX9, qX10⟩ := KX.out.c11
  have jX := KX.out.lt
  obtain ⟨qY0, qY1, qY2, qY3, qY4, qY5, qY6, qY7, qY8, qY9, qY10⟩ := KY.out.c11
  have jY := KY.out.lt
  obtain ⟨qG0, qG1, qG2, qG3, qG4, qG5, qG6, qG7, qG8, qG9, qG10⟩ := KG.out.c11
  have jG := KG.out.lt
  obtain ⟨qH0, qH1, qH2, qH3, qH4, qH5, qH6, qH7, qH8, qH9, qH10⟩ := KH.out.c11
  have jH := KH.out.lt
  have HG8 : Hid (HasE w8 x a6 K6) := Lib.hid ((HG7.out.ex X8.out.ex_).ex Y8.out.ex_)
  have HH8 : Hid (HasE w8 y a7 K7) := Lib.hid ((HHF7.out.has.ex X8.out.ex_).ex Y8.out.ex_)
  obtain ⟨gG, hgG⟩ : ∃ g, g = w6.heap.size := ⟨_, rfl⟩
  obtain ⟨gH, hgH⟩ : ∃ g, g = w7.heap.size := ⟨_, rfl⟩
  rw [← hgG] at KG qG0 qG1 qG2 qG3 qG4 qG5 qG6 qG7 qG8 qG9 qG10 jG ⊢
  rw [← hgH] at KH qH0 qH1 qH2 qH3 qH4 qH5 qH6 qH7 qH8 qH9 qH10 jH ⊢
  clear hgG hgH
  have FK9 : Hid (∀ w', Ex w8 w' → (w'.cell? ⟨gG, 0, none⟩ = some (.slice a6.b x.mach.table.buckets.length a6.bc) ∧ w'.cell? ⟨gG, 1, none⟩ = some (.slice a6.f x.mach.table.frames.length a6.fc) ∧ w'.cell? ⟨gG, 2, none⟩ = some (.slice a6.l x.mach.cache.lines.length a6.lc) ∧ w'.cell? ⟨gG, 3, none⟩ = some (.int .i64 x.mach.cache.hand) ∧ w'.cell? ⟨gG, 4, none⟩ = some (.int .i64 x.mach.tags.count) ∧ w'.cell? ⟨gG, 5, none⟩ = some (.int .i64 x.mach.tags.next) ∧ w'.cell? ⟨gG, 6, none⟩ = some (.int .i64 x.mach.tags.round) ∧ w'.cell? ⟨gG, 7, none⟩ = some (.slice a6.o x.mach.tags.owns.length a6.oc) ∧ w'.cell? ⟨gG, 8, none⟩ = some (.int .i64 x.mach.space) ∧ w'.cell? ⟨gG, 9, none⟩ = some (.slice K6 x.marks.length k6) ∧ w'.cell? ⟨gG, 10, none⟩ = some (.int .i64 x.hand) ∧ w'.cell? ⟨w.heap.size, 0, none⟩ = some (.slice ax.b x.mach.table.buckets.length ax.bc) ∧ w'.cell? ⟨w.heap.size, 1, none⟩ = some (.slice ax.f x.mach.table.frames.length ax.fc) ∧ w'.cell? ⟨w.heap.size, 2, none⟩ = some (.slice ax.l x.mach.cache.lines.length ax.lc) ∧ w'.cell? ⟨w.heap.size, 3, none⟩ = some (.int .i64 x.mach.cache.hand) ∧ w'.cell? ⟨w.heap.size, 4, none⟩ = some (.int .i64 x.mach.tags.count) ∧ w'.cell? ⟨w.heap.size, 5, none⟩ = some (.int .i64 x.mach.tags.next) ∧ w'.cell? ⟨w.heap.size, 6, none⟩ = some (.int .i64 x.mach.tags.round) ∧ w'.cell? ⟨w.heap.size, 7, none⟩ = some (.slice ax.o x.mach.tags.owns.length ax.oc) ∧ w'.cell? ⟨w.heap.size, 8, none⟩ = some (.int .i64 x.mach.space) ∧ w'.cell? ⟨w.heap.size, 9, none⟩ = some (.slice Kx x.marks.length kx) ∧ w'.cell? ⟨w.heap.size, 10, none⟩ = some (.int .i64 x.hand))) := Lib.hid (fun w' h => by
    obtain ⟨p0, p1, p2, p3, p4, p5, p6, p7, p8, p9, p10⟩ := (KG.out.ex h).c11
    obtain ⟨q0, q1, q2, q3, q4, q5, q6, q7, q8, q9, q10⟩ := (KX.out.ex h).c11
    exact ⟨p0, p1, p2, p3, p4, p5, p6, p7, p8, p9, p10, q0, q1, q2, q3, q4, q5, q6, q7, q8, q9, q10⟩)
  have CT9 : Hid (∀ w', Ex w8 w' → Calls Try.prog 18 #[.agg #[.slice ax.b x.mach.table.buckets.length ax.bc, .slice ax.f x.mach.table.frames.length ax.fc, .slice ax.l x.mach.cache.lines.length ax.lc, .int .i64 x.mach.cache.hand, .int .i64 x.mach.tags.count, .int .i64 x.mach.tags.next, .int .i64 x.mach.tags.round, .slice ax.o x.mach.tags.owns.length ax.oc, .int .i64 x.mach.space, .slice Kx x.marks.length kx, .int .i64 x.hand]] w' fun r w'' => ∃ a9 K9 k9, r = .returned (.agg #[.slice a9.b x.mach.table.buckets.length a9.bc, .slice a9.f x.mach.table.frames.length a9.fc, .slice a9.l x.mach.cache.lines.length a9.lc, .int .i64 x.mach.cache.hand, .int .i64 x.mach.tags.count, .int .i64 x.mach.tags.next, .int .i64 x.mach.tags.round, .slice a9.o x.mach.tags.owns.length a9.oc, .int .i64 x.mach.space, .slice K9 x.marks.length k9, .int .i64 x.hand]) ∧ FrE w'' w'.heap.size x a9 K9 k9 ∧ Ex w' w'') := Lib.hid (fun w' h => toMemory_c x ax Kx kx w' (DX.out.ex h) HFx.out)
  have CQ9 : Hid (∀ (a9 : MA) (K9 : Option Addr) (k9 : Nat) w', Ex w8 w' → HasE w' x a9 K9 → Calls Try.prog 20 #[.agg #[.slice a6.b x.mach.table.buckets.length a6.bc, .slice a6.f x.mach.table.frames.length a6.fc, .slice a6.l x.mach.cache.lines.length a6.lc, .int .i64 x.mach.cache.hand, .int .i64 x.mach.tags.count, .int .i64 x.mach.tags.next, .int .i64 x.mach.tags.round, .slice a6.o x.mach.tags.owns.length a6.oc, .int .i64 x.mach.space, .slice K6 x.marks.length k6, .int .i64 x.hand], .agg #[.slice a9.b x.mach.table.buckets.length a9.bc, .slice a9.f x.mach.table.frames.length a9.fc, .slice a9.l x.mach.cache.lines.length a9.lc, .int .i64 x.mach.cache.hand, .int .i64 x.mach.tags.count, .int .i64 x.mach.tags.next, .int .i64 x.mach.tags.round, .slice a9.o x.mach.tags.owns.length a9.oc, .int .i64 x.mach.space, .slice K9 x.marks.length k9, .int .i64 x.hand]] w' fun r w'' => r = .returned (.bool true) ∧ Ex w' w'') := Lib.hid (fun a9 K9 k9 w' h1 h2 => eqMemory_self_c x a6 a9 K6 K9 k6 k9 w' (HG8.out.ex h1) h2 HFx.out)
  clear qX0 qX1 qX2 qX3 qX4 qX5 qX6 qX7 qX8 qX9 qX10 jX
  clear qY0 qY1 qY2 qY3 qY4 qY5 qY6 qY7 qY8 qY9 qY10 jY
  clear qG0 qG1 qG2 qG3 qG4 qG5 qG6 qG7 qG8 qG9 qG10 jG
  clear qH0 qH1 qH2 qH3 qH4 qH5 qH6 qH7 qH8 qH9 qH10 jH
  go_wp2_with fail
  go_region_held3 (fun w' => (w'.cell? ⟨gG, 0, none⟩ = some (.slice a6.b x.mach.table.buckets.length a6.bc) ∧ w'.cell? ⟨gG, 1, none⟩ = some (.slice a6.f x.mach.table.frames.length a6.fc) ∧ w'.cell? ⟨gG, 2, none⟩ = some (.slice a6.l x.mach.cache.lines.length a6.lc) ∧ w'.cell? ⟨gG, 3, none⟩ = some (.int .i64 x.mach.cache.hand) ∧ w'.cell? ⟨gG, 4, none⟩ = some (.int .i64 x.mach.tags.count) ∧ w'.cell? ⟨gG, 5, none⟩ = some (.int .i64 x.mach.tags.next) ∧ w'.cell? ⟨gG, 6, none⟩ = some (.int .i64 x.mach.tags.round) ∧ w'.cell? ⟨gG, 7, none⟩ = some (.slice a6.o x.mach.tags.owns.length a6.oc) ∧ w'.cell? ⟨gG, 8, none⟩ = some (.int .i64 x.mach.space) ∧ w'.cell? ⟨gG, 9, none⟩ = some (.slice K6 x.marks.length k6) ∧ w'.cell? ⟨gG, 10, none⟩ = some (.int .i64 x.hand) ∧ w'.cell? ⟨w.heap.size, 0, none⟩ = some (.slice ax.b x.mach.table.buckets.length ax.bc) ∧ w'.cell? ⟨w.heap.size, 1, none⟩ = some (.slice ax.f x.mach.table.frames.length ax.fc) ∧ w'.cell? ⟨w.heap.size, 2, none⟩ = some (.slice ax.l x.mach.cache.lines.length ax.lc) ∧ w'.cell? ⟨w.heap.size, 3, none⟩ = some (.int .i64 x.mach.cache.hand) ∧ w'.cell? ⟨w.heap.size, 4, none⟩ = some (.int .i64 x.mach.tags.count) ∧ w'.cell? ⟨w.heap.size, 5, none⟩ = some (.int .i64 x.mach.tags.next) ∧ w'.cell? ⟨w.heap.size, 6, none⟩ = some (.int .i64 x.mach.tags.round) ∧ w'.cell? ⟨w.heap.size, 7, none⟩ = some (.slice ax.o x.mach.tags.owns.length ax.oc) ∧ w'.cell? ⟨w.heap.size, 8, none⟩ = some (.int .i64 x.mach.space) ∧ w'.cell? ⟨w.heap.size, 9, none⟩ = some (.slice Kx x.marks.length kx) ∧ w'.cell? ⟨w.heap.size, 10, none⟩ = some (.int .i64 x.hand))) ((refine FK9.out _ ?_; with_reducible (first | exact Ex.refl _ | exact (Ex.refl _).drew | exact hE9a | exact hE9))) (first | (go_at_call 18; (with_reducible refine (CT9.out _ ?_).mono ?_); (with_reducible exact (Ex.refl _).drew); rintro r w9a ⟨a9, K9, k9, rfl, hf9, hb9a⟩; have hE9a := Ex.trans (Ex.refl _).drew hb9a) | (go_at_call 20; (with_reducible refine (CQ9.out _ _ _ _ ?_ ?_).mono ?_); (with_reducible exact hE9a); (exact hf9.has); rintro r w9 ⟨rfl, hb9⟩; have hE9 := Ex.trans hE9a hb9))
  rename_i hHeld
  clear hHeld
  have Y9 : Hid (Chg 0 0 w8 w9) := Lib.hid (Chg.of_ex hE9)
  clear hb9a hb9 hf9 hE9a hE9 FK9 CT9 CQ9
  have s9 : w8.heap.size ≤ w9.heap.size := Y9.out.size
  have Ew9 : Hid (Ex w w9) := Lib.hid (Ew8.out.chg Y9.out (by omega))
  replace KX : Hid (Blk w9 (w.heap.size) 61 [.slice ax.b x.mach.table.buckets.length ax.bc, .slice ax.f x.mach.table.frames.length ax.fc, .slice ax.l x.mach.cache.lines.length ax.lc, .int .i64 x.mach.cache.hand, .int .i64 x.mach.tags.count, .int .i64 x.mach.tags.next, .int .i64 x.mach.tags.round, .slice ax.o x.mach.tags.owns.length ax.oc, .int .i64 x.mach.space, .slice Kx x.marks.length kx, .int .i64 x.hand]) := Lib.hid (KX.out.chg Y9.out (by omega))
  replace KY : Hid (Blk w9 (w.heap.size + 1) 61 [.slice ay.b y.mach.table.buckets.length ay.bc, .slice ay.f y.mach.table.frames.length ay.fc, .slice ay.l y.mach.cache.lines.length ay.lc, .int .i64 y.mach.cache.hand, .int .i64 y.mach.tags.count, .int .i64 y.mach.tags.next, .int .i64 y.mach.tags.round, .slice ay.o y.mach.tags.owns.length ay.oc, .int .i64 y.mach.space, .slice Ky y.marks.length ky, .int .i64 y.hand]) := Lib.hid (KY.out.chg Y9.out (by omega))
  replace KG : Hid (Blk w9 (gG) 65 [.slice a6.b x.mach.table.buckets.length a6.bc, .slice a6.f x.mach.table.frames.length a6.fc, .slice a6.l x.mach.cache.lines.length a6.lc, .int .i64 x.mach.cache.hand, .int .i64 x.mach.tags.count, .int .i64 x.mach.tags.next, .int .i64 x.mach.tags.round, .slice a6.o x.mach.tags.owns.length a6.oc, .int .i64 x.mach.space, .slice K6 x.marks.length k6, .int .i64 x.hand]) := Lib.hid (KG.out.chg Y9.out (by omega))
  replace KH : Hid (Blk w9 (gH) 65 [.slice a7.b y.mach.table.buckets.length a7.bc, .slice a7.f y.mach.table.frames.length a7.fc, .slice a7.l y.mach.cache.lines.length a7.lc, .int .i64 y.mach.cache.hand, .int .i64 y.mach.tags.count, .int .i64 y.mach.tags.next, .int .i64 y.mach.tags.round, .slice a7.o y.mach.tags.owns.length a7.oc, .int .i64 y.mach.space, .slice K7 y.marks.length k7, .int .i64 y.hand]) := Lib.hid (KH.out.chg Y9.out (by omega))
  replace DX := Lib.hid (HX.out.ex Ew9.out)
  replace DY := Lib.hid (HY.out.ex Ew9.out)
  have HH9 : Hid (HasE w9 y a7 K7) := Lib.hid (HH8.out.ex Y9.out.ex_)
  have FK10 : Hid (∀ w', Ex w9 w' → (w'.cell? ⟨gH, 0, none⟩ = some (.slice a7.b y.mach.table.buckets.length a7.bc) ∧ w'.cell? ⟨gH, 1, none⟩ = some (.slice a7.f y.mach.table.frames.length a7.fc) ∧ w'.cell? ⟨gH, 2, none⟩ = some (.slice a7.l y.mach.cache.lines.length a7.lc) ∧ w'.cell? ⟨gH, 3, none⟩ = some (.int .i64 y.mach.cache.hand) ∧ w'.cell? ⟨gH, 4, none⟩ = some (.int .i64 y.mach.tags.count) ∧ w'.cell? ⟨gH, 5, none⟩ = some (.int .i64 y.mach.tags.next) ∧ w'.cell? ⟨gH, 6, none⟩ = some (.int .i64 y.mach.tags.round) ∧ w'.cell? ⟨gH, 7, none⟩ = some (.slice a7.o y.mach.tags.owns.length a7.oc) ∧ w'.cell? ⟨gH, 8, none⟩ = some (.int .i64 y.mach.space) ∧ w'.cell? ⟨gH, 9, none⟩ = some (.slice K7 y.marks.length k7) ∧ w'.cell? ⟨gH, 10, none⟩ = some (.int .i64 y.hand) ∧ w'.cell? ⟨w.heap.size + 1, 0, none⟩ = some (.slice ay.b y.mach.table.buckets.length ay.bc) ∧ w'.cell? ⟨w.heap.size + 1, 1, none⟩ = some (.slice ay.f y.mach.table.frames.length ay.fc) ∧ w'.cell? ⟨w.heap.size + 1, 2, none⟩ = some (.slice ay.l y.mach.cache.lines.length ay.lc) ∧ w'.cell? ⟨w.heap.size + 1, 3, none⟩ = some (.int .i64 y.mach.cache.hand) ∧ w'.cell? ⟨w.heap.size + 1, 4, none⟩ = some (.int .i64 y.mach.tags.count) ∧ w'.cell? ⟨w.heap.size + 1, 5, none⟩ = some (.int .i64 y.mach.tags.next) ∧ w'.cell? ⟨w.heap.size + 1, 6, none⟩ = some (.int .i64 y.mach.tags.round) ∧ w'.cell? ⟨w.heap.size + 1, 7, none⟩ = some (.slice ay.o y.mach.tags.owns.length ay.oc) ∧ w'.cell? ⟨w.heap.size + 1, 8, none⟩ = some (.int .i64 y.mach.space) ∧ w'.cell? ⟨w.heap.size + 1, 9, none⟩ = some (.slice Ky y.marks.length ky) ∧ w'.cell? ⟨w.heap.size + 1, 10, none⟩ = some (.int .i64 y.hand))) := Lib.hid (fun w' h => by
    obtain ⟨p0, p1, p2, p3, p4, p5, p6, p7, p8, p9, p10⟩ := (KH.out.ex h).c11
    obtain ⟨q0, q1, q2, q3, q4, q5, q6, q7, q8, q9, q10⟩ := (KY.out.ex h).c11
    exact ⟨p0, p1, p2, p3, p4, p5, p6, p7, p8, p9, p10, q0, q1, q2, q3, q4, q5, q6, q7, q8, q9, q10⟩)
  have CT10 : Hid (∀ w', Ex w9 w' → Calls Try.prog 18 #[.agg #[.slice ay.b y.mach.table.buckets.length ay.bc, .slice ay.f y.mach.table.frames.length ay.fc, .slice ay.l y.mach.cache.lines.length ay.lc, .int .i64 y.mach.cache.hand, .int .i64 y.mach.tags.count, .int .i64 y.mach.tags.next, .int .i64 y.mach.tags.round, .slice ay.o y.mach.tags.owns.length ay.oc, .int .i64 y.mach.space, .slice Ky y.marks.length ky, .int .i64 y.hand]] w' fun r w'' => ∃ a9 K9 k9, r = .returned (.agg #[.slice a9.b y.mach.table.buckets.length a9.bc, .slice a9.f y.mach.table.frames.length a9.fc, .slice a9.l y.mach.cache.lines.length a9.lc, .int .i64 y.mach.cache.hand, .int .i64 y.mach.tags.count, .int .i64 y.mach.tags.next, .int .i64 y.mach.tags.round, .slice a9.o y.mach.tags.owns.length a9.oc, .int .i64 y.mach.space, .slice K9 y.marks.length k9, .int .i64 y.hand]) ∧ FrE w'' w'.heap.size y a9 K9 k9 ∧ Ex w' w'') := Lib.hid (fun w' h => toMemory_c y ay Ky ky w' (DY.out.ex h) HFy.out)
  have CQ10 : Hid (∀ (a9 : MA) (K9 : Option Addr) (k9 : Nat) w', Ex w9 w' → HasE w' y a9 K9 → Calls Try.prog 20 #[.agg #[.slice a7.b y.mach.table.buckets.length a7.bc, .slice a7.f y.mach.table.frames.length a7.fc, .slice a7.l y.mach.cache.lines.length a7.lc, .int .i64 y.mach.cache.hand, .int .i64 y.mach.tags.count, .int .i64 y.mach.tags.next, .int .i64 y.mach.tags.round, .slice a7.o y.mach.tags.owns.length a7.oc, .int .i64 y.mach.space, .slice K7 y.marks.length k7, .int .i64 y.hand], .agg #[.slice a9.b y.mach.table.buckets.length a9.bc, .slice a9.f y.mach.table.frames.length a9.fc, .slice a9.l y.mach.cache.lines.length a9.lc, .int .i64 y.mach.cache.hand, .int .i64 y.mach.tags.count, .int .i64 y.mach.tags.next, .int .i64 y.mach.tags.round, .slice a9.o y.mach.tags.owns.length a9.oc, .int .i64 y.mach.space, .slice K9 y.marks.length k9, .int .i64 y.hand]] w' fun r w'' => r = .returned (.bool true) ∧ Ex w' w'') := Lib.hid (fun a9 K9 k9 w' h1 h2 => eqMemory_self_c y a7 a9 K7 K9 k7 k9 w' (HH9.out.ex h1) h2 HFy.out)
  go_wp2_with fail
  go_region_held3 (fun w' => (w'.cell? ⟨gH, 0, none⟩ = some (.slice a7.b y.mach.table.buckets.length a7.bc) ∧ w'.cell? ⟨gH, 1, none⟩ = some (.slice a7.f y.mach.table.frames.length a7.fc) ∧ w'.cell? ⟨gH, 2, none⟩ = some (.slice a7.l y.mach.cache.lines.length a7.lc) ∧ w'.cell? ⟨gH, 3, none⟩ = some (.int .i64 y.mach.cache.hand) ∧ w'.cell? ⟨gH, 4, none⟩ = some (.int .i64 y.mach.tags.count) ∧ w'.cell? ⟨gH, 5, none⟩ = some (.int .i64 y.mach.tags.next) ∧ w'.cell? ⟨gH, 6, none⟩ = some (.int .i64 y.mach.tags.round) ∧ w'.cell? ⟨gH, 7, none⟩ = some (.slice a7.o y.mach.tags.owns.length a7.oc) ∧ w'.cell? ⟨gH, 8, none⟩ = some (.int .i64 y.mach.space) ∧ w'.cell? ⟨gH, 9, none⟩ = some (.slice K7 y.marks.length k7) ∧ w'.cell? ⟨gH, 10, none⟩ = some (.int .i64 y.hand) ∧ w'.cell? ⟨w.heap.size + 1, 0, none⟩ = some (.slice ay.b y.mach.table.buckets.length ay.bc) ∧ w'.cell? ⟨w.heap.size + 1, 1, none⟩ = some (.slice ay.f y.mach.table.frames.length ay.fc) ∧ w'.cell? ⟨w.heap.size + 1, 2, none⟩ = some (.slice ay.l y.mach.cache.lines.length ay.lc) ∧ w'.cell? ⟨w.heap.size + 1, 3, none⟩ = some (.int .i64 y.mach.cache.hand) ∧ w'.cell? ⟨w.heap.size + 1, 4, none⟩ = some (.int .i64 y.mach.tags.count) ∧ w'.cell? ⟨w.heap.size + 1, 5, none⟩ = some (.int .i64 y.mach.tags.next) ∧ w'.cell? ⟨w.heap.size + 1, 6, none⟩ = some (.int .i64 y.mach.tags.round) ∧ w'.cell? ⟨w.heap.size + 1, 7, none⟩ = some (.slice ay.o y.mach.tags.owns.length ay.oc) ∧ w'.cell? ⟨w.heap.size + 1, 8, none⟩ = some (.int .i64 y.mach.space) ∧ w'.cell? ⟨w.heap.size + 1, 9, none⟩ = some (.slice Ky y.marks.length ky) ∧ w'.cell? ⟨w.heap.size + 1, 10, none⟩ = some (.int .i64 y.hand))) ((refine FK10.out _ ?_; with_reducible (first | exact Ex.refl _ | exact (Ex.refl _).drew | exact hE10a | exact hE10))) (first | (go_at_call 18; (with_reducible refine (CT10.out _ ?_).mono ?_); (with_reducible exact (Ex.refl _).drew); rintro r w10a ⟨a10, K10, k10, rfl, hf10, hb10a⟩; have hE10a := Ex.trans (Ex.refl _).drew hb10a) | (go_at_call 20; (with_reducible refine (CQ10.out _ _ _ _ ?_ ?_).mono ?_); (with_reducible exact hE10a); (exact hf10.has); rintro r w10 ⟨rfl, hb10⟩; have hE10 := Ex.trans hE10a hb10))
  rename_i hHeld
  clear hHeld
  have Y10 : Hid (Chg 0 0 w9 w10) := Lib.hid (Chg.of_ex hE10)
  clear hb10a hb10 hf10 hE10a hE10 FK10 CT10 CQ10
  go_wp2
  go_ret
  exact ⟨rfl, Ew9.out.trans Y10.out.ex_⟩
end Go.Proofs.Ytkoegcalfibinaa
