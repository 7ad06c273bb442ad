/- The law FnExactFreeFrame: the walk. -/
import Derived.Test.YtihlaecbdlgbiaaDoorWv
import Derived.Test.YtihlaecbdlgbiaaDoorBm
import Derived.Deep.RegionHeld3
namespace Go.Proofs.YtihlaecbdlgbiaaDoor
open Go.ChangeShapes Go.WideShapes Go.ChangeAt Go.RowKit
open Rec (sz cs)
set_option linter.unusedVariables false
set_option maxRecDepth 100000

set_option maxHeartbeats 16000000 in
theorem walk_FnExactFreeFrame (x : MemD) (ax : MA) (Kx : Option Addr) (kx : Nat) (w : World) (hx : HasE w x ax Kx) (hxl : LenE x) (hv : FreeV w) :
    Calls Tryd.prog 5 #[.agg #[.slice ax.b x.mach.table.buckets.length ax.bc, .slice ax.f x.mach.table.frames.length ax.fc, .slice ax.l x.mach.cache.lines.length ax.lc, .int .i64 x.mach.cache.hand, .int .i64 x.mach.tags.count, .int .i64 x.mach.tags.next, .int .i64 x.mach.tags.round, .slice ax.o x.mach.tags.owns.length ax.oc, .int .i64 x.mach.space, .slice Kx x.marks.length kx, .int .i64 x.hand]] w fun r w' => r = .returned (.bool true) ∧ Ex w w' := by
  have HX := Lib.hid hx
  have HXL := Lib.hid hxl
  have HV := Lib.hid hv
  clear hx hxl hv
  have C1 := Lib.hid (fun w => szMemory_c x ax Kx kx 1048576 w (by omega) (by omega) HXL.out)
  by_cases h1 : (1048576 : Int) < sumE x
  · rw [szI_neg h1] at C1
    go_enter Tryd.func5, Tryd.ntmps5
    go_wp2_with fail
    refine name_calls ?_; intro v1 hv1
    have X1 : Hid (Chg (0) (0) w v1) := Lib.hid (by rw [hv1]; repeat' (first | with_reducible exact Chg.refl _ _ _ | with_reducible refine Chg.alloc ?_ _ | with_reducible refine Chg.drew ?_ | with_reducible refine Chg.set ?_ (by omega) _))
    have t1 : w.heap.size ≤ v1.heap.size := X1.out.size
    have Ev1 : Hid (Ex w v1) := Lib.hid ((Ex.refl w).chg X1.out (by omega))
    clear hv1
    refine (C1.out _).mono ?_; rintro r w1 ⟨rfl, hb1⟩
    have Y1 : Hid (Chg 0 0 v1 w1) := Lib.hid (Chg.of_ex hb1)
    have s1 : v1.heap.size ≤ w1.heap.size := Y1.out.size
    have Ew1 : Hid (Ex w w1) := Lib.hid (Ev1.out.chg Y1.out (by omega))
    clear hb1
    go_wp2
    go_ret
    exact ⟨rfl, Ew1.out⟩
  rw [szI_pos h1] at C1
  obtain ⟨l1, hl1⟩ : ∃ l1 : Int, l1 = (1048576 : Int) - sumE x := ⟨_, rfl⟩
  rw [← hl1] at C1
  have h3 : ¬ (l1 < 0) := by omega
  have HFx : Hid (FewE x) := Lib.hid (FewE.of_sum (by omega))
  clear h1 hl1
  have CS := Lib.hid (fun (a3 : MA) (K3 : Option Addr) (k3 : Nat) w' (h1 : HasE w' x a3 K3) (h2 : CapE x a3 k3) => freeS_c x a3 K3 k3 w' h1 HFx.out h2)
  have CI := Lib.hid (fun (a3 : MA) (K3 : Option Addr) (k3 : Nat) w' (h1 : HasE w' x a3 K3) (h2 : CapE x a3 k3) (h3 : FreeV w') => freeI_c x a3 K3 k3 w' h1 HFx.out h2 h3)
  generalize freeOf x = qq at CS CI
  obtain ⟨va, vb⟩ := qq
  dsimp only at CS CI
  have hbb : (!(va == va)) = false := by simp
  have hbb2 : (va != va) = false := by simp
  have hbc : (!(vb == vb)) = false := by simp
  have hbc2 : (vb != vb) = false := by simp
  go_enter Tryd.func5, Tryd.ntmps5
  go_wp2_with fail
  refine name_calls ?_; intro v1 hv1
  have X1 : Hid (Chg (0) (0) w v1) := Lib.hid (by rw [hv1]; repeat' (first | with_reducible exact Chg.refl _ _ _ | with_reducible refine Chg.alloc ?_ _ | with_reducible refine Chg.drew ?_ | with_reducible refine Chg.set ?_ (by omega) _))
  have t1 : w.heap.size ≤ v1.heap.size := X1.out.size
  have Ev1 : Hid (Ex w v1) := Lib.hid ((Ex.refl w).chg X1.out (by omega))
  have KX : Hid (Blk v1 (w.heap.size) 52 [.slice ax.b x.mach.table.buckets.length ax.bc, .slice ax.f x.mach.table.frames.length ax.fc, .slice ax.l x.mach.cache.lines.length ax.lc, .int .i64 x.mach.cache.hand, .int .i64 x.mach.tags.count, .int .i64 x.mach.tags.next, .int .i64 x.mach.tags.round, .slice ax.o x.mach.tags.owns.length ax.oc, .int .i64 x.mach.space, .slice Kx x.marks.length kx, .int .i64 x.hand]) := Lib.hid (by rw [hv1]; repeat' (first | with_reducible exact Blk.new_at _ _ _ (by simp) | with_reducible refine Blk.alloc ?_ _ | with_reducible refine Blk.drew ?_ | with_reducible refine Blk.far ?_ (by simp; omega) _))
  have lX : w.heap.size < v1.heap.size := KX.out.lt
  have DX := Lib.hid (HX.out.ex Ev1.out)
  clear hv1
  refine (C1.out _).mono ?_; rintro r w1 ⟨rfl, hb1⟩
  have Y1 : Hid (Chg 0 0 v1 w1) := Lib.hid (Chg.of_ex hb1)
  have s1 : v1.heap.size ≤ w1.heap.size := Y1.out.size
  have Ew1 : Hid (Ex w w1) := Lib.hid (Ev1.out.chg Y1.out (by omega))
  clear hb1
  replace KX : Hid (Blk w1 (w.heap.size) 52 [.slice ax.b x.mach.table.buckets.length ax.bc, .slice ax.f x.mach.table.frames.length ax.fc, .slice ax.l x.mach.cache.lines.length ax.lc, .int .i64 x.mach.cache.hand, .int .i64 x.mach.tags.count, .int .i64 x.mach.tags.next, .int .i64 x.mach.tags.round, .slice ax.o x.mach.tags.owns.length ax.oc, .int .i64 x.mach.space, .slice Kx x.marks.length kx, .int .i64 x.hand]) := Lib.hid (KX.out.chg Y1.out (by omega))
  replace DX := Lib.hid (HX.out.ex Ew1.out)
  obtain ⟨qX0, qX1, qX2, qX3, qX4, qX5, qX6, qX7, qX8, qX9, qX10⟩ := KX.out.c11
  have jX := KX.out.lt
  go_wp2_with fail
  refine name_calls ?_; intro v2 hv2
  have X2 : Hid (Chg (0) (0) w1 v2) := Lib.hid (by rw [hv2]; repeat' (first | with_reducible exact Chg.refl _ _ _ | with_reducible refine Chg.alloc ?_ _ | with_reducible refine Chg.drew ?_ | with_reducible refine Chg.set ?_ (by omega) _))
  have t2 : w1.heap.size ≤ v2.heap.size := X2.out.size
  have Ev2 : Hid (Ex w v2) := Lib.hid (Ew1.out.chg X2.out (by omega))
  clear qX0 qX1 qX2 qX3 qX4 qX5 qX6 qX7 qX8 qX9 qX10 jX
  replace KX : Hid (Blk v2 (w.heap.size) 52 [.slice ax.b x.mach.table.buckets.length ax.bc, .slice ax.f x.mach.table.frames.length ax.fc, .slice ax.l x.mach.cache.lines.length ax.lc, .int .i64 x.mach.cache.hand, .int .i64 x.mach.tags.count, .int .i64 x.mach.tags.next, .int .i64 x.mach.tags.round, .slice ax.o x.mach.tags.owns.length ax.oc, .int .i64 x.mach.space, .slice Kx x.marks.length kx, .int .i64 x.hand]) := Lib.hid (KX.out.chg X2.out (by omega))
  replace DX := Lib.hid (HX.out.ex Ev2.out)
  clear hv2
  refine (toMemory_c x ax Kx kx _ DX.out HFx.out).mono ?_; rintro r w2 ⟨a2, K2, k2, rfl, hhf2, hb2⟩
  have Y2 : Hid (Chg 0 0 v2 w2) := Lib.hid (Chg.of_ex hb2)
  have s2 : v2.heap.size ≤ w2.heap.size := Y2.out.size
  have Ew2 : Hid (Ex w w2) := Lib.hid (Ev2.out.chg Y2.out (by omega))
  clear hb2
  replace KX : Hid (Blk w2 (w.heap.size) 52 [.slice ax.b x.mach.table.buckets.length ax.bc, .slice ax.f x.mach.table.frames.length ax.fc, .slice ax.l x.mach.cache.lines.length ax.lc, .int .i64 x.mach.cache.hand, .int .i64 x.mach.tags.count, .int .i64 x.mach.tags.next, .int .i64 x.mach.tags.round, .slice ax.o x.mach.tags.owns.length ax.oc, .int .i64 x.mach.space, .slice Kx x.marks.length kx, .int .i64 x.hand]) := Lib.hid (KX.out.chg Y2.out (by omega))
  replace DX := Lib.hid (HX.out.ex Ew2.out)
  have HHF2 := Lib.hid hhf2; clear hhf2
  obtain ⟨qX0, qX1, qX2, qX3, qX4, qX5, qX6, qX7, qX8, qX9, qX10⟩ := KX.out.c11
  have jX := KX.out.lt
  go_wp2_with fail
  refine name_calls ?_; intro v3 hv3
  have X3 : Hid (Chg (0) (0) w2 v3) := Lib.hid (by rw [hv3]; repeat' (first | with_reducible exact Chg.refl _ _ _ | with_reducible refine Chg.alloc ?_ _ | with_reducible refine Chg.drew ?_ | with_reducible refine Chg.set ?_ (by omega) _))
  have t3 : w2.heap.size ≤ v3.heap.size := X3.out.size
  have Ev3 : Hid (Ex w v3) := Lib.hid (Ew2.out.chg X3.out (by omega))
  clear qX0 qX1 qX2 qX3 qX4 qX5 qX6 qX7 qX8 qX9 qX10 jX
  replace KX : Hid (Blk v3 (w.heap.size) 52 [.slice ax.b x.mach.table.buckets.length ax.bc, .slice ax.f x.mach.table.frames.length ax.fc, .slice ax.l x.mach.cache.lines.length ax.lc, .int .i64 x.mach.cache.hand, .int .i64 x.mach.tags.count, .int .i64 x.mach.tags.next, .int .i64 x.mach.tags.round, .slice ax.o x.mach.tags.owns.length ax.oc, .int .i64 x.mach.space, .slice Kx x.marks.length kx, .int .i64 x.hand]) := Lib.hid (KX.out.chg X3.out (by omega))
  replace DX := Lib.hid (HX.out.ex Ev3.out)
  clear hv3
  refine (CS.out _ _ _ _ (HHF2.out.has.ex X3.out.ex_) HHF2.out.cap).mono ?_; rintro r w3 ⟨rfl, hb3⟩
  have Y3 : Hid (Chg 0 0 v3 w3) := Lib.hid (Chg.of_ex hb3)
  have s3 : v3.heap.size ≤ w3.heap.size := Y3.out.size
  have Ew3 : Hid (Ex w w3) := Lib.hid (Ev3.out.chg Y3.out (by omega))
  clear hb3
  replace KX : Hid (Blk w3 (w.heap.size) 52 [.slice ax.b x.mach.table.buckets.length ax.bc, .slice ax.f x.mach.table.frames.length ax.fc, .slice ax.l x.mach.cache.lines.length ax.lc, .int .i64 x.mach.cache.hand, .int .i64 x.mach.tags.count, .int .i64 x.mach.tags.next, .int .i64 x.mach.tags.round, .slice ax.o x.mach.tags.owns.length ax.oc, .int .i64 x.mach.space, .slice Kx x.marks.length kx, .int .i64 x.hand]) := Lib.hid (KX.out.chg Y3.out (by omega))
  replace DX := Lib.hid (HX.out.ex Ew3.out)
  obtain ⟨qX0, qX1, qX2, qX3, qX4, qX5, qX6, qX7, qX8, qX9, qX10⟩ := KX.out.c11
  have jX := KX.out.lt
  go_wp2_with fail
  refine name_calls ?_; intro v4 hv4
  have X4 : Hid (Chg (0) (0) w3 v4) := Lib.hid (by rw [hv4]; repeat' (first | with_reducible exact Chg.refl _ _ _ | with_reducible refine Chg.alloc ?_ _ | with_reducible refine Chg.drew ?_ | with_reducible refine Chg.set ?_ (by omega) _))
  have t4 : w3.heap.size ≤ v4.heap.size := X4.out.size
  have Ev4 : Hid (Ex w v4) := Lib.hid (Ew3.out.chg X4.out (by omega))
  clear qX0 qX1 qX2 qX3 qX4 qX5 qX6 qX7 qX8 qX9 qX10 jX
  replace KX : Hid (Blk v4 (w.heap.size) 52 [.slice ax.b x.mach.table.buckets.length ax.bc, .slice ax.f x.mach.table.frames.length ax.fc, .slice ax.l x.mach.cache.lines.length ax.lc, .int .i64 x.mach.cache.hand, .int .i64 x.mach.tags.count, .int .i64 x.mach.tags.next, .int .i64 x.mach.tags.round, .slice ax.o x.mach.tags.owns.length ax.oc, .int .i64 x.mach.space, .slice Kx x.marks.length kx, .int .i64 x.hand]) := Lib.hid (KX.out.chg X4.out (by omega))
  replace DX := Lib.hid (HX.out.ex Ev4.out)
  clear hv4
  refine (toMemory_c x ax Kx kx _ DX.out HFx.out).mono ?_; rintro r w4 ⟨a4, K4, k4, rfl, hhf4, hb4⟩
  have Y4 : Hid (Chg 0 0 v4 w4) := Lib.hid (Chg.of_ex hb4)
  have s4 : v4.heap.size ≤ w4.heap.size := Y4.out.size
  have Ew4 : Hid (Ex w w4) := Lib.hid (Ev4.out.chg Y4.out (by omega))
  clear hb4
  replace KX : Hid (Blk w4 (w.heap.size) 52 [.slice ax.b x.mach.table.buckets.length ax.bc, .slice ax.f x.mach.table.frames.length ax.fc, .slice ax.l x.mach.cache.lines.length ax.lc, .int .i64 x.mach.cache.hand, .int .i64 x.mach.tags.count, .int .i64 x.mach.tags.next, .int .i64 x.mach.tags.round, .slice ax.o x.mach.tags.owns.length ax.oc, .int .i64 x.mach.space, .slice Kx x.marks.length kx, .int .i64 x.hand]) := Lib.hid (KX.out.chg Y4.out (by omega))
  replace DX := Lib.hid (HX.out.ex Ew4.out)
  have HHF4 := Lib.hid hhf4; clear hhf4
  obtain ⟨qX0, qX1, qX2, qX3, qX4, qX5, qX6, qX7, qX8, qX9, qX10⟩ := KX.out.c11
  have jX := KX.out.lt
  go_wp2_with fail
  refine name_calls ?_; intro v5 hv5
  have X5 : Hid (Chg (0) (0) w4 v5) := Lib.hid (by rw [hv5]; repeat' (first | with_reducible exact Chg.refl _ _ _ | with_reducible refine Chg.alloc ?_ _ | with_reducible refine Chg.drew ?_ | with_reducible refine Chg.set ?_ (by omega) _))
  have t5 : w4.heap.size ≤ v5.heap.size := X5.out.size
  have Ev5 : Hid (Ex w v5) := Lib.hid (Ew4.out.chg X5.out (by omega))
  clear qX0 qX1 qX2 qX3 qX4 qX5 qX6 qX7 qX8 qX9 qX10 jX
  replace KX : Hid (Blk v5 (w.heap.size) 52 [.slice ax.b x.mach.table.buckets.length ax.bc, .slice ax.f x.mach.table.frames.length ax.fc, .slice ax.l x.mach.cache.lines.length ax.lc, .int .i64 x.mach.cache.hand, .int .i64 x.mach.tags.count, .int .i64 x.mach.tags.next, .int .i64 x.mach.tags.round, .slice ax.o x.mach.tags.owns.length ax.oc, .int .i64 x.mach.space, .slice Kx x.marks.length kx, .int .i64 x.hand]) := Lib.hid (KX.out.chg X5.out (by omega))
  have KG : Hid (Blk v5 (w4.heap.size) 56 [.slice a4.b x.mach.table.buckets.length a4.bc, .slice a4.f x.mach.table.frames.length a4.fc, .slice a4.l x.mach.cache.lines.length a4.lc, .int .i64 x.mach.cache.hand, .int .i64 x.mach.tags.count, .int .i64 x.mach.tags.next, .int .i64 x.mach.tags.round, .slice a4.o x.mach.tags.owns.length a4.oc, .int .i64 x.mach.space, .slice K4 x.marks.length k4, .int .i64 x.hand]) := Lib.hid (by rw [hv5]; repeat' (first | with_reducible exact Blk.new_at _ _ _ (by simp) | with_reducible refine Blk.alloc ?_ _ | with_reducible refine Blk.drew ?_ | with_reducible refine Blk.far ?_ (by simp; omega) _))
  have lG : w4.heap.size < v5.heap.size := KG.out.lt
  replace DX := Lib.hid (HX.out.ex Ev5.out)
  clear hv5
  refine (CI.out _ _ _ _ (HHF4.out.has.ex X5.out.ex_) HHF4.out.cap (HV.out.ex Ev5.out)).mono ?_; rintro r w5 ⟨rfl, hb5⟩
  have Y5 : Hid (Chg 0 0 v5 w5) := Lib.hid (Chg.of_ex hb5)
  have s5 : v5.heap.size ≤ w5.heap.size := Y5.out.size
  have Ew5 : Hid (Ex w w5) := Lib.hid (Ev5.out.chg Y5.out (by omega))
  clear hb5
  replace KX : Hid (Blk w5 (w.heap.size) 52 [.slice ax.b x.mach.table.buckets.length ax.bc, .slice ax.f x.mach.table.frames.length ax.fc, .slice ax.l x.mach.cache.lines.length ax.lc, .int .i64 x.mach.cache.hand, .int .i64 x.mach.tags.count, .int .i64 x.mach.tags.next, .int .i64 x.mach.tags.round, .slice ax.o x.mach.tags.owns.length ax.oc, .int .i64 x.mach.space, .slice Kx x.marks.length kx, .int .i64 x.hand]) := Lib.hid (KX.out.chg Y5.out (by omega))
  replace KG : Hid (Blk w5 (w4.heap.size) 56 [.slice a4.b x.mach.table.buckets.length a4.bc, .slice a4.f x.mach.table.frames.length a4.fc, .slice a4.l x.mach.cache.lines.length a4.lc, .int .i64 x.mach.cache.hand, .int .i64 x.mach.tags.count, .int .i64 x.mach.tags.next, .int .i64 x.mach.tags.round, .slice a4.o x.mach.tags.owns.length a4.oc, .int .i64 x.mach.space, .slice K4 x.marks.length k4, .int .i64 x.hand]) := Lib.hid (KG.out.chg Y5.out (by omega))
  replace DX := Lib.hid (HX.out.ex Ew5.out)
  obtain ⟨qX0, qX1, qX2, qX3, qX4, qX5, qX6, qX7, qX8, qX9, qX10⟩ := KX.out.c11
  have jX := KX.out.lt
  obtain ⟨qG0, qG1, qG2, qG3, qG4, qG5, qG6, qG7, qG8, qG9, qG10⟩ := KG.out.c11
  have jG := KG.out.lt
  have HG5 : Hid (HasE w5 x a4 K4) := Lib.hid ((HHF4.out.has.ex X5.out.ex_).ex Y5.out.ex_)
  obtain ⟨gG, hgG⟩ : ∃ g, g = w4.heap.size := ⟨_, rfl⟩
  rw [← hgG] at KG qG0 qG1 qG2 qG3 qG4 qG5 qG6 qG7 qG8 qG9 qG10 jG ⊢
  clear hgG
  have FK9 : Hid (∀ w', Ex w5 w' → (w'.cell? ⟨gG, 0, none⟩ = some (.slice a4.b x.mach.table.buckets.length a4.bc) ∧ w'.cell? ⟨gG, 1, none⟩ = some (.slice a4.f x.mach.table.frames.length a4.fc) ∧ w'.cell? ⟨gG, 2, none⟩ = some (.slice a4.l x.mach.cache.lines.length a4.lc) ∧ w'.cell? ⟨gG, 3, none⟩ = some (.int .i64 x.mach.cache.hand) ∧ w'.cell? ⟨gG, 4, none⟩ = some (.int .i64 x.mach.tags.count) ∧ w'.cell? ⟨gG, 5, none⟩ = some (.int .i64 x.mach.tags.next) ∧ w'.cell? ⟨gG, 6, none⟩ = some (.int .i64 x.mach.tags.round) ∧ w'.cell? ⟨gG, 7, none⟩ = some (.slice a4.o x.mach.tags.owns.length a4.oc) ∧ w'.cell? ⟨gG, 8, none⟩ = some (.int .i64 x.mach.space) ∧ w'.cell? ⟨gG, 9, none⟩ = some (.slice K4 x.marks.length k4) ∧ w'.cell? ⟨gG, 10, none⟩ = some (.int .i64 x.hand) ∧ w'.cell? ⟨w.heap.size, 0, none⟩ = some (.slice ax.b x.mach.table.buckets.length ax.bc) ∧ w'.cell? ⟨w.heap.size, 1, none⟩ = some (.slice ax.f x.mach.table.frames.length ax.fc) ∧ w'.cell? ⟨w.heap.size, 2, none⟩ = some (.slice ax.l x.mach.cache.lines.length ax.lc) ∧ w'.cell? ⟨w.heap.size, 3, none⟩ = some (.int .i64 x.mach.cache.hand) ∧ w'.cell? ⟨w.heap.size, 4, none⟩ = some (.int .i64 x.mach.tags.count) ∧ w'.cell? ⟨w.heap.size, 5, none⟩ = some (.int .i64 x.mach.tags.next) ∧ w'.cell? ⟨w.heap.size, 6, none⟩ = some (.int .i64 x.mach.tags.round) ∧ w'.cell? ⟨w.heap.size, 7, none⟩ = some (.slice ax.o x.mach.tags.owns.length ax.oc) ∧ w'.cell? ⟨w.heap.size, 8, none⟩ = some (.int .i64 x.mach.space) ∧ w'.cell? ⟨w.heap.size, 9, none⟩ = some (.slice Kx x.marks.length kx) ∧ w'.cell? ⟨w.heap.size, 10, none⟩ = some (.int .i64 x.hand))) := Lib.hid (fun w' h => by
    obtain ⟨p0, p1, p2, p3, p4, p5, p6, p7, p8, p9, p10⟩ := (KG.out.ex h).c11
    obtain ⟨q0, q1, q2, q3, q4, q5, q6, q7, q8, q9, q10⟩ := (KX.out.ex h).c11
    exact ⟨p0, p1, p2, p3, p4, p5, p6, p7, p8, p9, p10, q0, q1, q2, q3, q4, q5, q6, q7, q8, q9, q10⟩)
  have CT9 : Hid (∀ w', Ex w5 w' → Calls Tryd.prog 13 #[.agg #[.slice ax.b x.mach.table.buckets.length ax.bc, .slice ax.f x.mach.table.frames.length ax.fc, .slice ax.l x.mach.cache.lines.length ax.lc, .int .i64 x.mach.cache.hand, .int .i64 x.mach.tags.count, .int .i64 x.mach.tags.next, .int .i64 x.mach.tags.round, .slice ax.o x.mach.tags.owns.length ax.oc, .int .i64 x.mach.space, .slice Kx x.marks.length kx, .int .i64 x.hand]] w' fun r w'' => ∃ a9 K9 k9, r = .returned (.agg #[.slice a9.b x.mach.table.buckets.length a9.bc, .slice a9.f x.mach.table.frames.length a9.fc, .slice a9.l x.mach.cache.lines.length a9.lc, .int .i64 x.mach.cache.hand, .int .i64 x.mach.tags.count, .int .i64 x.mach.tags.next, .int .i64 x.mach.tags.round, .slice a9.o x.mach.tags.owns.length a9.oc, .int .i64 x.mach.space, .slice K9 x.marks.length k9, .int .i64 x.hand]) ∧ FrE w'' w'.heap.size x a9 K9 k9 ∧ Ex w' w'') := Lib.hid (fun w' h => toMemory_c x ax Kx kx w' (DX.out.ex h) HFx.out)
  have CQ9 : Hid (∀ (a9 : MA) (K9 : Option Addr) (k9 : Nat) w', Ex w5 w' → HasE w' x a9 K9 → Calls Tryd.prog 15 #[.agg #[.slice a4.b x.mach.table.buckets.length a4.bc, .slice a4.f x.mach.table.frames.length a4.fc, .slice a4.l x.mach.cache.lines.length a4.lc, .int .i64 x.mach.cache.hand, .int .i64 x.mach.tags.count, .int .i64 x.mach.tags.next, .int .i64 x.mach.tags.round, .slice a4.o x.mach.tags.owns.length a4.oc, .int .i64 x.mach.space, .slice K4 x.marks.length k4, .int .i64 x.hand], .agg #[.slice a9.b x.mach.table.buckets.length a9.bc, .slice a9.f x.mach.table.frames.length a9.fc, .slice a9.l x.mach.cache.lines.length a9.lc, .int .i64 x.mach.cache.hand, .int .i64 x.mach.tags.count, .int .i64 x.mach.tags.next, .int .i64 x.mach.tags.round, .slice a9.o x.mach.tags.owns.length a9.oc, .int .i64 x.mach.space, .slice K9 x.marks.length k9, .int .i64 x.hand]] w' fun r w'' => r = .returned (.bool true) ∧ Ex w' w'') := Lib.hid (fun a9 K9 k9 w' h1 h2 => eqMemory_self_c x a4 a9 K4 K9 k4 k9 w' (HG5.out.ex h1) h2 HFx.out)
  clear qX0 qX1 qX2 qX3 qX4 qX5 qX6 qX7 qX8 qX9 qX10 jX
  clear qG0 qG1 qG2 qG3 qG4 qG5 qG6 qG7 qG8 qG9 qG10 jG
  go_wp2_with fail
  go_region_held3 (fun w' => (w'.cell? ⟨gG, 0, none⟩ = some (.slice a4.b x.mach.table.buckets.length a4.bc) ∧ w'.cell? ⟨gG, 1, none⟩ = some (.slice a4.f x.mach.table.frames.length a4.fc) ∧ w'.cell? ⟨gG, 2, none⟩ = some (.slice a4.l x.mach.cache.lines.length a4.lc) ∧ w'.cell? ⟨gG, 3, none⟩ = some (.int .i64 x.mach.cache.hand) ∧ w'.cell? ⟨gG, 4, none⟩ = some (.int .i64 x.mach.tags.count) ∧ w'.cell? ⟨gG, 5, none⟩ = some (.int .i64 x.mach.tags.next) ∧ w'.cell? ⟨gG, 6, none⟩ = some (.int .i64 x.mach.tags.round) ∧ w'.cell? ⟨gG, 7, none⟩ = some (.slice a4.o x.mach.tags.owns.length a4.oc) ∧ w'.cell? ⟨gG, 8, none⟩ = some (.int .i64 x.mach.space) ∧ w'.cell? ⟨gG, 9, none⟩ = some (.slice K4 x.marks.length k4) ∧ w'.cell? ⟨gG, 10, none⟩ = some (.int .i64 x.hand) ∧ w'.cell? ⟨w.heap.size, 0, none⟩ = some (.slice ax.b x.mach.table.buckets.length ax.bc) ∧ w'.cell? ⟨w.heap.size, 1, none⟩ = some (.slice ax.f x.mach.table.frames.length ax.fc) ∧ w'.cell? ⟨w.heap.size, 2, none⟩ = some (.slice ax.l x.mach.cache.lines.length ax.lc) ∧ w'.cell? ⟨w.heap.size, 3, none⟩ = some (.int .i64 x.mach.cache.hand) ∧ w'.cell? ⟨w.heap.size, 4, none⟩ = some (.int .i64 x.mach.tags.count) ∧ w'.cell? ⟨w.heap.size, 5, none⟩ = some (.int .i64 x.mach.tags.next) ∧ w'.cell? ⟨w.heap.size, 6, none⟩ = some (.int .i64 x.mach.tags.round) ∧ w'.cell? ⟨w.heap.size, 7, none⟩ = some (.slice ax.o x.mach.tags.owns.length ax.oc) ∧ w'.cell? ⟨w.heap.size, 8, none⟩ = some (.int .i64 x.mach.space) ∧ w'.cell? ⟨w.heap.size, 9, none⟩ = some (.slice Kx x.marks.length kx) ∧ w'.cell? ⟨w.heap.size, 10, none⟩ = some (.int .i64 x.hand))) ((refine FK9.out _ ?_; with_reducible (first | exact Ex.refl _ | exact (Ex.refl _).drew | exact hE9a | exact hE9))) (first | (go_at_call 13; (with_reducible refine (CT9.out _ ?_).mono ?_); (with_reducible exact (Ex.refl _).drew); rintro r w9a ⟨a9, K9, k9, rfl, hf9, hb9a⟩; have hE9a := Ex.trans (Ex.refl _).drew hb9a) | (go_at_call 15; (with_reducible refine (CQ9.out _ _ _ _ ?_ ?_).mono ?_); (with_reducible exact hE9a); (exact hf9.has); rintro r w9 ⟨rfl, hb9⟩; have hE9 := Ex.trans hE9a hb9))
  rename_i hHeld
  clear hHeld
  have Y9 : Hid (Chg 0 0 w5 w9) := Lib.hid (Chg.of_ex hE9)
  clear hb9a hb9 hf9 hE9a hE9 FK9 CT9 CQ9
  go_wp2
  go_ret
  exact ⟨rfl, Ew5.out.trans Y9.out.ex_⟩
end Go.Proofs.YtihlaecbdlgbiaaDoor
