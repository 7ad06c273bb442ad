/- Joined: Bm, Wx, Ua. -/
import Derived.Test.YtbdlpbladpppjaaGreatDoorRows
import Derived.Deep.RegionHeld3
import Derived.Test.YtbdlpbladpppjaaGreatDoorK6
import Derived.Test.YtbdlpbladpppjaaGreatDoorK2
import Derived.Test.YtbdlpbladpppjaaGreatDoorK1
import Derived.Test.YtbdlpbladpppjaaGreatDoorK3
/- MachineSame of both sides. -/
namespace Go.Proofs.YtbdlpbladpppjaaGreatDoor
open Go.ChangeShapes Go.WideShapes Go.ChangeAt Go.RowKit
open Rec (sz cs)
set_option linter.unusedVariables false
set_option maxRecDepth 100000

set_option maxHeartbeats 2000000 in
theorem machSameI_c (x y : MachD) (a b : MA) (w : World) (hx : HasM w x a) (hy : HasM w y b) (hf : FewM x) (hg : FewM y) :
  Calls Tryz.prog 20 #[.agg #[.slice a.b x.table.buckets.length a.bc, .slice a.f x.table.frames.length a.fc, .slice a.l x.cache.lines.length a.lc, .int .i64 x.cache.hand, .int .i64 x.tags.count, .int .i64 x.tags.next, .int .i64 x.tags.round, .slice a.o x.tags.owns.length a.oc, .int .i64 x.space], .agg #[.slice b.b y.table.buckets.length b.bc, .slice b.f y.table.frames.length b.fc, .slice b.l y.cache.lines.length b.lc, .int .i64 y.cache.hand, .int .i64 y.tags.count, .int .i64 y.tags.next, .int .i64 y.tags.round, .slice b.o y.tags.owns.length b.oc, .int .i64 y.space]] w fun r w' => r = .returned (.bool (eqB x y)) ∧ Ex w w' := by
 have C1 := zq (fun w (h1 : HasM w x a) (h2 : HasM w y b) => tableSameI_c x.table y.table a.b a.bc a.f a.fc b.b b.bc b.f b.fc w h1.b h1.f h2.b h2.f hf.b hf.f hg.b hg.f)
 have C2 := zq (fun w (h1 : HasM w x a) (h2 : HasM w y b) => cacheSameI_c x.cache y.cache a.l b.l a.lc b.lc w h1.l h2.l hf.l hg.l)
 have C3 := zq (fun w (h1 : HasM w x a) (h2 : HasM w y b) => tagsSameI_c x.tags y.tags a.o b.o a.oc b.oc w h1.o h2.o hf.o hg.o)
 have HX := zq hx
 have HY := zq hy
 have HE := zq (mach_eq x y)
 clear hx hy hf hg
 cases h1 : eqB x.table y.table
 ·rw [h1] at C1
  have e : eqB x y = false := by rw [eqB_false, Ne, HE.out]; intro h; have := eqB_false.1 h1; exact this h.1
  rw [e]
  clear e h1
  go_enter Tryz.func20, Tryz.ntmps20
  go_wp2_with fail
  refine name_calls ?_; intro v1 hv1
  have X1 : Hid (Chg (0) (0) w v1) := zx hv1
  have t1 := X1.out.size
  have Ev1 := zq ((Ex.refl w).chg X1.out (by omega))
  have KX : Hid (Blk v1 (w.heap.size) 34 [.slice a.b x.table.buckets.length a.bc, .slice a.f x.table.frames.length a.fc, .slice a.l x.cache.lines.length a.lc, .int .i64 x.cache.hand, .int .i64 x.tags.count, .int .i64 x.tags.next, .int .i64 x.tags.round, .slice a.o x.tags.owns.length a.oc, .int .i64 x.space]) := zk hv1
  have lX : w.heap.size < v1.heap.size := KX.out.lt
  have KY : Hid (Blk v1 (w.heap.size + 1) 34 [.slice b.b y.table.buckets.length b.bc, .slice b.f y.table.frames.length b.fc, .slice b.l y.cache.lines.length b.lc, .int .i64 y.cache.hand, .int .i64 y.tags.count, .int .i64 y.tags.next, .int .i64 y.tags.round, .slice b.o y.tags.owns.length b.oc, .int .i64 y.space]) := zk hv1
  have lY : w.heap.size + 1 < v1.heap.size := KY.out.lt
  have DX := zq (HX.out.ex Ev1.out)
  have DY := zq (HY.out.ex Ev1.out)
  clear hv1
  refine (C1.out _ DX.out DY.out).mono ?_; rintro r w1 ⟨rfl, hb1⟩
  have Y1 := zq (Chg.of_ex hb1)
  have s1 := Y1.out.size
  have Ew1 := zq (Ev1.out.chg Y1.out (by omega))
  clear hb1
  replace KX := zq (KX.out.chg Y1.out (by omega))
  replace KY := zq (KY.out.chg Y1.out (by omega))
  replace DX := zq (HX.out.ex Ew1.out)
  replace DY := zq (HY.out.ex Ew1.out)
  obtain ⟨qX0, qX1, qX2, qX3, qX4, qX5, qX6, qX7, qX8⟩ := KX.out.c9
  have jX := KX.out.lt
  obtain ⟨qY0, qY1, qY2, qY3, qY4, qY5, qY6, qY7, qY8⟩ := KY.out.c9
  have jY := KY.out.lt
  go_wp2
  go_ret
  exact ⟨rfl, Ew1.out⟩
 rw [h1] at C1
 cases h2 : eqB x.cache y.cache
 ·rw [h2] at C2
  have e : eqB x y = false := by rw [eqB_false, Ne, HE.out]; intro h; have := eqB_false.1 h2; exact this h.2.1
  rw [e]
  clear e h2
  go_enter Tryz.func20, Tryz.ntmps20
  go_wp2_with fail
  refine name_calls ?_; intro v1 hv1
  have X1 : Hid (Chg (0) (0) w v1) := zx hv1
  have t1 := X1.out.size
  have Ev1 := zq ((Ex.refl w).chg X1.out (by omega))
  have KX : Hid (Blk v1 (w.heap.size) 34 [.slice a.b x.table.buckets.length a.bc, .slice a.f x.table.frames.length a.fc, .slice a.l x.cache.lines.length a.lc, .int .i64 x.cache.hand, .int .i64 x.tags.count, .int .i64 x.tags.next, .int .i64 x.tags.round, .slice a.o x.tags.owns.length a.oc, .int .i64 x.space]) := zk hv1
  have lX : w.heap.size < v1.heap.size := KX.out.lt
  have KY : Hid (Blk v1 (w.heap.size + 1) 34 [.slice b.b y.table.buckets.length b.bc, .slice b.f y.table.frames.length b.fc, .slice b.l y.cache.lines.length b.lc, .int .i64 y.cache.hand, .int .i64 y.tags.count, .int .i64 y.tags.next, .int .i64 y.tags.round, .slice b.o y.tags.owns.length b.oc, .int .i64 y.space]) := zk hv1
  have lY : w.heap.size + 1 < v1.heap.size := KY.out.lt
  have DX := zq (HX.out.ex Ev1.out)
  have DY := zq (HY.out.ex Ev1.out)
  clear hv1
  refine (C1.out _ DX.out DY.out).mono ?_; rintro r w1 ⟨rfl, hb1⟩
  have Y1 := zq (Chg.of_ex hb1)
  have s1 := Y1.out.size
  have Ew1 := zq (Ev1.out.chg Y1.out (by omega))
  clear hb1
  replace KX := zq (KX.out.chg Y1.out (by omega))
  replace KY := zq (KY.out.chg Y1.out (by omega))
  replace DX := zq (HX.out.ex Ew1.out)
  replace DY := zq (HY.out.ex Ew1.out)
  obtain ⟨qX0, qX1, qX2, qX3, qX4, qX5, qX6, qX7, qX8⟩ := KX.out.c9
  have jX := KX.out.lt
  obtain ⟨qY0, qY1, qY2, qY3, qY4, qY5, qY6, qY7, qY8⟩ := KY.out.c9
  have jY := KY.out.lt
  go_wp2_with fail
  refine name_calls ?_; intro v2 hv2
  have X2 : Hid (Chg (0) (0) w1 v2) := zx hv2
  have t2 := X2.out.size
  have Ev2 := zq (Ew1.out.chg X2.out (by omega))
  clear qX0 qX1 qX2 qX3 qX4 qX5 qX6 qX7 qX8 jX
  clear qY0 qY1 qY2 qY3 qY4 qY5 qY6 qY7 qY8 jY
  replace KX := zq (KX.out.chg X2.out (by omega))
  replace KY := zq (KY.out.chg X2.out (by omega))
  replace DX := zq (HX.out.ex Ev2.out)
  replace DY := zq (HY.out.ex Ev2.out)
  clear hv2
  refine (C2.out _ DX.out DY.out).mono ?_; rintro r w2 ⟨rfl, hb2⟩
  have Y2 := zq (Chg.of_ex hb2)
  have s2 := Y2.out.size
  have Ew2 := zq (Ev2.out.chg Y2.out (by omega))
  clear hb2
  replace KX := zq (KX.out.chg Y2.out (by omega))
  replace KY := zq (KY.out.chg Y2.out (by omega))
  replace DX := zq (HX.out.ex Ew2.out)
  replace DY := zq (HY.out.ex Ew2.out)
  obtain ⟨qX0, qX1, qX2, qX3, qX4, qX5, qX6, qX7, qX8⟩ := KX.out.c9
  have jX := KX.out.lt
  obtain ⟨qY0, qY1, qY2, qY3, qY4, qY5, qY6, qY7, qY8⟩ := KY.out.c9
  have jY := KY.out.lt
  go_wp2
  go_ret
  exact ⟨rfl, Ew2.out⟩
 rw [h2] at C2
 cases h3 : eqB x.tags y.tags
 ·rw [h3] at C3
  have e : eqB x y = false := by rw [eqB_false, Ne, HE.out]; intro h; have := eqB_false.1 h3; exact this h.2.2.1
  rw [e]
  clear e h3
  go_enter Tryz.func20, Tryz.ntmps20
  go_wp2_with fail
  refine name_calls ?_; intro v1 hv1
  have X1 : Hid (Chg (0) (0) w v1) := zx hv1
  have t1 := X1.out.size
  have Ev1 := zq ((Ex.refl w).chg X1.out (by omega))
  have KX : Hid (Blk v1 (w.heap.size) 34 [.slice a.b x.table.buckets.length a.bc, .slice a.f x.table.frames.length a.fc, .slice a.l x.cache.lines.length a.lc, .int .i64 x.cache.hand, .int .i64 x.tags.count, .int .i64 x.tags.next, .int .i64 x.tags.round, .slice a.o x.tags.owns.length a.oc, .int .i64 x.space]) := zk hv1
  have lX : w.heap.size < v1.heap.size := KX.out.lt
  have KY : Hid (Blk v1 (w.heap.size + 1) 34 [.slice b.b y.table.buckets.length b.bc, .slice b.f y.table.frames.length b.fc, .slice b.l y.cache.lines.length b.lc, .int .i64 y.cache.hand, .int .i64 y.tags.count, .int .i64 y.tags.next, .int .i64 y.tags.round, .slice b.o y.tags.owns.length b.oc, .int .i64 y.space]) := zk hv1
  have lY : w.heap.size + 1 < v1.heap.size := KY.out.lt
  have DX := zq (HX.out.ex Ev1.out)
  have DY := zq (HY.out.ex Ev1.out)
  clear hv1
  refine (C1.out _ DX.out DY.out).mono ?_; rintro r w1 ⟨rfl, hb1⟩
  have Y1 := zq (Chg.of_ex hb1)
  have s1 := Y1.out.size
  have Ew1 := zq (Ev1.out.chg Y1.out (by omega))
  clear hb1
  replace KX := zq (KX.out.chg Y1.out (by omega))
  replace KY := zq (KY.out.chg Y1.out (by omega))
  replace DX := zq (HX.out.ex Ew1.out)
  replace DY := zq (HY.out.ex Ew1.out)
  obtain ⟨qX0, qX1, qX2, qX3, qX4, qX5, qX6, qX7, qX8⟩ := KX.out.c9
  have jX := KX.out.lt
  obtain ⟨qY0, qY1, qY2, qY3, qY4, qY5, qY6, qY7, qY8⟩ := KY.out.c9
  have jY := KY.out.lt
  go_wp2_with fail
  refine name_calls ?_; intro v2 hv2
  have X2 : Hid (Chg (0) (0) w1 v2) := zx hv2
  have t2 := X2.out.size
  have Ev2 := zq (Ew1.out.chg X2.out (by omega))
  clear qX0 qX1 qX2 qX3 qX4 qX5 qX6 qX7 qX8 jX
  clear qY0 qY1 qY2 qY3 qY4 qY5 qY6 qY7 qY8 jY
  replace KX := zq (KX.out.chg X2.out (by omega))
  replace KY := zq (KY.out.chg X2.out (by omega))
  replace DX := zq (HX.out.ex Ev2.out)
  replace DY := zq (HY.out.ex Ev2.out)
  clear hv2
  refine (C2.out _ DX.out DY.out).mono ?_; rintro r w2 ⟨rfl, hb2⟩
  have Y2 := zq (Chg.of_ex hb2)
  have s2 := Y2.out.size
  have Ew2 := zq (Ev2.out.chg Y2.out (by omega))
  clear hb2
  replace KX := zq (KX.out.chg Y2.out (by omega))
  replace KY := zq (KY.out.chg Y2.out (by omega))
  replace DX := zq (HX.out.ex Ew2.out)
  replace DY := zq (HY.out.ex Ew2.out)
  obtain ⟨qX0, qX1, qX2, qX3, qX4, qX5, qX6, qX7, qX8⟩ := KX.out.c9
  have jX := KX.out.lt
  obtain ⟨qY0, qY1, qY2, qY3, qY4, qY5, qY6, qY7, qY8⟩ := KY.out.c9
  have jY := KY.out.lt
  go_wp2_with fail
  refine name_calls ?_; intro v3 hv3
  have X3 : Hid (Chg (0) (0) w2 v3) := zx hv3
  have t3 := X3.out.size
  have Ev3 := zq (Ew2.out.chg X3.out (by omega))
  clear qX0 qX1 qX2 qX3 qX4 qX5 qX6 qX7 qX8 jX
  clear qY0 qY1 qY2 qY3 qY4 qY5 qY6 qY7 qY8 jY
  replace KX := zq (KX.out.chg X3.out (by omega))
  replace KY := zq (KY.out.chg X3.out (by omega))
  replace DX := zq (HX.out.ex Ev3.out)
  replace DY := zq (HY.out.ex Ev3.out)
  clear hv3
  refine (C3.out _ DX.out DY.out).mono ?_; rintro r w3 ⟨rfl, hb3⟩
  have Y3 := zq (Chg.of_ex hb3)
  have s3 := Y3.out.size
  have Ew3 := zq (Ev3.out.chg Y3.out (by omega))
  clear hb3
  replace KX := zq (KX.out.chg Y3.out (by omega))
  replace KY := zq (KY.out.chg Y3.out (by omega))
  replace DX := zq (HX.out.ex Ew3.out)
  replace DY := zq (HY.out.ex Ew3.out)
  obtain ⟨qX0, qX1, qX2, qX3, qX4, qX5, qX6, qX7, qX8⟩ := KX.out.c9
  have jX := KX.out.lt
  obtain ⟨qY0, qY1, qY2, qY3, qY4, qY5, qY6, qY7, qY8⟩ := KY.out.c9
  have jY := KY.out.lt
  go_wp2
  go_ret
  exact ⟨rfl, Ew3.out⟩
 rw [h3] at C3
 have e : eqB x y = (x.space == y.space) := by rw [Bool.eq_iff_iff, eqB_true, HE.out, beq_iff_eq]; exact ⟨fun h => h.2.2.2, fun h => ⟨eqB_true.1 h1, eqB_true.1 h2, eqB_true.1 h3, h⟩⟩
 rw [e]
 clear e h1 h2 h3
 go_enter Tryz.func20, Tryz.ntmps20
 go_wp2_with fail
 refine name_calls ?_; intro v1 hv1
 have X1 : Hid (Chg (0) (0) w v1) := zx hv1
 have t1 := X1.out.size
 have Ev1 := zq ((Ex.refl w).chg X1.out (by omega))
 have KX : Hid (Blk v1 (w.heap.size) 34 [.slice a.b x.table.buckets.length a.bc, .slice a.f x.table.frames.length a.fc, .slice a.l x.cache.lines.length a.lc, .int .i64 x.cache.hand, .int .i64 x.tags.count, .int .i64 x.tags.next, .int .i64 x.tags.round, .slice a.o x.tags.owns.length a.oc, .int .i64 x.space]) := zk hv1
 have lX : w.heap.size < v1.heap.size := KX.out.lt
 have KY : Hid (Blk v1 (w.heap.size + 1) 34 [.slice b.b y.table.buckets.length b.bc, .slice b.f y.table.frames.length b.fc, .slice b.l y.cache.lines.length b.lc, .int .i64 y.cache.hand, .int .i64 y.tags.count, .int .i64 y.tags.next, .int .i64 y.tags.round, .slice b.o y.tags.owns.length b.oc, .int .i64 y.space]) := zk hv1
 have lY : w.heap.size + 1 < v1.heap.size := KY.out.lt
 have DX := zq (HX.out.ex Ev1.out)
 have DY := zq (HY.out.ex Ev1.out)
 clear hv1
 refine (C1.out _ DX.out DY.out).mono ?_; rintro r w1 ⟨rfl, hb1⟩
 have Y1 := zq (Chg.of_ex hb1)
 have s1 := Y1.out.size
 have Ew1 := zq (Ev1.out.chg Y1.out (by omega))
 clear hb1
 replace KX := zq (KX.out.chg Y1.out (by omega))
 replace KY := zq (KY.out.chg Y1.out (by omega))
 replace DX := zq (HX.out.ex Ew1.out)
 replace DY := zq (HY.out.ex Ew1.out)
 obtain ⟨qX0, qX1, qX2, qX3, qX4, qX5, qX6, qX7, qX8⟩ := KX.out.c9
 have jX := KX.out.lt
 obtain ⟨qY0, qY1, qY2, qY3, qY4, qY5, qY6, qY7, qY8⟩ := KY.out.c9
 have jY := KY.out.lt
 go_wp2_with fail
 refine name_calls ?_; intro v2 hv2
 have X2 : Hid (Chg (0) (0) w1 v2) := zx hv2
 have t2 := X2.out.size
 have Ev2 := zq (Ew1.out.chg X2.out (by omega))
 clear qX0 qX1 qX2 qX3 qX4 qX5 qX6 qX7 qX8 jX
 clear qY0 qY1 qY2 qY3 qY4 qY5 qY6 qY7 qY8 jY
 replace KX := zq (KX.out.chg X2.out (by omega))
 replace KY := zq (KY.out.chg X2.out (by omega))
 replace DX := zq (HX.out.ex Ev2.out)
 replace DY := zq (HY.out.ex Ev2.out)
 clear hv2
 refine (C2.out _ DX.out DY.out).mono ?_; rintro r w2 ⟨rfl, hb2⟩
 have Y2 := zq (Chg.of_ex hb2)
 have s2 := Y2.out.size
 have Ew2 := zq (Ev2.out.chg Y2.out (by omega))
 clear hb2
 replace KX := zq (KX.out.chg Y2.out (by omega))
 replace KY := zq (KY.out.chg Y2.out (by omega))
 replace DX := zq (HX.out.ex Ew2.out)
 replace DY := zq (HY.out.ex Ew2.out)
 obtain ⟨qX0, qX1, qX2, qX3, qX4, qX5, qX6, qX7, qX8⟩ := KX.out.c9
 have jX := KX.out.lt
 obtain ⟨qY0, qY1, qY2, qY3, qY4, qY5, qY6, qY7, qY8⟩ := KY.out.c9
 have jY := KY.out.lt
 go_wp2_with fail
 refine name_calls ?_; intro v3 hv3
 have X3 : Hid (Chg (0) (0) w2 v3) := zx hv3
 have t3 := X3.out.size
 have Ev3 := zq (Ew2.out.chg X3.out (by omega))
 clear qX0 qX1 qX2 qX3 qX4 qX5 qX6 qX7 qX8 jX
 clear qY0 qY1 qY2 qY3 qY4 qY5 qY6 qY7 qY8 jY
 replace KX := zq (KX.out.chg X3.out (by omega))
 replace KY := zq (KY.out.chg X3.out (by omega))
 replace DX := zq (HX.out.ex Ev3.out)
 replace DY := zq (HY.out.ex Ev3.out)
 clear hv3
 refine (C3.out _ DX.out DY.out).mono ?_; rintro r w3 ⟨rfl, hb3⟩
 have Y3 := zq (Chg.of_ex hb3)
 have s3 := Y3.out.size
 have Ew3 := zq (Ev3.out.chg Y3.out (by omega))
 clear hb3
 replace KX := zq (KX.out.chg Y3.out (by omega))
 replace KY := zq (KY.out.chg Y3.out (by omega))
 replace DX := zq (HX.out.ex Ew3.out)
 replace DY := zq (HY.out.ex Ew3.out)
 obtain ⟨qX0, qX1, qX2, qX3, qX4, qX5, qX6, qX7, qX8⟩ := KX.out.c9
 have jX := KX.out.lt
 obtain ⟨qY0, qY1, qY2, qY3, qY4, qY5, qY6, qY7, qY8⟩ := KY.out.c9
 have jY := KY.out.lt
 go_wp2
 go_ret
 exact ⟨rfl, Ew3.out⟩

set_option maxHeartbeats 2000000 in
theorem machSameS_c (x y : MachD) (a b : MA) (w : World) (hx : HasM w x a) (hy : HasM w y b) (hf : FewM x) (hg : FewM y) :
  Calls Tryz.prog 22 #[.agg #[.slice a.b x.table.buckets.length a.bc, .slice a.f x.table.frames.length a.fc, .slice a.l x.cache.lines.length a.lc, .int .i64 x.cache.hand, .int .i64 x.tags.count, .int .i64 x.tags.next, .int .i64 x.tags.round, .slice a.o x.tags.owns.length a.oc, .int .i64 x.space], .agg #[.slice b.b y.table.buckets.length b.bc, .slice b.f y.table.frames.length b.fc, .slice b.l y.cache.lines.length b.lc, .int .i64 y.cache.hand, .int .i64 y.tags.count, .int .i64 y.tags.next, .int .i64 y.tags.round, .slice b.o y.tags.owns.length b.oc, .int .i64 y.space]] w fun r w' => r = .returned (.bool (eqB x y)) ∧ Ex w w' := by
 have C1 := zq (fun w (h1 : HasM w x a) (h2 : HasM w y b) => tableSameS_c x.table y.table a.b a.bc a.f a.fc b.b b.bc b.f b.fc w h1.b h1.f h2.b h2.f hf.b hf.f hg.b hg.f)
 have C2 := zq (fun w (h1 : HasM w x a) (h2 : HasM w y b) => cacheSameS_c x.cache y.cache a.l b.l a.lc b.lc w h1.l h2.l hf.l hg.l)
 have C3 := zq (fun w (h1 : HasM w x a) (h2 : HasM w y b) => tagsSameS_c x.tags y.tags a.o b.o a.oc b.oc w h1.o h2.o hf.o hg.o)
 have HX := zq hx
 have HY := zq hy
 have HE := zq (mach_eq x y)
 clear hx hy hf hg
 cases h1 : eqB x.table y.table
 ·rw [h1] at C1
  have e : eqB x y = false := by rw [eqB_false, Ne, HE.out]; intro h; have := eqB_false.1 h1; exact this h.1
  rw [e]
  clear e h1
  go_enter Tryz.func22, Tryz.ntmps22
  go_wp2_with fail
  refine name_calls ?_; intro v1 hv1
  have X1 : Hid (Chg (0) (0) w v1) := zx hv1
  have t1 := X1.out.size
  have Ev1 := zq ((Ex.refl w).chg X1.out (by omega))
  have KX : Hid (Blk v1 (w.heap.size) 34 [.slice a.b x.table.buckets.length a.bc, .slice a.f x.table.frames.length a.fc, .slice a.l x.cache.lines.length a.lc, .int .i64 x.cache.hand, .int .i64 x.tags.count, .int .i64 x.tags.next, .int .i64 x.tags.round, .slice a.o x.tags.owns.length a.oc, .int .i64 x.space]) := zk hv1
  have lX : w.heap.size < v1.heap.size := KX.out.lt
  have KY : Hid (Blk v1 (w.heap.size + 1) 34 [.slice b.b y.table.buckets.length b.bc, .slice b.f y.table.frames.length b.fc, .slice b.l y.cache.lines.length b.lc, .int .i64 y.cache.hand, .int .i64 y.tags.count, .int .i64 y.tags.next, .int .i64 y.tags.round, .slice b.o y.tags.owns.length b.oc, .int .i64 y.space]) := zk hv1
  have lY : w.heap.size + 1 < v1.heap.size := KY.out.lt
  have DX := zq (HX.out.ex Ev1.out)
  have DY := zq (HY.out.ex Ev1.out)
  clear hv1
  refine (C1.out _ DX.out DY.out).mono ?_; rintro r w1 ⟨rfl, hb1⟩
  have Y1 := zq (Chg.of_ex hb1)
  have s1 := Y1.out.size
  have Ew1 := zq (Ev1.out.chg Y1.out (by omega))
  clear hb1
  replace KX := zq (KX.out.chg Y1.out (by omega))
  replace KY := zq (KY.out.chg Y1.out (by omega))
  replace DX := zq (HX.out.ex Ew1.out)
  replace DY := zq (HY.out.ex Ew1.out)
  obtain ⟨qX0, qX1, qX2, qX3, qX4, qX5, qX6, qX7, qX8⟩ := KX.out.c9
  have jX := KX.out.lt
  obtain ⟨qY0, qY1, qY2, qY3, qY4, qY5, qY6, qY7, qY8⟩ := KY.out.c9
  have jY := KY.out.lt
  go_wp2
  go_ret
  exact ⟨rfl, Ew1.out⟩
 rw [h1] at C1
 cases h2 : eqB x.cache y.cache
 ·rw [h2] at C2
  have e : eqB x y = false := by rw [eqB_false, Ne, HE.out]; intro h; have := eqB_false.1 h2; exact this h.2.1
  rw [e]
  clear e h2
  go_enter Tryz.func22, Tryz.ntmps22
  go_wp2_with fail
  refine name_calls ?_; intro v1 hv1
  have X1 : Hid (Chg (0) (0) w v1) := zx hv1
  have t1 := X1.out.size
  have Ev1 := zq ((Ex.refl w).chg X1.out (by omega))
  have KX : Hid (Blk v1 (w.heap.size) 34 [.slice a.b x.table.buckets.length a.bc, .slice a.f x.table.frames.length a.fc, .slice a.l x.cache.lines.length a.lc, .int .i64 x.cache.hand, .int .i64 x.tags.count, .int .i64 x.tags.next, .int .i64 x.tags.round, .slice a.o x.tags.owns.length a.oc, .int .i64 x.space]) := zk hv1
  have lX : w.heap.size < v1.heap.size := KX.out.lt
  have KY : Hid (Blk v1 (w.heap.size + 1) 34 [.slice b.b y.table.buckets.length b.bc, .slice b.f y.table.frames.length b.fc, .slice b.l y.cache.lines.length b.lc, .int .i64 y.cache.hand, .int .i64 y.tags.count, .int .i64 y.tags.next, .int .i64 y.tags.round, .slice b.o y.tags.owns.length b.oc, .int .i64 y.space]) := zk hv1
  have lY : w.heap.size + 1 < v1.heap.size := KY.out.lt
  have DX := zq (HX.out.ex Ev1.out)
  have DY := zq (HY.out.ex Ev1.out)
  clear hv1
  refine (C1.out _ DX.out DY.out).mono ?_; rintro r w1 ⟨rfl, hb1⟩
  have Y1 := zq (Chg.of_ex hb1)
  have s1 := Y1.out.size
  have Ew1 := zq (Ev1.out.chg Y1.out (by omega))
  clear hb1
  replace KX := zq (KX.out.chg Y1.out (by omega))
  replace KY := zq (KY.out.chg Y1.out (by omega))
  replace DX := zq (HX.out.ex Ew1.out)
  replace DY := zq (HY.out.ex Ew1.out)
  obtain ⟨qX0, qX1, qX2, qX3, qX4, qX5, qX6, qX7, qX8⟩ := KX.out.c9
  have jX := KX.out.lt
  obtain ⟨qY0, qY1, qY2, qY3, qY4, qY5, qY6, qY7, qY8⟩ := KY.out.c9
  have jY := KY.out.lt
  go_wp2_with fail
  refine name_calls ?_; intro v2 hv2
  have X2 : Hid (Chg (0) (0) w1 v2) := zx hv2
  have t2 := X2.out.size
  have Ev2 := zq (Ew1.out.chg X2.out (by omega))
  clear qX0 qX1 qX2 qX3 qX4 qX5 qX6 qX7 qX8 jX
  clear qY0 qY1 qY2 qY3 qY4 qY5 qY6 qY7 qY8 jY
  replace KX := zq (KX.out.chg X2.out (by omega))
  replace KY := zq (KY.out.chg X2.out (by omega))
  replace DX := zq (HX.out.ex Ev2.out)
  replace DY := zq (HY.out.ex Ev2.out)
  clear hv2
  refine (C2.out _ DX.out DY.out).mono ?_; rintro r w2 ⟨rfl, hb2⟩
  have Y2 := zq (Chg.of_ex hb2)
  have s2 := Y2.out.size
  have Ew2 := zq (Ev2.out.chg Y2.out (by omega))
  clear hb2
  replace KX := zq (KX.out.chg Y2.out (by omega))
  replace KY := zq (KY.out.chg Y2.out (by omega))
  replace DX := zq (HX.out.ex Ew2.out)
  replace DY := zq (HY.out.ex Ew2.out)
  obtain ⟨qX0, qX1, qX2, qX3, qX4, qX5, qX6, qX7, qX8⟩ := KX.out.c9
  have jX := KX.out.lt
  obtain ⟨qY0, qY1, qY2, qY3, qY4, qY5, qY6, qY7, qY8⟩ := KY.out.c9
  have jY := KY.out.lt
  go_wp2
  go_ret
  exact ⟨rfl, Ew2.out⟩
 rw [h2] at C2
 cases h3 : eqB x.tags y.tags
 ·rw [h3] at C3
  have e : eqB x y = false := by rw [eqB_false, Ne, HE.out]; intro h; have := eqB_false.1 h3; exact this h.2.2.1
  rw [e]
  clear e h3
  go_enter Tryz.func22, Tryz.ntmps22
  go_wp2_with fail
  refine name_calls ?_; intro v1 hv1
  have X1 : Hid (Chg (0) (0) w v1) := zx hv1
  have t1 := X1.out.size
  have Ev1 := zq ((Ex.refl w).chg X1.out (by omega))
  have KX : Hid (Blk v1 (w.heap.size) 34 [.slice a.b x.table.buckets.length a.bc, .slice a.f x.table.frames.length a.fc, .slice a.l x.cache.lines.length a.lc, .int .i64 x.cache.hand, .int .i64 x.tags.count, .int .i64 x.tags.next, .int .i64 x.tags.round, .slice a.o x.tags.owns.length a.oc, .int .i64 x.space]) := zk hv1
  have lX : w.heap.size < v1.heap.size := KX.out.lt
  have KY : Hid (Blk v1 (w.heap.size + 1) 34 [.slice b.b y.table.buckets.length b.bc, .slice b.f y.table.frames.length b.fc, .slice b.l y.cache.lines.length b.lc, .int .i64 y.cache.hand, .int .i64 y.tags.count, .int .i64 y.tags.next, .int .i64 y.tags.round, .slice b.o y.tags.owns.length b.oc, .int .i64 y.space]) := zk hv1
  have lY : w.heap.size + 1 < v1.heap.size := KY.out.lt
  have DX := zq (HX.out.ex Ev1.out)
  have DY := zq (HY.out.ex Ev1.out)
  clear hv1
  refine (C1.out _ DX.out DY.out).mono ?_; rintro r w1 ⟨rfl, hb1⟩
  have Y1 := zq (Chg.of_ex hb1)
  have s1 := Y1.out.size
  have Ew1 := zq (Ev1.out.chg Y1.out (by omega))
  clear hb1
  replace KX := zq (KX.out.chg Y1.out (by omega))
  replace KY := zq (KY.out.chg Y1.out (by omega))
  replace DX := zq (HX.out.ex Ew1.out)
  replace DY := zq (HY.out.ex Ew1.out)
  obtain ⟨qX0, qX1, qX2, qX3, qX4, qX5, qX6, qX7, qX8⟩ := KX.out.c9
  have jX := KX.out.lt
  obtain ⟨qY0, qY1, qY2, qY3, qY4, qY5, qY6, qY7, qY8⟩ := KY.out.c9
  have jY := KY.out.lt
  go_wp2_with fail
  refine name_calls ?_; intro v2 hv2
  have X2 : Hid (Chg (0) (0) w1 v2) := zx hv2
  have t2 := X2.out.size
  have Ev2 := zq (Ew1.out.chg X2.out (by omega))
  clear qX0 qX1 qX2 qX3 qX4 qX5 qX6 qX7 qX8 jX
  clear qY0 qY1 qY2 qY3 qY4 qY5 qY6 qY7 qY8 jY
  replace KX := zq (KX.out.chg X2.out (by omega))
  replace KY := zq (KY.out.chg X2.out (by omega))
  replace DX := zq (HX.out.ex Ev2.out)
  replace DY := zq (HY.out.ex Ev2.out)
  clear hv2
  refine (C2.out _ DX.out DY.out).mono ?_; rintro r w2 ⟨rfl, hb2⟩
  have Y2 := zq (Chg.of_ex hb2)
  have s2 := Y2.out.size
  have Ew2 := zq (Ev2.out.chg Y2.out (by omega))
  clear hb2
  replace KX := zq (KX.out.chg Y2.out (by omega))
  replace KY := zq (KY.out.chg Y2.out (by omega))
  replace DX := zq (HX.out.ex Ew2.out)
  replace DY := zq (HY.out.ex Ew2.out)
  obtain ⟨qX0, qX1, qX2, qX3, qX4, qX5, qX6, qX7, qX8⟩ := KX.out.c9
  have jX := KX.out.lt
  obtain ⟨qY0, qY1, qY2, qY3, qY4, qY5, qY6, qY7, qY8⟩ := KY.out.c9
  have jY := KY.out.lt
  go_wp2_with fail
  refine name_calls ?_; intro v3 hv3
  have X3 : Hid (Chg (0) (0) w2 v3) := zx hv3
  have t3 := X3.out.size
  have Ev3 := zq (Ew2.out.chg X3.out (by omega))
  clear qX0 qX1 qX2 qX3 qX4 qX5 qX6 qX7 qX8 jX
  clear qY0 qY1 qY2 qY3 qY4 qY5 qY6 qY7 qY8 jY
  replace KX := zq (KX.out.chg X3.out (by omega))
  replace KY := zq (KY.out.chg X3.out (by omega))
  replace DX := zq (HX.out.ex Ev3.out)
  replace DY := zq (HY.out.ex Ev3.out)
  clear hv3
  refine (C3.out _ DX.out DY.out).mono ?_; rintro r w3 ⟨rfl, hb3⟩
  have Y3 := zq (Chg.of_ex hb3)
  have s3 := Y3.out.size
  have Ew3 := zq (Ev3.out.chg Y3.out (by omega))
  clear hb3
  replace KX := zq (KX.out.chg Y3.out (by omega))
  replace KY := zq (KY.out.chg Y3.out (by omega))
  replace DX := zq (HX.out.ex Ew3.out)
  replace DY := zq (HY.out.ex Ew3.out)
  obtain ⟨qX0, qX1, qX2, qX3, qX4, qX5, qX6, qX7, qX8⟩ := KX.out.c9
  have jX := KX.out.lt
  obtain ⟨qY0, qY1, qY2, qY3, qY4, qY5, qY6, qY7, qY8⟩ := KY.out.c9
  have jY := KY.out.lt
  go_wp2
  go_ret
  exact ⟨rfl, Ew3.out⟩
 rw [h3] at C3
 have e : eqB x y = (x.space == y.space) := by rw [Bool.eq_iff_iff, eqB_true, HE.out, beq_iff_eq]; exact ⟨fun h => h.2.2.2, fun h => ⟨eqB_true.1 h1, eqB_true.1 h2, eqB_true.1 h3, h⟩⟩
 rw [e]
 clear e h1 h2 h3
 go_enter Tryz.func22, Tryz.ntmps22
 go_wp2_with fail
 refine name_calls ?_; intro v1 hv1
 have X1 : Hid (Chg (0) (0) w v1) := zx hv1
 have t1 := X1.out.size
 have Ev1 := zq ((Ex.refl w).chg X1.out (by omega))
 have KX : Hid (Blk v1 (w.heap.size) 34 [.slice a.b x.table.buckets.length a.bc, .slice a.f x.table.frames.length a.fc, .slice a.l x.cache.lines.length a.lc, .int .i64 x.cache.hand, .int .i64 x.tags.count, .int .i64 x.tags.next, .int .i64 x.tags.round, .slice a.o x.tags.owns.length a.oc, .int .i64 x.space]) := zk hv1
 have lX : w.heap.size < v1.heap.size := KX.out.lt
 have KY : Hid (Blk v1 (w.heap.size + 1) 34 [.slice b.b y.table.buckets.length b.bc, .slice b.f y.table.frames.length b.fc, .slice b.l y.cache.lines.length b.lc, .int .i64 y.cache.hand, .int .i64 y.tags.count, .int .i64 y.tags.next, .int .i64 y.tags.round, .slice b.o y.tags.owns.length b.oc, .int .i64 y.space]) := zk hv1
 have lY : w.heap.size + 1 < v1.heap.size := KY.out.lt
 have DX := zq (HX.out.ex Ev1.out)
 have DY := zq (HY.out.ex Ev1.out)
 clear hv1
 refine (C1.out _ DX.out DY.out).mono ?_; rintro r w1 ⟨rfl, hb1⟩
 have Y1 := zq (Chg.of_ex hb1)
 have s1 := Y1.out.size
 have Ew1 := zq (Ev1.out.chg Y1.out (by omega))
 clear hb1
 replace KX := zq (KX.out.chg Y1.out (by omega))
 replace KY := zq (KY.out.chg Y1.out (by omega))
 replace DX := zq (HX.out.ex Ew1.out)
 replace DY := zq (HY.out.ex Ew1.out)
 obtain ⟨qX0, qX1, qX2, qX3, qX4, qX5, qX6, qX7, qX8⟩ := KX.out.c9
 have jX := KX.out.lt
 obtain ⟨qY0, qY1, qY2, qY3, qY4, qY5, qY6, qY7, qY8⟩ := KY.out.c9
 have jY := KY.out.lt
 go_wp2_with fail
 refine name_calls ?_; intro v2 hv2
 have X2 : Hid (Chg (0) (0) w1 v2) := zx hv2
 have t2 := X2.out.size
 have Ev2 := zq (Ew1.out.chg X2.out (by omega))
 clear qX0 qX1 qX2 qX3 qX4 qX5 qX6 qX7 qX8 jX
 clear qY0 qY1 qY2 qY3 qY4 qY5 qY6 qY7 qY8 jY
 replace KX := zq (KX.out.chg X2.out (by omega))
 replace KY := zq (KY.out.chg X2.out (by omega))
 replace DX := zq (HX.out.ex Ev2.out)
 replace DY := zq (HY.out.ex Ev2.out)
 clear hv2
 refine (C2.out _ DX.out DY.out).mono ?_; rintro r w2 ⟨rfl, hb2⟩
 have Y2 := zq (Chg.of_ex hb2)
 have s2 := Y2.out.size
 have Ew2 := zq (Ev2.out.chg Y2.out (by omega))
 clear hb2
 replace KX := zq (KX.out.chg Y2.out (by omega))
 replace KY := zq (KY.out.chg Y2.out (by omega))
 replace DX := zq (HX.out.ex Ew2.out)
 replace DY := zq (HY.out.ex Ew2.out)
 obtain ⟨qX0, qX1, qX2, qX3, qX4, qX5, qX6, qX7, qX8⟩ := KX.out.c9
 have jX := KX.out.lt
 obtain ⟨qY0, qY1, qY2, qY3, qY4, qY5, qY6, qY7, qY8⟩ := KY.out.c9
 have jY := KY.out.lt
 go_wp2_with fail
 refine name_calls ?_; intro v3 hv3
 have X3 : Hid (Chg (0) (0) w2 v3) := zx hv3
 have t3 := X3.out.size
 have Ev3 := zq (Ew2.out.chg X3.out (by omega))
 clear qX0 qX1 qX2 qX3 qX4 qX5 qX6 qX7 qX8 jX
 clear qY0 qY1 qY2 qY3 qY4 qY5 qY6 qY7 qY8 jY
 replace KX := zq (KX.out.chg X3.out (by omega))
 replace KY := zq (KY.out.chg X3.out (by omega))
 replace DX := zq (HX.out.ex Ev3.out)
 replace DY := zq (HY.out.ex Ev3.out)
 clear hv3
 refine (C3.out _ DX.out DY.out).mono ?_; rintro r w3 ⟨rfl, hb3⟩
 have Y3 := zq (Chg.of_ex hb3)
 have s3 := Y3.out.size
 have Ew3 := zq (Ev3.out.chg Y3.out (by omega))
 clear hb3
 replace KX := zq (KX.out.chg Y3.out (by omega))
 replace KY := zq (KY.out.chg Y3.out (by omega))
 replace DX := zq (HX.out.ex Ew3.out)
 replace DY := zq (HY.out.ex Ew3.out)
 obtain ⟨qX0, qX1, qX2, qX3, qX4, qX5, qX6, qX7, qX8⟩ := KX.out.c9
 have jX := KX.out.lt
 obtain ⟨qY0, qY1, qY2, qY3, qY4, qY5, qY6, qY7, qY8⟩ := KY.out.c9
 have jY := KY.out.lt
 go_wp2
 go_ret
 exact ⟨rfl, Ew3.out⟩

end Go.Proofs.YtbdlpbladpppjaaGreatDoor

/- Contracts of the small functions over Bool: comparing, copying, counting, marking. Written by a program of mine from one pattern. -/
namespace Go.Proofs.YtbdlpbladpppjaaGreatDoor
open Go.ChangeShapes Go.WideShapes Go.ChangeAt Go.RowKit
open Rec (sz cs)
set_option linter.unusedVariables false
set_option maxRecDepth 100000

theorem infoMBool : (Tryz.prog.info? 4).map (fun i => (i.zero, i.size, i.bytes)) = some (some (.bool false), 1, 1) := by kernel_rfl

set_option maxHeartbeats 1000000 in
theorem equalBool_c (A B : Option Addr) (c d : Nat) (xs ys : List Bool) (w : World) (hx : Rd w A xs) (hy : Rd w B ys) (hn : xs.length ≤ 1048576) (hm : ys.length ≤ 1048576) :
   Calls Tryz.prog 21 #[.slice A xs.length c, .slice B ys.length d] w
   fun r w' => r = .returned (.bool (eqB xs ys)) ∧ Ex w w' := by
 by_cases hl : xs.length = ys.length
 ·obtain ⟨n, hn1⟩ : ∃ n, n = xs.length := ⟨_, rfl⟩
  obtain ⟨m, hm1⟩ : ∃ m, m = ys.length := ⟨_, rfl⟩
  rw [← hn1, ← hm1]
  obtain rfl : n = m := by omega
  have hn' : n ≤ 1048576 := by omega
  have HX := zq hn1
  have HY := zq hm1
  have H1 := zq hx
  have H2 := zq hy
  clear hn hm hn1 hm1 hx hy hl
  go_enter Tryz.func21, Tryz.ntmps21
  go_wp2
  go_loopw [13] (fun i wr => ∃ k : Nat, k ≤ n ∧ i = .int .i64 k ∧ Ex w wr ∧ xs.take k = ys.take k) (fun i _ => n - (intOf i).toNat)
  case atStart => exact ⟨0, Nat.zero_le _, rfl, Ex.refl _, rfl⟩
  case round =>
   obtain ⟨k, hk, rfl, hbel, htk⟩ := hrel
   have HT := zq htk
   clear htk
   by_cases hlt : k < n
   ·obtain ⟨b1, o1, x, rfl, hb1, hxk, h0⟩ := Rd.bool (H1.out.ex hbel) (k := k) (by have := HX.out; omega)
    obtain ⟨b2, o2, y, rfl, hb2, hyk, g0⟩ := Rd.bool (H2.out.ex hbel) (k := k) (by have := HY.out; omega)
    have HXK := zq hxk
    have HYK := zq hyk
    clear hxk hyk
    cases hxy : eqB x y
    ·have hne : x ≠ y := eqB_false.1 hxy
     have hnb : (!(x == y)) = true := by simpa using hne
     go_wp2_with fail
     go_quiet (fail)
     go_wp2
     go_ret
     exact ⟨ret_bool (by rw [eq_comm, eqB_false]; exact ne_of_elem HXK.out HYK.out hne), hbel.drewN _⟩
    ·have HE := zq (eqB_true.1 hxy)
     have hnb : (!(x == y)) = false := by have := HE.out; simpa using this
     go_wp2_with fail
     go_quiet (fail)
     go_wp2
     go_roundw
     case rel => exact ⟨k + 1, by omega, by go_num, hbel.drewN _, (take_eq_step HXK.out HYK.out).2 ⟨HT.out, HE.out⟩⟩
     case measure => simp [intOf]; omega
   ·go_wp2
    go_ret
    exact ⟨ret_bool (by rw [eq_comm, eqB_true]; exact eq_of_take HX.out.symm HY.out.symm (by rw [show n = k from by omega]; exact HT.out)), hbel⟩
 ·have hne : ((xs.length : Int) != (ys.length : Int)) = true := by simp; omega
  go_enter Tryz.func21, Tryz.ntmps21
  go_wp2
  go_ret
  exact ⟨ret_bool (by rw [eq_comm, eqB_false]; intro h; exact hl (by rw [h])), Ex.refl _⟩
end Go.Proofs.YtbdlpbladpppjaaGreatDoor

/- Contracts over whole memories. -/
namespace Go.Proofs.YtbdlpbladpppjaaGreatDoor
open Go.ChangeShapes Go.WideShapes Go.ChangeAt Go.RowKit
open Rec (sz cs)
set_option linter.unusedVariables false
set_option maxRecDepth 100000

/-- A memory's slices read as its lists. -/
structure HasE (w : World) (e : MemD) (a : MA) (K : Option Addr) : Prop where
 m : HasM w e.mach a
 k : Rd w K e.marks
theorem HasE.ex {w w' : World} {m : MemD} {a : MA} {K : Option Addr} (h : HasE w m a K) (k : Ex w w') : HasE w' m a K := ⟨h.m.ex k, h.k.ex k⟩
theorem HasE.drew {w : World} {m : MemD} {a : MA} {K : Option Addr} (h : HasE w m a K) : HasE w.drew m a K := ⟨h.m.drew, h.k⟩
structure FewE (e : MemD) : Prop where
 m : FewM e.mach
 k : e.marks.length ≤ 1048576
structure LenE (e : MemD) : Prop where
 m : LenM e.mach
 k : e.marks.length ≤ maxLen
structure CapE (e : MemD) (a : MA) (kc : Nat) : Prop where
 m : CapM e.mach a
 k : e.marks.length ≤ kc
/-- A memory's slices are the call's own. -/
structure FrE (w : World) (B : Nat) (e : MemD) (a : MA) (K : Option Addr) (kc : Nat) : Prop where
 m : FrM w B e.mach a
 k : Fr 4 w B K kc e.marks
theorem FrE.has {w : World} {B : Nat} {m : MemD} {a : MA} {K : Option Addr} {k : Nat} (h : FrE w B m a K k) : HasE w m a K := ⟨h.m.has, h.k.rd⟩
theorem FrE.cap {w : World} {B : Nat} {m : MemD} {a : MA} {K : Option Addr} {k : Nat} (h : FrE w B m a K k) : CapE m a k := ⟨h.m.cap, h.k.le⟩
theorem FrE.ex {w w' : World} {B : Nat} {m : MemD} {a : MA} {K : Option Addr} {k : Nat} (h : FrE w B m a K k) (e : Ex w w') : FrE w' B m a K k := ⟨h.m.ex e, h.k.ex e⟩

set_option maxHeartbeats 1000000 in
theorem memSameI_c (x y : MemD) (a b : MA) (K L : Option Addr) (k l : Nat) (w : World) (hx : HasE w x a K) (hy : HasE w y b L) (hf : FewE x) (hg : FewE y) :
  Calls Tryz.prog 10 #[.agg #[.slice a.b x.mach.table.buckets.length a.bc, .slice a.f x.mach.table.frames.length a.fc, .slice a.l x.mach.cache.lines.length a.lc, .int .i64 x.mach.cache.hand, .int .i64 x.mach.tags.count, .int .i64 x.mach.tags.next, .int .i64 x.mach.tags.round, .slice a.o x.mach.tags.owns.length a.oc, .int .i64 x.mach.space, .slice K x.marks.length k, .int .i64 x.hand], .agg #[.slice b.b y.mach.table.buckets.length b.bc, .slice b.f y.mach.table.frames.length b.fc, .slice b.l y.mach.cache.lines.length b.lc, .int .i64 y.mach.cache.hand, .int .i64 y.mach.tags.count, .int .i64 y.mach.tags.next, .int .i64 y.mach.tags.round, .slice b.o y.mach.tags.owns.length b.oc, .int .i64 y.mach.space, .slice L y.marks.length l, .int .i64 y.hand]] w fun r w' => r = .returned (.bool (eqB x y)) ∧ Ex w w' := by
 have C1 := zq (fun w (h1 : HasE w x a K) (h2 : HasE w y b L) => machSameI_c x.mach y.mach a b w h1.m h2.m hf.m hg.m)
 have C2 := zq (fun w (h1 : HasE w x a K) (h2 : HasE w y b L) => equalBool_c K L k l x.marks y.marks w h1.k h2.k hf.k hg.k)
 have HX := zq hx
 have HY := zq hy
 have HE := zq (mem_eq x y)
 clear hx hy hf hg
 cases h1 : eqB x.mach y.mach
 ·rw [h1] at C1
  have e : eqB x y = false := by rw [eqB_false, Ne, HE.out]; intro h; exact eqB_false.1 h1 h.1
  rw [e]
  clear e h1
  go_enter Tryz.func10, Tryz.ntmps10
  go_wp2_with fail
  refine name_calls ?_; intro v1 hv1
  have X1 : Hid (Chg (0) (0) w v1) := zx hv1
  have t1 := X1.out.size
  have Ev1 := zq ((Ex.refl w).chg X1.out (by omega))
  have KX : Hid (Blk v1 (w.heap.size) 37 [.slice a.b x.mach.table.buckets.length a.bc, .slice a.f x.mach.table.frames.length a.fc, .slice a.l x.mach.cache.lines.length a.lc, .int .i64 x.mach.cache.hand, .int .i64 x.mach.tags.count, .int .i64 x.mach.tags.next, .int .i64 x.mach.tags.round, .slice a.o x.mach.tags.owns.length a.oc, .int .i64 x.mach.space, .slice K x.marks.length k, .int .i64 x.hand]) := zk hv1
  have lX : w.heap.size < v1.heap.size := KX.out.lt
  have KY : Hid (Blk v1 (w.heap.size + 1) 37 [.slice b.b y.mach.table.buckets.length b.bc, .slice b.f y.mach.table.frames.length b.fc, .slice b.l y.mach.cache.lines.length b.lc, .int .i64 y.mach.cache.hand, .int .i64 y.mach.tags.count, .int .i64 y.mach.tags.next, .int .i64 y.mach.tags.round, .slice b.o y.mach.tags.owns.length b.oc, .int .i64 y.mach.space, .slice L y.marks.length l, .int .i64 y.hand]) := zk hv1
  have lY : w.heap.size + 1 < v1.heap.size := KY.out.lt
  have DX := zq (HX.out.ex Ev1.out)
  have DY := zq (HY.out.ex Ev1.out)
  clear hv1
  refine (C1.out _ DX.out DY.out).mono ?_; rintro r w1 ⟨rfl, hb1⟩
  have Y1 := zq (Chg.of_ex hb1)
  have s1 := Y1.out.size
  have Ew1 := zq (Ev1.out.chg Y1.out (by omega))
  clear hb1
  replace KX := zq (KX.out.chg Y1.out (by omega))
  replace KY := zq (KY.out.chg Y1.out (by omega))
  replace DX := zq (HX.out.ex Ew1.out)
  replace DY := zq (HY.out.ex Ew1.out)
  obtain ⟨qX0, qX1, qX2, qX3, qX4, qX5, qX6, qX7, qX8, qX9, qX10⟩ := KX.out.c11
  have jX := KX.out.lt
  obtain ⟨qY0, qY1, qY2, qY3, qY4, qY5, qY6, qY7, qY8, qY9, qY10⟩ := KY.out.c11
  have jY := KY.out.lt
  go_wp2
  go_ret
  exact ⟨rfl, Ew1.out⟩
 rw [h1] at C1
 cases h2 : eqB x.marks y.marks
 ·rw [h2] at C2
  have e : eqB x y = false := by rw [eqB_false, Ne, HE.out]; intro h; exact eqB_false.1 h2 h.2.1
  rw [e]
  clear e h1 h2
  go_enter Tryz.func10, Tryz.ntmps10
  go_wp2_with fail
  refine name_calls ?_; intro v1 hv1
  have X1 : Hid (Chg (0) (0) w v1) := zx hv1
  have t1 := X1.out.size
  have Ev1 := zq ((Ex.refl w).chg X1.out (by omega))
  have KX : Hid (Blk v1 (w.heap.size) 37 [.slice a.b x.mach.table.buckets.length a.bc, .slice a.f x.mach.table.frames.length a.fc, .slice a.l x.mach.cache.lines.length a.lc, .int .i64 x.mach.cache.hand, .int .i64 x.mach.tags.count, .int .i64 x.mach.tags.next, .int .i64 x.mach.tags.round, .slice a.o x.mach.tags.owns.length a.oc, .int .i64 x.mach.space, .slice K x.marks.length k, .int .i64 x.hand]) := zk hv1
  have lX : w.heap.size < v1.heap.size := KX.out.lt
  have KY : Hid (Blk v1 (w.heap.size + 1) 37 [.slice b.b y.mach.table.buckets.length b.bc, .slice b.f y.mach.table.frames.length b.fc, .slice b.l y.mach.cache.lines.length b.lc, .int .i64 y.mach.cache.hand, .int .i64 y.mach.tags.count, .int .i64 y.mach.tags.next, .int .i64 y.mach.tags.round, .slice b.o y.mach.tags.owns.length b.oc, .int .i64 y.mach.space, .slice L y.marks.length l, .int .i64 y.hand]) := zk hv1
  have lY : w.heap.size + 1 < v1.heap.size := KY.out.lt
  have DX := zq (HX.out.ex Ev1.out)
  have DY := zq (HY.out.ex Ev1.out)
  clear hv1
  refine (C1.out _ DX.out DY.out).mono ?_; rintro r w1 ⟨rfl, hb1⟩
  have Y1 := zq (Chg.of_ex hb1)
  have s1 := Y1.out.size
  have Ew1 := zq (Ev1.out.chg Y1.out (by omega))
  clear hb1
  replace KX := zq (KX.out.chg Y1.out (by omega))
  replace KY := zq (KY.out.chg Y1.out (by omega))
  replace DX := zq (HX.out.ex Ew1.out)
  replace DY := zq (HY.out.ex Ew1.out)
  obtain ⟨qX0, qX1, qX2, qX3, qX4, qX5, qX6, qX7, qX8, qX9, qX10⟩ := KX.out.c11
  have jX := KX.out.lt
  obtain ⟨qY0, qY1, qY2, qY3, qY4, qY5, qY6, qY7, qY8, qY9, qY10⟩ := KY.out.c11
  have jY := KY.out.lt
  go_wp2_with fail
  refine name_calls ?_; intro v2 hv2
  have X2 : Hid (Chg (0) (0) w1 v2) := zx hv2
  have t2 := X2.out.size
  have Ev2 := zq (Ew1.out.chg X2.out (by omega))
  clear qX0 qX1 qX2 qX3 qX4 qX5 qX6 qX7 qX8 qX9 qX10 jX
  clear qY0 qY1 qY2 qY3 qY4 qY5 qY6 qY7 qY8 qY9 qY10 jY
  replace KX := zq (KX.out.chg X2.out (by omega))
  replace KY := zq (KY.out.chg X2.out (by omega))
  replace DX := zq (HX.out.ex Ev2.out)
  replace DY := zq (HY.out.ex Ev2.out)
  clear hv2
  refine (C2.out _ DX.out DY.out).mono ?_; rintro r w2 ⟨rfl, hb2⟩
  have Y2 := zq (Chg.of_ex hb2)
  have s2 := Y2.out.size
  have Ew2 := zq (Ev2.out.chg Y2.out (by omega))
  clear hb2
  replace KX := zq (KX.out.chg Y2.out (by omega))
  replace KY := zq (KY.out.chg Y2.out (by omega))
  replace DX := zq (HX.out.ex Ew2.out)
  replace DY := zq (HY.out.ex Ew2.out)
  obtain ⟨qX0, qX1, qX2, qX3, qX4, qX5, qX6, qX7, qX8, qX9, qX10⟩ := KX.out.c11
  have jX := KX.out.lt
  obtain ⟨qY0, qY1, qY2, qY3, qY4, qY5, qY6, qY7, qY8, qY9, qY10⟩ := KY.out.c11
  have jY := KY.out.lt
  go_wp2
  go_ret
  exact ⟨rfl, Ew2.out⟩
 rw [h2] at C2
 have e : eqB x y = (x.hand == y.hand) := by rw [Bool.eq_iff_iff, eqB_true, HE.out, beq_iff_eq]; exact ⟨fun h => h.2.2, fun h => ⟨eqB_true.1 h1, eqB_true.1 h2, h⟩⟩
 rw [e]
 clear e h1 h2
 go_enter Tryz.func10, Tryz.ntmps10
 go_wp2_with fail
 refine name_calls ?_; intro v1 hv1
 have X1 : Hid (Chg (0) (0) w v1) := zx hv1
 have t1 := X1.out.size
 have Ev1 := zq ((Ex.refl w).chg X1.out (by omega))
 have KX : Hid (Blk v1 (w.heap.size) 37 [.slice a.b x.mach.table.buckets.length a.bc, .slice a.f x.mach.table.frames.length a.fc, .slice a.l x.mach.cache.lines.length a.lc, .int .i64 x.mach.cache.hand, .int .i64 x.mach.tags.count, .int .i64 x.mach.tags.next, .int .i64 x.mach.tags.round, .slice a.o x.mach.tags.owns.length a.oc, .int .i64 x.mach.space, .slice K x.marks.length k, .int .i64 x.hand]) := zk hv1
 have lX : w.heap.size < v1.heap.size := KX.out.lt
 have KY : Hid (Blk v1 (w.heap.size + 1) 37 [.slice b.b y.mach.table.buckets.length b.bc, .slice b.f y.mach.table.frames.length b.fc, .slice b.l y.mach.cache.lines.length b.lc, .int .i64 y.mach.cache.hand, .int .i64 y.mach.tags.count, .int .i64 y.mach.tags.next, .int .i64 y.mach.tags.round, .slice b.o y.mach.tags.owns.length b.oc, .int .i64 y.mach.space, .slice L y.marks.length l, .int .i64 y.hand]) := zk hv1
 have lY : w.heap.size + 1 < v1.heap.size := KY.out.lt
 have DX := zq (HX.out.ex Ev1.out)
 have DY := zq (HY.out.ex Ev1.out)
 clear hv1
 refine (C1.out _ DX.out DY.out).mono ?_; rintro r w1 ⟨rfl, hb1⟩
 have Y1 := zq (Chg.of_ex hb1)
 have s1 := Y1.out.size
 have Ew1 := zq (Ev1.out.chg Y1.out (by omega))
 clear hb1
 replace KX := zq (KX.out.chg Y1.out (by omega))
 replace KY := zq (KY.out.chg Y1.out (by omega))
 replace DX := zq (HX.out.ex Ew1.out)
 replace DY := zq (HY.out.ex Ew1.out)
 obtain ⟨qX0, qX1, qX2, qX3, qX4, qX5, qX6, qX7, qX8, qX9, qX10⟩ := KX.out.c11
 have jX := KX.out.lt
 obtain ⟨qY0, qY1, qY2, qY3, qY4, qY5, qY6, qY7, qY8, qY9, qY10⟩ := KY.out.c11
 have jY := KY.out.lt
 go_wp2_with fail
 refine name_calls ?_; intro v2 hv2
 have X2 : Hid (Chg (0) (0) w1 v2) := zx hv2
 have t2 := X2.out.size
 have Ev2 := zq (Ew1.out.chg X2.out (by omega))
 clear qX0 qX1 qX2 qX3 qX4 qX5 qX6 qX7 qX8 qX9 qX10 jX
 clear qY0 qY1 qY2 qY3 qY4 qY5 qY6 qY7 qY8 qY9 qY10 jY
 replace KX := zq (KX.out.chg X2.out (by omega))
 replace KY := zq (KY.out.chg X2.out (by omega))
 replace DX := zq (HX.out.ex Ev2.out)
 replace DY := zq (HY.out.ex Ev2.out)
 clear hv2
 refine (C2.out _ DX.out DY.out).mono ?_; rintro r w2 ⟨rfl, hb2⟩
 have Y2 := zq (Chg.of_ex hb2)
 have s2 := Y2.out.size
 have Ew2 := zq (Ev2.out.chg Y2.out (by omega))
 clear hb2
 replace KX := zq (KX.out.chg Y2.out (by omega))
 replace KY := zq (KY.out.chg Y2.out (by omega))
 replace DX := zq (HX.out.ex Ew2.out)
 replace DY := zq (HY.out.ex Ew2.out)
 obtain ⟨qX0, qX1, qX2, qX3, qX4, qX5, qX6, qX7, qX8, qX9, qX10⟩ := KX.out.c11
 have jX := KX.out.lt
 obtain ⟨qY0, qY1, qY2, qY3, qY4, qY5, qY6, qY7, qY8, qY9, qY10⟩ := KY.out.c11
 have jY := KY.out.lt
 go_wp2
 go_ret
 exact ⟨rfl, Ew2.out⟩

set_option maxHeartbeats 2000000 in
theorem memSameS_c (x y : MemD) (a b : MA) (K L : Option Addr) (k l : Nat) (w : World) (hx : HasE w x a K) (hy : HasE w y b L) (hf : FewE x) (hg : FewE y) :
  Calls Tryz.prog 11 #[.agg #[.slice a.b x.mach.table.buckets.length a.bc, .slice a.f x.mach.table.frames.length a.fc, .slice a.l x.mach.cache.lines.length a.lc, .int .i64 x.mach.cache.hand, .int .i64 x.mach.tags.count, .int .i64 x.mach.tags.next, .int .i64 x.mach.tags.round, .slice a.o x.mach.tags.owns.length a.oc, .int .i64 x.mach.space, .slice K x.marks.length k, .int .i64 x.hand], .agg #[.slice b.b y.mach.table.buckets.length b.bc, .slice b.f y.mach.table.frames.length b.fc, .slice b.l y.mach.cache.lines.length b.lc, .int .i64 y.mach.cache.hand, .int .i64 y.mach.tags.count, .int .i64 y.mach.tags.next, .int .i64 y.mach.tags.round, .slice b.o y.mach.tags.owns.length b.oc, .int .i64 y.mach.space, .slice L y.marks.length l, .int .i64 y.hand]] w fun r w' => r = .returned (.bool (eqB x y)) ∧ Ex w w' := by
 have C1 := zq (fun w (h1 : HasE w x a K) (h2 : HasE w y b L) => machSameS_c x.mach y.mach a b w h1.m h2.m hf.m hg.m)
 have HX := zq hx
 have HY := zq hy
 have HE := zq (mem_eq x y)
 have hn := hf.k
 have hm := hg.k
 clear hx hy hf hg
 cases h1 : eqB x.mach y.mach
 ·rw [h1] at C1
  have e : eqB x y = false := by rw [eqB_false, Ne, HE.out]; intro h; exact eqB_false.1 h1 h.1
  rw [e]
  clear e h1
  go_enter Tryz.func11, Tryz.ntmps11
  go_wp2_with fail
  refine name_calls ?_; intro v1 hv1
  have X1 : Hid (Chg (0) (0) w v1) := zx hv1
  have t1 := X1.out.size
  have Ev1 := zq ((Ex.refl w).chg X1.out (by omega))
  have KX : Hid (Blk v1 (w.heap.size) 37 [.slice a.b x.mach.table.buckets.length a.bc, .slice a.f x.mach.table.frames.length a.fc, .slice a.l x.mach.cache.lines.length a.lc, .int .i64 x.mach.cache.hand, .int .i64 x.mach.tags.count, .int .i64 x.mach.tags.next, .int .i64 x.mach.tags.round, .slice a.o x.mach.tags.owns.length a.oc, .int .i64 x.mach.space, .slice K x.marks.length k, .int .i64 x.hand]) := zk hv1
  have lX : w.heap.size < v1.heap.size := KX.out.lt
  have KY : Hid (Blk v1 (w.heap.size + 1) 37 [.slice b.b y.mach.table.buckets.length b.bc, .slice b.f y.mach.table.frames.length b.fc, .slice b.l y.mach.cache.lines.length b.lc, .int .i64 y.mach.cache.hand, .int .i64 y.mach.tags.count, .int .i64 y.mach.tags.next, .int .i64 y.mach.tags.round, .slice b.o y.mach.tags.owns.length b.oc, .int .i64 y.mach.space, .slice L y.marks.length l, .int .i64 y.hand]) := zk hv1
  have lY : w.heap.size + 1 < v1.heap.size := KY.out.lt
  have DX := zq (HX.out.ex Ev1.out)
  have DY := zq (HY.out.ex Ev1.out)
  clear hv1
  refine (C1.out _ DX.out DY.out).mono ?_; rintro r w1 ⟨rfl, hb1⟩
  have Y1 := zq (Chg.of_ex hb1)
  have s1 := Y1.out.size
  have Ew1 := zq (Ev1.out.chg Y1.out (by omega))
  clear hb1
  replace KX := zq (KX.out.chg Y1.out (by omega))
  replace KY := zq (KY.out.chg Y1.out (by omega))
  replace DX := zq (HX.out.ex Ew1.out)
  replace DY := zq (HY.out.ex Ew1.out)
  obtain ⟨qX0, qX1, qX2, qX3, qX4, qX5, qX6, qX7, qX8, qX9, qX10⟩ := KX.out.c11
  have jX := KX.out.lt
  obtain ⟨qY0, qY1, qY2, qY3, qY4, qY5, qY6, qY7, qY8, qY9, qY10⟩ := KY.out.c11
  have jY := KY.out.lt
  go_wp2
  go_ret
  exact ⟨rfl, Ew1.out⟩
 rw [h1] at C1
 cases h2 : (x.hand != y.hand)
 rotate_left
 ·have e : eqB x y = false := by rw [eqB_false, Ne, HE.out]; intro h; rw [h.2.2] at h2; simp at h2
  rw [e]
  clear e h1
  go_enter Tryz.func11, Tryz.ntmps11
  go_wp2_with fail
  refine name_calls ?_; intro v1 hv1
  have X1 : Hid (Chg (0) (0) w v1) := zx hv1
  have t1 := X1.out.size
  have Ev1 := zq ((Ex.refl w).chg X1.out (by omega))
  have KX : Hid (Blk v1 (w.heap.size) 37 [.slice a.b x.mach.table.buckets.length a.bc, .slice a.f x.mach.table.frames.length a.fc, .slice a.l x.mach.cache.lines.length a.lc, .int .i64 x.mach.cache.hand, .int .i64 x.mach.tags.count, .int .i64 x.mach.tags.next, .int .i64 x.mach.tags.round, .slice a.o x.mach.tags.owns.length a.oc, .int .i64 x.mach.space, .slice K x.marks.length k, .int .i64 x.hand]) := zk hv1
  have lX : w.heap.size < v1.heap.size := KX.out.lt
  have KY : Hid (Blk v1 (w.heap.size + 1) 37 [.slice b.b y.mach.table.buckets.length b.bc, .slice b.f y.mach.table.frames.length b.fc, .slice b.l y.mach.cache.lines.length b.lc, .int .i64 y.mach.cache.hand, .int .i64 y.mach.tags.count, .int .i64 y.mach.tags.next, .int .i64 y.mach.tags.round, .slice b.o y.mach.tags.owns.length b.oc, .int .i64 y.mach.space, .slice L y.marks.length l, .int .i64 y.hand]) := zk hv1
  have lY : w.heap.size + 1 < v1.heap.size := KY.out.lt
  have DX := zq (HX.out.ex Ev1.out)
  have DY := zq (HY.out.ex Ev1.out)
  clear hv1
  refine (C1.out _ DX.out DY.out).mono ?_; rintro r w1 ⟨rfl, hb1⟩
  have Y1 := zq (Chg.of_ex hb1)
  have s1 := Y1.out.size
  have Ew1 := zq (Ev1.out.chg Y1.out (by omega))
  clear hb1
  replace KX := zq (KX.out.chg Y1.out (by omega))
  replace KY := zq (KY.out.chg Y1.out (by omega))
  replace DX := zq (HX.out.ex Ew1.out)
  replace DY := zq (HY.out.ex Ew1.out)
  obtain ⟨qX0, qX1, qX2, qX3, qX4, qX5, qX6, qX7, qX8, qX9, qX10⟩ := KX.out.c11
  have jX := KX.out.lt
  obtain ⟨qY0, qY1, qY2, qY3, qY4, qY5, qY6, qY7, qY8, qY9, qY10⟩ := KY.out.c11
  have jY := KY.out.lt
  go_wp2
  go_ret
  exact ⟨rfl, Ew1.out⟩
 cases h3 : ((x.marks.length : Int) != (y.marks.length : Int))
 rotate_left
 ·have e : eqB x y = false := by rw [eqB_false, Ne, HE.out]; intro h; rw [h.2.1] at h3; simp at h3
  rw [e]
  clear e h1
  go_enter Tryz.func11, Tryz.ntmps11
  go_wp2_with fail
  refine name_calls ?_; intro v1 hv1
  have X1 : Hid (Chg (0) (0) w v1) := zx hv1
  have t1 := X1.out.size
  have Ev1 := zq ((Ex.refl w).chg X1.out (by omega))
  have KX : Hid (Blk v1 (w.heap.size) 37 [.slice a.b x.mach.table.buckets.length a.bc, .slice a.f x.mach.table.frames.length a.fc, .slice a.l x.mach.cache.lines.length a.lc, .int .i64 x.mach.cache.hand, .int .i64 x.mach.tags.count, .int .i64 x.mach.tags.next, .int .i64 x.mach.tags.round, .slice a.o x.mach.tags.owns.length a.oc, .int .i64 x.mach.space, .slice K x.marks.length k, .int .i64 x.hand]) := zk hv1
  have lX : w.heap.size < v1.heap.size := KX.out.lt
  have KY : Hid (Blk v1 (w.heap.size + 1) 37 [.slice b.b y.mach.table.buckets.length b.bc, .slice b.f y.mach.table.frames.length b.fc, .slice b.l y.mach.cache.lines.length b.lc, .int .i64 y.mach.cache.hand, .int .i64 y.mach.tags.count, .int .i64 y.mach.tags.next, .int .i64 y.mach.tags.round, .slice b.o y.mach.tags.owns.length b.oc, .int .i64 y.mach.space, .slice L y.marks.length l, .int .i64 y.hand]) := zk hv1
  have lY : w.heap.size + 1 < v1.heap.size := KY.out.lt
  have DX := zq (HX.out.ex Ev1.out)
  have DY := zq (HY.out.ex Ev1.out)
  clear hv1
  refine (C1.out _ DX.out DY.out).mono ?_; rintro r w1 ⟨rfl, hb1⟩
  have Y1 := zq (Chg.of_ex hb1)
  have s1 := Y1.out.size
  have Ew1 := zq (Ev1.out.chg Y1.out (by omega))
  clear hb1
  replace KX := zq (KX.out.chg Y1.out (by omega))
  replace KY := zq (KY.out.chg Y1.out (by omega))
  replace DX := zq (HX.out.ex Ew1.out)
  replace DY := zq (HY.out.ex Ew1.out)
  obtain ⟨qX0, qX1, qX2, qX3, qX4, qX5, qX6, qX7, qX8, qX9, qX10⟩ := KX.out.c11
  have jX := KX.out.lt
  obtain ⟨qY0, qY1, qY2, qY3, qY4, qY5, qY6, qY7, qY8, qY9, qY10⟩ := KY.out.c11
  have jY := KY.out.lt
  go_wp2
  go_ret
  exact ⟨rfl, Ew1.out⟩
 have HR : Hid (x.marks ≠ y.marks → eqB x y = false) := zq (fun hne => by rw [eqB_false, Ne, HE.out]; intro h; exact hne h.2.1)
 have HS : Hid (x.marks = y.marks → eqB x y = true) := zq (fun he => by rw [eqB_true, HE.out]; exact ⟨eqB_true.1 h1, he, by simpa using h2⟩)
 generalize eqB x y = res at HR HS ⊢
 have hl : x.marks.length = y.marks.length := by simp at h3; omega
 clear h1 HE
 obtain ⟨n, hn1⟩ : ∃ n, n = x.marks.length := ⟨_, rfl⟩
 have hn2 : y.marks.length = n := by omega
 have HN1 := zq hn1
 have HN2 := zq hn2
 rw [hn2, ← hn1]
 have hn' : n ≤ 1048576 := by omega
 clear hl hn1 hn2 hn hm
 go_enter Tryz.func11, Tryz.ntmps11
 go_wp2_with fail
 refine name_calls ?_; intro v1 hv1
 have X1 : Hid (Chg (0) (0) w v1) := zx hv1
 have t1 := X1.out.size
 have Ev1 := zq ((Ex.refl w).chg X1.out (by omega))
 have KX : Hid (Blk v1 (w.heap.size) 37 [.slice a.b x.mach.table.buckets.length a.bc, .slice a.f x.mach.table.frames.length a.fc, .slice a.l x.mach.cache.lines.length a.lc, .int .i64 x.mach.cache.hand, .int .i64 x.mach.tags.count, .int .i64 x.mach.tags.next, .int .i64 x.mach.tags.round, .slice a.o x.mach.tags.owns.length a.oc, .int .i64 x.mach.space, .slice K n k, .int .i64 x.hand]) := zk hv1
 have lX : w.heap.size < v1.heap.size := KX.out.lt
 have KY : Hid (Blk v1 (w.heap.size + 1) 37 [.slice b.b y.mach.table.buckets.length b.bc, .slice b.f y.mach.table.frames.length b.fc, .slice b.l y.mach.cache.lines.length b.lc, .int .i64 y.mach.cache.hand, .int .i64 y.mach.tags.count, .int .i64 y.mach.tags.next, .int .i64 y.mach.tags.round, .slice b.o y.mach.tags.owns.length b.oc, .int .i64 y.mach.space, .slice L n l, .int .i64 y.hand]) := zk hv1
 have lY : w.heap.size + 1 < v1.heap.size := KY.out.lt
 have DX := zq (HX.out.ex Ev1.out)
 have DY := zq (HY.out.ex Ev1.out)
 clear hv1
 refine (C1.out _ DX.out DY.out).mono ?_; rintro r w1 ⟨rfl, hb1⟩
 have Y1 := zq (Chg.of_ex hb1)
 have s1 := Y1.out.size
 have Ew1 := zq (Ev1.out.chg Y1.out (by omega))
 clear hb1
 replace KX := zq (KX.out.chg Y1.out (by omega))
 replace KY := zq (KY.out.chg Y1.out (by omega))
 replace DX := zq (HX.out.ex Ew1.out)
 replace DY := zq (HY.out.ex Ew1.out)
 obtain ⟨qX0, qX1, qX2, qX3, qX4, qX5, qX6, qX7, qX8, qX9, qX10⟩ := KX.out.c11
 have jX := KX.out.lt
 obtain ⟨qY0, qY1, qY2, qY3, qY4, qY5, qY6, qY7, qY8, qY9, qY10⟩ := KY.out.c11
 have jY := KY.out.lt
 have DXK : Hid (Rd w1 K x.marks) := zq (DX.out.k)
 obtain ⟨gX, hgX⟩ : ∃ g, g = w.heap.size := ⟨_, rfl⟩
 obtain ⟨gY, hgY⟩ : ∃ g, g = w.heap.size + 1 := ⟨_, rfl⟩
 rw [← hgY] at KY qY0 qY1 qY2 qY3 qY4 qY5 qY6 qY7 qY8 qY9 qY10 jY ⊢
 rw [← hgX] at KX qX0 qX1 qX2 qX3 qX4 qX5 qX6 qX7 qX8 qX9 qX10 jX ⊢
 clear hgX hgY
 go_wp2
 go_loopw [5] (fun i wr => ∃ j : Nat, j ≤ n ∧ i = .int .i64 j ∧ Ex w1 wr ∧ x.marks.take j = y.marks.take j) (fun i _ => n - (intOf i).toNat)
 case atStart => exact ⟨0, Nat.zero_le _, rfl, Ex.refl _, rfl⟩
 case round =>
  obtain ⟨j, hj, rfl, hbel, htk⟩ := hrel
  clear qY0 qY1 qY2 qY3 qY4 qY5 qY6 qY7 qY8 qY9 qY10 jY qX0 qX1 qX2 qX3 qX4 qX5 qX6 qX7 qX8 qX9 qX10 jX
  have HT := zq htk
  have HBEL := zq hbel
  obtain ⟨-, -, -, -, -, -, -, -, -, q9, -⟩ := (KX.out.ex hbel).c11
  obtain ⟨-, -, -, -, -, -, -, -, -, p9, -⟩ := (KY.out.ex hbel).c11
  have jx := (KX.out.ex hbel).lt
  have jy := (KY.out.ex hbel).lt
  clear htk hbel
  by_cases hlt : j < n
  ·obtain ⟨b1, o1, u, rfl, hb1, hxk, h0⟩ := Rd.bool (DX.out.k.ex HBEL.out) (k := j) (by have := HN1.out; omega)
   obtain ⟨b2, o2, v, rfl, hb2, hyk, g0⟩ := Rd.bool (DY.out.k.ex HBEL.out) (k := j) (by have := HN2.out; omega)
   have HXK := zq hxk
   have HYK := zq hyk
   clear hxk hyk
   by_cases hxy : u = v
   ·have hne : (!(u == v)) = false := by simpa using hxy
    have HUV := zq hxy
    clear hxy
    go_wp2_with fail
    go_quiet (fail)
    go_wp2
    go_roundw
    case rel => exact ⟨j + 1, by omega, by go_num, HBEL.out.drewN _, (take_eq_step HXK.out HYK.out).2 ⟨HT.out, HUV.out⟩⟩
    case measure => simp [intOf]; omega
   ·have hne : (!(u == v)) = true := by simpa using hxy
    have HUV := zq hxy
    clear hxy
    go_wp2_with fail
    go_quiet (fail)
    go_wp2
    go_ret
    exact ⟨ret_bool (HR.out (fun hh => ne_of_elem HXK.out HYK.out HUV.out hh)).symm, (Ew1.out.trans HBEL.out).drewN _⟩
  ·have hjm : ¬ (j : Int) < (n : Int) := by omega
   go_wp2
   go_ret
   exact ⟨ret_bool (HS.out (eq_of_take HN1.out.symm HN2.out (by rw [show n = j from by omega]; exact HT.out))).symm, Ew1.out.trans HBEL.out⟩
end Go.Proofs.YtbdlpbladpppjaaGreatDoor
namespace Go.Proofs.YtbdlpbladpppjaaGreatDoor
open Go.ChangeShapes Go.WideShapes Go.ChangeAt Go.RowKit
open Rec (sz cs)
set_option linter.unusedVariables false
set_option maxRecDepth 100000

set_option maxHeartbeats 8000000 in
theorem memS_c (x : MemD) (a : MA) (K : Option Addr) (kc : Nat) (w : World) (hx : HasE w x a K) (hf : FewE x) (hc : CapE x a kc) :
  Calls Tryz.prog 14 #[.agg #[.slice a.b x.mach.table.buckets.length a.bc, .slice a.f x.mach.table.frames.length a.fc, .slice a.l x.mach.cache.lines.length a.lc, .int .i64 x.mach.cache.hand, .int .i64 x.mach.tags.count, .int .i64 x.mach.tags.next, .int .i64 x.mach.tags.round, .slice a.o x.mach.tags.owns.length a.oc, .int .i64 x.mach.space, .slice K x.marks.length kc, .int .i64 x.hand]] w fun r w' => r = .returned (.bool (memV x)) ∧ Ex w w' := by
 obtain ⟨A, c, B, d, L, e, O, g⟩ := a
 have HM : Hid (HasM w x.mach ⟨A, c, B, d, L, e, O, g⟩) := zq hx.m
 have HF : Hid (Rd w B x.mach.table.frames) := zq hx.m.f
 have HK : Hid (Rd w K x.marks) := zq hx.k
 skip
 have C1 := zq (fun w' (h : HasM w' x.mach ⟨A, c, B, d, L, e, O, g⟩) => machS_c x.mach ⟨A, c, B, d, L, e, O, g⟩ w' h hf.m hc.m)
 dsimp only at C1 ⊢
 have hfn := hf.m.f
 have hfk := hf.k
 clear hx hf hc
 have HNO : Hid (∀ w', Ex w w' → ¬ MemOk x → (Ending.returned (.bool false) = .returned (.bool (memV x)) ∧ Ex w w')) := zq (fun w' h1 h2 => ⟨ret_bool (memV_no h2).symm, h1⟩)
 cases h1 : machV x.mach
 ·rw [h1] at C1
  have HBAD : Hid (¬ MemOk x) := zq (fun h => by have := machV_yes h.1; rw [h1] at this; cases this)
  clear h1
  generalize x.mach.table.frames.length = n at C1 ⊢
  generalize x.mach.table.buckets.length = nb at C1 ⊢
  generalize x.mach.cache.lines.length = nl at C1 ⊢
  generalize x.mach.tags.owns.length = no at C1 ⊢
  generalize x.marks.length = nm
  go_enter Tryz.func14, Tryz.ntmps14
  go_wp2_with fail
  have K0 : Hid (Blk (w.alloc (.cells #[.slice A nb c, .slice B n d, .slice L nl e, .int .i64 x.mach.cache.hand, .int .i64 x.mach.tags.count, .int .i64 x.mach.tags.next, .int .i64 x.mach.tags.round, .slice O no g, .int .i64 x.mach.space, .slice K nm kc, .int .i64 x.hand] 37)) w.heap.size 37 [.slice A nb c, .slice B n d, .slice L nl e, .int .i64 x.mach.cache.hand, .int .i64 x.mach.tags.count, .int .i64 x.mach.tags.next, .int .i64 x.mach.tags.round, .slice O no g, .int .i64 x.mach.space, .slice K nm kc, .int .i64 x.hand]) := zq (Blk.new w _ _)
  have E0 : Hid (Ex w (w.alloc (.cells #[.slice A nb c, .slice B n d, .slice L nl e, .int .i64 x.mach.cache.hand, .int .i64 x.mach.tags.count, .int .i64 x.mach.tags.next, .int .i64 x.mach.tags.round, .slice O no g, .int .i64 x.mach.space, .slice K nm kc, .int .i64 x.hand] 37))) := zq ((Ex.refl w).alloc _)
  refine (C1.out _ (HM.out.ex E0.out)).mono ?_
  rintro r w1 ⟨rfl, he1⟩
  have E1 := zq (E0.out.trans he1)
  have K1 := zq (K0.out.ex he1)
  clear he1 E0 K0
  obtain ⟨q0, q1, q2, q3, q4, q5, q6, q7, q8, q9, q10⟩ := K1.out.c11
  have jM := K1.out.lt
  go_wp2
  go_ret
  exact HNO.out _ E1.out HBAD.out
 rw [h1] at C1
 have HMV : Hid (MachOk x.mach) := zq (machV_iff.1 h1)
 clear h1
 by_cases hl : x.marks.length = x.mach.table.frames.length
 rotate_left
 ·have HBAD : Hid (¬ MemOk x) := zq (fun h => hl h.2.1)
  generalize x.mach.table.frames.length = n at C1 hl hfn ⊢
  generalize x.mach.table.buckets.length = nb at C1 ⊢
  generalize x.mach.cache.lines.length = nl at C1 ⊢
  generalize x.mach.tags.owns.length = no at C1 ⊢
  generalize x.marks.length = nm at hl hfk ⊢
  have hbb : ((nm : Int) == (n : Int)) = false := by simp; omega
  have hbn : ((nm : Int) != (n : Int)) = true := by simp; omega
  have hbm : (!((nm : Int) == (n : Int))) = true := by simp; omega
  have hbk : ¬ ((nm : Int) = (n : Int)) := by omega
  go_enter Tryz.func14, Tryz.ntmps14
  go_wp2_with fail
  have K0 : Hid (Blk (w.alloc (.cells #[.slice A nb c, .slice B n d, .slice L nl e, .int .i64 x.mach.cache.hand, .int .i64 x.mach.tags.count, .int .i64 x.mach.tags.next, .int .i64 x.mach.tags.round, .slice O no g, .int .i64 x.mach.space, .slice K nm kc, .int .i64 x.hand] 37)) w.heap.size 37 [.slice A nb c, .slice B n d, .slice L nl e, .int .i64 x.mach.cache.hand, .int .i64 x.mach.tags.count, .int .i64 x.mach.tags.next, .int .i64 x.mach.tags.round, .slice O no g, .int .i64 x.mach.space, .slice K nm kc, .int .i64 x.hand]) := zq (Blk.new w _ _)
  have E0 : Hid (Ex w (w.alloc (.cells #[.slice A nb c, .slice B n d, .slice L nl e, .int .i64 x.mach.cache.hand, .int .i64 x.mach.tags.count, .int .i64 x.mach.tags.next, .int .i64 x.mach.tags.round, .slice O no g, .int .i64 x.mach.space, .slice K nm kc, .int .i64 x.hand] 37))) := zq ((Ex.refl w).alloc _)
  refine (C1.out _ (HM.out.ex E0.out)).mono ?_
  rintro r w1 ⟨rfl, he1⟩
  have E1 := zq (E0.out.trans he1)
  have K1 := zq (K0.out.ex he1)
  clear he1 E0 K0
  obtain ⟨q0, q1, q2, q3, q4, q5, q6, q7, q8, q9, q10⟩ := K1.out.c11
  have jM := K1.out.lt
  go_wp2
  go_ret
  exact HNO.out _ E1.out HBAD.out
 by_cases hh : 0 ≤ x.hand ∧ x.hand < x.marks.length
 rotate_left
 ·have HBAD : Hid (¬ MemOk x) := zq (fun h => hh h.2.2.1)
  rw [hl] at hh ⊢
  generalize x.mach.table.frames.length = n at C1 hh ⊢
  generalize x.mach.table.buckets.length = nb at C1 ⊢
  generalize x.mach.cache.lines.length = nl at C1 ⊢
  generalize x.mach.tags.owns.length = no at C1 ⊢
  by_cases h0 : x.hand < 0
  ·have h0' : ¬ 0 ≤ x.hand := by omega
   go_enter Tryz.func14, Tryz.ntmps14
   go_wp2_with fail
   have K0 : Hid (Blk (w.alloc (.cells #[.slice A nb c, .slice B n d, .slice L nl e, .int .i64 x.mach.cache.hand, .int .i64 x.mach.tags.count, .int .i64 x.mach.tags.next, .int .i64 x.mach.tags.round, .slice O no g, .int .i64 x.mach.space, .slice K n kc, .int .i64 x.hand] 37)) w.heap.size 37 [.slice A nb c, .slice B n d, .slice L nl e, .int .i64 x.mach.cache.hand, .int .i64 x.mach.tags.count, .int .i64 x.mach.tags.next, .int .i64 x.mach.tags.round, .slice O no g, .int .i64 x.mach.space, .slice K n kc, .int .i64 x.hand]) := zq (Blk.new w _ _)
   have E0 : Hid (Ex w (w.alloc (.cells #[.slice A nb c, .slice B n d, .slice L nl e, .int .i64 x.mach.cache.hand, .int .i64 x.mach.tags.count, .int .i64 x.mach.tags.next, .int .i64 x.mach.tags.round, .slice O no g, .int .i64 x.mach.space, .slice K n kc, .int .i64 x.hand] 37))) := zq ((Ex.refl w).alloc _)
   refine (C1.out _ (HM.out.ex E0.out)).mono ?_
   rintro r w1 ⟨rfl, he1⟩
   have E1 := zq (E0.out.trans he1)
   have K1 := zq (K0.out.ex he1)
   clear he1 E0 K0
   obtain ⟨q0, q1, q2, q3, q4, q5, q6, q7, q8, q9, q10⟩ := K1.out.c11
   have jM := K1.out.lt
   go_wp2
   go_ret
   exact HNO.out _ E1.out HBAD.out
  ·have h2 : (n : Int) ≤ x.hand := by omega
   have h0' : 0 ≤ x.hand := by omega
   go_enter Tryz.func14, Tryz.ntmps14
   go_wp2_with fail
   have K0 : Hid (Blk (w.alloc (.cells #[.slice A nb c, .slice B n d, .slice L nl e, .int .i64 x.mach.cache.hand, .int .i64 x.mach.tags.count, .int .i64 x.mach.tags.next, .int .i64 x.mach.tags.round, .slice O no g, .int .i64 x.mach.space, .slice K n kc, .int .i64 x.hand] 37)) w.heap.size 37 [.slice A nb c, .slice B n d, .slice L nl e, .int .i64 x.mach.cache.hand, .int .i64 x.mach.tags.count, .int .i64 x.mach.tags.next, .int .i64 x.mach.tags.round, .slice O no g, .int .i64 x.mach.space, .slice K n kc, .int .i64 x.hand]) := zq (Blk.new w _ _)
   have E0 : Hid (Ex w (w.alloc (.cells #[.slice A nb c, .slice B n d, .slice L nl e, .int .i64 x.mach.cache.hand, .int .i64 x.mach.tags.count, .int .i64 x.mach.tags.next, .int .i64 x.mach.tags.round, .slice O no g, .int .i64 x.mach.space, .slice K n kc, .int .i64 x.hand] 37))) := zq ((Ex.refl w).alloc _)
   refine (C1.out _ (HM.out.ex E0.out)).mono ?_
   rintro r w1 ⟨rfl, he1⟩
   have E1 := zq (E0.out.trans he1)
   have K1 := zq (K0.out.ex he1)
   clear he1 E0 K0
   obtain ⟨q0, q1, q2, q3, q4, q5, q6, q7, q8, q9, q10⟩ := K1.out.c11
   have jM := K1.out.lt
   go_wp2
   go_ret
   exact HNO.out _ E1.out HBAD.out
 have h0 : ¬ x.hand < 0 := by omega
 have HHH := zq hh
 have HLL := zq hl
 obtain ⟨n, en⟩ : ∃ n, n = x.mach.table.frames.length := ⟨_, rfl⟩
 have HN := zq en
 rw [hl] at hh hfk ⊢
 rw [← en] at C1 hh hl hfn hfk ⊢
 have hh2 : ¬ (n : Int) ≤ x.hand := by omega
 generalize x.mach.table.buckets.length = nb at C1 ⊢
 generalize x.mach.cache.lines.length = nl at C1 ⊢
 generalize x.mach.tags.owns.length = no at C1 ⊢
 clear en
 go_enter Tryz.func14, Tryz.ntmps14
 go_wp2_with fail
 have K0 : Hid (Blk (w.alloc (.cells #[.slice A nb c, .slice B n d, .slice L nl e, .int .i64 x.mach.cache.hand, .int .i64 x.mach.tags.count, .int .i64 x.mach.tags.next, .int .i64 x.mach.tags.round, .slice O no g, .int .i64 x.mach.space, .slice K n kc, .int .i64 x.hand] 37)) w.heap.size 37 [.slice A nb c, .slice B n d, .slice L nl e, .int .i64 x.mach.cache.hand, .int .i64 x.mach.tags.count, .int .i64 x.mach.tags.next, .int .i64 x.mach.tags.round, .slice O no g, .int .i64 x.mach.space, .slice K n kc, .int .i64 x.hand]) := zq (Blk.new w _ _)
 have E0 : Hid (Ex w (w.alloc (.cells #[.slice A nb c, .slice B n d, .slice L nl e, .int .i64 x.mach.cache.hand, .int .i64 x.mach.tags.count, .int .i64 x.mach.tags.next, .int .i64 x.mach.tags.round, .slice O no g, .int .i64 x.mach.space, .slice K n kc, .int .i64 x.hand] 37))) := zq ((Ex.refl w).alloc _)
 refine (C1.out _ (HM.out.ex E0.out)).mono ?_
 rintro r w1 ⟨rfl, he1⟩
 have E1 := zq (E0.out.trans he1)
 have K1 := zq (K0.out.ex he1)
 clear he1 E0 K0
 obtain ⟨q0, q1, q2, q3, q4, q5, q6, q7, q8, q9, q10⟩ := K1.out.c11
 have jM := K1.out.lt
 go_wp2
 clear q0 q1 q2 q3 q4 q5 q6 q7 q8 q9 q10 jM C1
 go_loopw [3] (fun i wr => ∃ k : Nat, k ≤ n ∧ i = .int .i64 k ∧ Ex w1 wr ∧ ∀ (j : Nat) (f : FrameD), j < k → x.marks[j]? = some true → x.mach.table.frames[j]? = some f → f.used = true) (fun i _ => n - (intOf i).toNat)
 case atStart => exact ⟨0, Nat.zero_le _, rfl, Ex.refl _, fun j f hj => by omega⟩
 case round =>
  obtain ⟨k, hk, rfl, hq, hall⟩ := hrel
  have HQ := zq (E1.out.trans hq)
  have HQ1 := zq hq
  have HALL := zq hall
  have KQ := zq (K1.out.ex hq)
  clear hq hall
  obtain ⟨q0, q1, q2, q3, q4, q5, q6, q7, q8, q9, q10⟩ := KQ.out.c11
  have jM := KQ.out.lt
  by_cases hlt : k < n
  ·obtain ⟨b5, o5, v, rfl, hb5, hvk, hcv⟩ := (HK.out.ex HQ.out).bool (k := k) (by have := HN.out; have := HLL.out; omega)
   obtain ⟨b2, o2, f, rfl, hb2, hfi, k0, k1, k2, k3, k4⟩ := (HF.out.ex HQ.out).frame (k := k) (by have := HN.out; omega)
   have HVK := zq hvk
   have HFI := zq hfi
   have HNEXT : Hid ((v = true → f.used = true) → ∀ (j : Nat) (f : FrameD), j < k + 1 → x.marks[j]? = some true → x.mach.table.frames[j]? = some f → f.used = true) := zq (fun hh j h hj h1 h2 => by
    by_cases e : j = k
    ·subst e
     rw [HVK.out] at h1
     rw [HFI.out] at h2
     injection h1 with h1
     injection h2 with h2
     rw [← h2]; exact hh h1
    ·exact HALL.out j h (by omega) h1 h2)
   clear hvk hfi
   cases v
   ·have HFF := zq (HNEXT.out (fun h => by cases h))
    go_wp2
    go_roundw
    case rel => exact ⟨k + 1, by omega, by go_num, HQ1.out, HFF.out⟩
    case measure => simp [intOf]; omega
   cases hu : f.used
   ·rw [hu] at k0
    have HBAD : Hid (¬ MemOk x) := zq (fun h => by have := h.2.2.2 k f HVK.out HFI.out; rw [hu] at this; cases this)
    clear hu
    go_wp2
    go_ret
    exact HNO.out _ HQ.out HBAD.out
   ·rw [hu] at k0
    have HFF := zq (HNEXT.out (fun _ => hu))
    clear hu
    go_wp2
    go_roundw
    case rel => exact ⟨k + 1, by omega, by go_num, HQ1.out, HFF.out⟩
    case measure => simp [intOf]; omega
  ·obtain rfl : k = n := by omega
   go_wp2
   go_ret
   exact ⟨ret_bool (memV_iff.2 ⟨HMV.out, HLL.out, HHH.out, fun i f h1 h2 => HALL.out i f (by have := getElem?_lt h2; have := HN.out; omega) h1 h2⟩).symm, HQ.out⟩

set_option maxHeartbeats 2000000 in
theorem l7Free_c (t : TableD) (A : Option Addr) (c : Nat) (B : Option Addr) (d : Nat) (w : World) (hy : Rd w B t.frames) (hm : t.frames.length ≤ 1048576) :
  Calls Tryz.prog 13 #[.agg #[.slice A t.buckets.length c, .slice B t.frames.length d]] w fun r w' => r = .returned (.int .i64 (freeF_ t)) ∧ Ex w w' := by
 have B1 := zq (fun k' f => @firstOf_at _ (fun f : FrameD => !f.used) t.frames k' f)
 have B2 := zq (@firstOf_none _ (fun f : FrameD => !f.used) t.frames)
 unfold freeF_
 generalize firstOf (fun f : FrameD => !f.used) t.frames = res at *
 obtain ⟨n, hn1⟩ : ∃ n, n = t.frames.length := ⟨_, rfl⟩
 have HN := zq hn1
 rw [← hn1] at B2 hm ⊢
 generalize t.buckets.length = nb
 have HY := zq hy
 clear hn1 hy
 go_enter Tryz.func13, Tryz.ntmps13
 go_wp2
 obtain ⟨w0, hw0⟩ : ∃ w0 : World, w0 = w.alloc (.cells #[.slice A nb c, .slice B n d] 26) := ⟨_, rfl⟩
 obtain ⟨gb, hgb⟩ : ∃ gb : Nat, gb = w.heap.size := ⟨_, rfl⟩
 have K0 : Hid (Blk w0 gb 26 [.slice A nb c, .slice B n d]) := zq (by rw [hw0, hgb]; exact Blk.new w _ _)
 have E0 : Hid (Ex w w0) := zq (by rw [hw0]; exact (Ex.refl w).alloc _)
 rw [← hw0, ← hgb]
 clear hw0 hgb
 go_loopw [3] (fun i wr => ∃ k : Nat, k ≤ n ∧ i = .int .i64 k ∧ Ex w0 wr ∧ ∀ (j : Nat) (y : FrameD), j < k → t.frames[j]? = some y → (!y.used) = false) (fun i _ => n - (intOf i).toNat)
 case atStart => exact ⟨0, Nat.zero_le _, rfl, Ex.refl _, fun j y h => by omega⟩
 case round =>
  obtain ⟨k, hk, rfl, hbel, hcl⟩ := hrel
  have HB := zq hbel
  have HCL := zq hcl
  clear hbel hcl
  obtain ⟨q0, q1⟩ := (K0.out.ex HB.out).c2
  have lb := (K0.out.ex HB.out).lt
  by_cases hlt : k < n
  ·obtain ⟨b1, o1, f, rfl, hb1, hxk, h0, h1, h2, h3, h4⟩ := Rd.frame ((HY.out.ex E0.out).ex HB.out) (k := k) (by have := HN.out; omega)
   have HXK := zq hxk
   clear hxk
   cases hu : f.used
   ·rw [hu] at h0
    obtain rfl : res = (k : Int) := B1.out k f HXK.out (by rw [hu]; rfl) HCL.out
    clear hu
    go_wp2
    go_ret
    exact ⟨rfl, E0.out.trans HB.out⟩
   ·rw [hu] at h0
    have HU := zq hu
    clear hu
    go_wp2
    go_roundw
    case rel => exact ⟨k + 1, by omega, by go_num, HB.out, fun j z hj hz => by
     by_cases e : j = k
     ·subst e
      have := HXK.out
      rw [this] at hz
      injection hz with hz
      rw [← hz, HU.out]; rfl
     ·exact HCL.out j z (by omega) hz⟩
    case measure => simp [intOf]; omega
  ·obtain rfl : k = n := by omega
   obtain rfl : res = -1 := B2.out HCL.out
   go_wp2
   go_ret
   exact ⟨rfl, E0.out.trans HB.out⟩


/-- That memory comes back, in slices of the call's own. -/
def MemIs (q : MemD) (w : World) (e : Ending) (w' : World) : Prop := ∃ (a : MA) (K : Option Addr) (kc : Nat), e = .returned (.agg #[.slice a.b q.mach.table.buckets.length a.bc, .slice a.f q.mach.table.frames.length a.fc, .slice a.l q.mach.cache.lines.length a.lc, .int .i64 q.mach.cache.hand, .int .i64 q.mach.tags.count, .int .i64 q.mach.tags.next, .int .i64 q.mach.tags.round, .slice a.o q.mach.tags.owns.length a.oc, .int .i64 q.mach.space, .slice K q.marks.length kc, .int .i64 q.hand]) ∧ FrE w' w.heap.size q a K kc ∧ Ex w w'
theorem Blk.put11 {w : World} {g : Nat} {t : TypeId} {a0 a1 a2 a3 a4 a5 a6 a7 a8 a9 a10 b0 b1 b2 b3 b4 b5 b6 b7 b8 b9 b10 : Value} (h : Blk w g t [a0, a1, a2, a3, a4, a5, a6, a7, a8, a9, a10]) :
  Blk (((((((((((w.setCell ⟨g, 0, none⟩ b0).setCell ⟨g, 1, none⟩ b1).setCell ⟨g, 2, none⟩ b2).setCell ⟨g, 3, none⟩ b3).setCell ⟨g, 4, none⟩ b4).setCell ⟨g, 5, none⟩ b5).setCell ⟨g, 6, none⟩ b6).setCell ⟨g, 7, none⟩ b7).setCell ⟨g, 8, none⟩ b8).setCell ⟨g, 9, none⟩ b9).setCell ⟨g, 10, none⟩ b10) g t [b0, b1, b2, b3, b4, b5, b6, b7, b8, b9, b10] :=
 ((((((((((h.set 0 b0).set 1 b1).set 2 b2).set 3 b3).set 4 b4).set 5 b5).set 6 b6).set 7 b7).set 8 b8).set 9 b9).set 10 b10
theorem FrE.mono {w : World} {B B' : Nat} {m : MemD} {a : MA} {K : Option Addr} {k : Nat} (h : FrE w B m a K k) (hB : B' ≤ B) : FrE w B' m a K k := ⟨⟨h.m.b.mono hB, h.m.f.mono hB, h.m.l.mono hB, h.m.o.mono hB⟩, h.k.mono hB⟩

set_option maxHeartbeats 8000000 in
theorem l7Copy_c (x : MemD) (a : MA) (KK : Option Addr) (kc : Nat) (w : World) (hx : HasE w x a KK) (hf : FewE x) (hc : CapE x a kc) (hk : CapX a) (hkk : kc ≤ maxLen) :
  Calls Tryz.prog 37 #[.agg #[.slice a.b x.mach.table.buckets.length a.bc, .slice a.f x.mach.table.frames.length a.fc, .slice a.l x.mach.cache.lines.length a.lc, .int .i64 x.mach.cache.hand, .int .i64 x.mach.tags.count, .int .i64 x.mach.tags.next, .int .i64 x.mach.tags.round, .slice a.o x.mach.tags.owns.length a.oc, .int .i64 x.mach.space, .slice KK x.marks.length kc, .int .i64 x.hand]] w (MemIs x w) := by
 obtain ⟨i0, hi, hz0, hz1, hz2⟩ := info_parts infoMBool
 obtain ⟨A, c, B, d, L, e, O, g⟩ := a
 have HXM : Hid (HasM w x.mach ⟨A, c, B, d, L, e, O, g⟩) := zq hx.m
 have HXK : Hid (Rd w KK x.marks) := zq hx.k
 have C1 := zq (fun w' (h : HasM w' x.mach ⟨A, c, B, d, L, e, O, g⟩) => l6Copy_c x.mach ⟨A, c, B, d, L, e, O, g⟩ w' h hf.m hc.m hk)
 have hkl := hf.k
 have H63 : Hid (0 + x.marks.length ≤ maxLen) := zq (by simp [maxLen]; omega)
 have HBY : Hid ((0 + x.marks.length) * 1 ≤ 140737488355328) := zq (by omega)
 clear hx hf hc hk hkk
 unfold MemIs
 dsimp only at C1 ⊢
 obtain ⟨n, en⟩ : ∃ n, n = x.mach.table.frames.length := ⟨_, rfl⟩
 obtain ⟨nb, enb⟩ : ∃ n, n = x.mach.table.buckets.length := ⟨_, rfl⟩
 obtain ⟨nl, enl⟩ : ∃ n, n = x.mach.cache.lines.length := ⟨_, rfl⟩
 obtain ⟨no, eno⟩ : ∃ n, n = x.mach.tags.owns.length := ⟨_, rfl⟩
 obtain ⟨nm, enm⟩ : ∃ n, n = x.marks.length := ⟨_, rfl⟩
 have HNM := zq enm
 rw [← en, ← enb, ← enl, ← eno] at C1
 rw [← en, ← enb, ← enl, ← eno, ← enm]
 rw [← enm] at H63 HBY
 clear en enb enl eno enm hkl
 go_enter Tryz.func37, Tryz.ntmps37
 go_wp2_with fail
 obtain ⟨w0, hw0⟩ : ∃ w0 : World, w0 = ((w.alloc (.cells #[.slice A nb c, .slice B n d, .slice L nl e, .int .i64 x.mach.cache.hand, .int .i64 x.mach.tags.count, .int .i64 x.mach.tags.next, .int .i64 x.mach.tags.round, .slice O no g, .int .i64 x.mach.space, .slice KK nm kc, .int .i64 x.hand] 37)).alloc (.cells #[.slice none 0 0, .slice none 0 0, .slice none 0 0, .int .i64 0, .int .i64 0, .int .i64 0, .int .i64 0, .slice none 0 0, .int .i64 0, .slice none 0 0, .int .i64 0] 37)) := ⟨_, rfl⟩
 have E0 : Hid (Ex w w0) := zq (by rw [hw0]; exact ((Ex.refl w).alloc _).alloc _)
 have KC : Hid (Blk w0 w.heap.size 37 [.slice A nb c, .slice B n d, .slice L nl e, .int .i64 x.mach.cache.hand, .int .i64 x.mach.tags.count, .int .i64 x.mach.tags.next, .int .i64 x.mach.tags.round, .slice O no g, .int .i64 x.mach.space, .slice KK nm kc, .int .i64 x.hand]) := zq (by rw [hw0]; exact (Blk.new _ _ _).alloc _)
 have KR : Hid (Blk w0 (w.heap.size + 1) 37 [.slice none 0 0, .slice none 0 0, .slice none 0 0, .int .i64 0, .int .i64 0, .int .i64 0, .int .i64 0, .slice none 0 0, .int .i64 0, .slice none 0 0, .int .i64 0]) := zq (by rw [hw0]; exact Blk.new_at _ _ _ (by simp))
 have HXM0 : Hid (∀ w', Ex w0 w' → HasM w' x.mach ⟨A, c, B, d, L, e, O, g⟩) := zq (fun w' h => HXM.out.ex (E0.out.trans h))
 have HXK0 : Hid (∀ w', Ex w0 w' → Rd w' KK x.marks) := zq (fun w' h => HXK.out.ex (E0.out.trans h))
 have HP : Hid (∀ (w1 : World) (a : Option Addr), Fr 4 w1 w0.heap.size a 0 ([] : List Bool)) := zq (fun w1 a => Fr.none_ _ _ _ _)
 have HBG : Hid (∀ (w1 w2 : World) (a : Option Addr), Ex w0 w1 → w1.grownBy w2 (rowOf a 0) → Ex w0 w2) := zq (fun w1 w2 a h hg => h.grown hg (by rintro k hk; simp [rowOf] at hk))
 obtain ⟨gc, hgc⟩ : ∃ gc : Nat, gc = w.heap.size := ⟨_, rfl⟩
 rw [← hw0, ← hgc]
 rw [← hgc] at KC KR
 have HG := zq hgc
 have FK : Hid (∀ w', Ex w0 w' → (w'.cell? ⟨gc, 0, none⟩ = some (.slice A nb c) ∧ w'.cell? ⟨gc, 1, none⟩ = some (.slice B n d) ∧ w'.cell? ⟨gc, 2, none⟩ = some (.slice L nl e) ∧ w'.cell? ⟨gc, 3, none⟩ = some (.int .i64 x.mach.cache.hand) ∧ w'.cell? ⟨gc, 4, none⟩ = some (.int .i64 x.mach.tags.count) ∧ w'.cell? ⟨gc, 5, none⟩ = some (.int .i64 x.mach.tags.next) ∧ w'.cell? ⟨gc, 6, none⟩ = some (.int .i64 x.mach.tags.round) ∧ w'.cell? ⟨gc, 7, none⟩ = some (.slice O no g) ∧ w'.cell? ⟨gc, 8, none⟩ = some (.int .i64 x.mach.space) ∧ w'.cell? ⟨gc, 9, none⟩ = some (.slice KK nm kc) ∧ w'.cell? ⟨gc, 10, none⟩ = some (.int .i64 x.hand))) := zq (fun w' h => (KC.out.ex h).c11)
 have FR : Hid (∀ w', Ex w0 w' → Blk w' (gc + 1) 37 [.slice none 0 0, .slice none 0 0, .slice none 0 0, .int .i64 0, .int .i64 0, .int .i64 0, .int .i64 0, .slice none 0 0, .int .i64 0, .slice none 0 0, .int .i64 0]) := zq (fun w' h => KR.out.ex h)
 have CE : Hid (∀ (args : Array Value) (w : World), (callFunc 61 args).run Tryz.prog w = .ok (.enter 61 args) w) := zq (enters Tryz.func61 (by kernel_rfl) (by kernel_rfl))
 clear hw0 hgc HXM HXK KC
 refine wp_region_held_drew (S := (fun w' => (w'.cell? ⟨gc, 0, none⟩ = some (.slice A nb c) ∧ w'.cell? ⟨gc, 1, none⟩ = some (.slice B n d) ∧ w'.cell? ⟨gc, 2, none⟩ = some (.slice L nl e) ∧ w'.cell? ⟨gc, 3, none⟩ = some (.int .i64 x.mach.cache.hand) ∧ w'.cell? ⟨gc, 4, none⟩ = some (.int .i64 x.mach.tags.count) ∧ w'.cell? ⟨gc, 5, none⟩ = some (.int .i64 x.mach.tags.next) ∧ w'.cell? ⟨gc, 6, none⟩ = some (.int .i64 x.mach.tags.round) ∧ w'.cell? ⟨gc, 7, none⟩ = some (.slice O no g) ∧ w'.cell? ⟨gc, 8, none⟩ = some (.int .i64 x.mach.space) ∧ w'.cell? ⟨gc, 9, none⟩ = some (.slice KK nm kc) ∧ w'.cell? ⟨gc, 10, none⟩ = some (.int .i64 x.hand)))) (by kernel_rfl) ?r0_hS0 (fun hHeld => ?_)
 case r0_hS0 => exact FK.out _ (Ex.refl _).drew
 refine tk 0 ?_; refine tk 1 ?_; refine tk 4 ?_; refine tk 5 ?_; refine tk 7 ?_; refine tk 8 ?_
 refine wpAnyH_ready (rs := [2, 3]) (by kernel_rfl) (by simp) ?_
 refine AllReadyH.cons (o := ?r0_o0) ?r0_ho0 (fun K hK => ?r0_b0) (AllReadyH.cons (o := ?r0_o1) ?r0_ho1 (fun K hK => ?r0_b1) AllReadyH.nil)
 case r0_ho0 => (conv => lhs; whnf; arg 1; whnf)
 case r0_ho1 => (conv => lhs; whnf; arg 1; whnf)
 case r0_b0 =>
  refine step_call_gu rfl CE.out _ _ rfl #[.agg #[.slice A nb c, .slice B n d, .slice L nl e, .int .i64 x.mach.cache.hand, .int .i64 x.mach.tags.count, .int .i64 x.mach.tags.next, .int .i64 x.mach.tags.round, .slice O no g, .int .i64 x.mach.space]] rfl (C1.out _ (HXM0.out _ (by with_reducible repeat' (first | exact Ex.refl _ | exact hba | exact hbb | refine Ex.alloc ?_ _ | refine Ex.drew ?_)))) ?_; rintro r w1 ⟨⟨A1, c1, B1, d1, L1, e1, O1, g1⟩, rfl, hfm, hb1⟩; refine ⟨_, rfl, ?_⟩; have hba : Ex w0 w1 := Ex.trans (by with_reducible repeat' (first | exact Ex.refl _ | exact hba | exact hbb | refine Ex.alloc ?_ _ | refine Ex.drew ?_)) hb1; 
  refine hK.out _ _ ?r0_hS0 (fun hHeld0 => ?_)
  case r0_hS0 => exact FK.out _ hba
  clear hK K hHeld
  try simp only [Act.put, List.setIfInBounds_toArray, List.set_cons_zero, List.set_cons_succ]
  refine wpAnyH_ready (rs := [3]) (by kernel_rfl) (by simp) ?_
  refine AllReadyH.cons (o := ?r0_o2) ?r0_ho2 (fun K hK => ?r0_b2) AllReadyH.nil
  case r0_ho2 => (conv => lhs; whnf; arg 1; whnf)
  case' r0_b2 => skip
  go_simp
  refine hK.out _ _ ?r0_hS2 (fun hHeld2 => ?_)
  case r0_hS2 => exact FK.out _ (by with_reducible repeat' (first | exact Ex.refl _ | exact hba | exact hbb | refine Ex.alloc ?_ _ | refine Ex.drew ?_))
  clear hK K hHeld0
  try simp only [Act.put, List.setIfInBounds_toArray, List.set_cons_zero, List.set_cons_succ]
  refine wpAnyH_ready (rs := [6]) (by kernel_rfl) (by simp) ?_
  refine AllReadyH.cons (o := ?r0_o3) ?r0_ho3 (fun K hK => ?r0_b3) AllReadyH.nil
  case r0_ho3 => (conv => lhs; whnf; arg 1; whnf)
  case' r0_b3 => skip
  refine step_append_fr (α := Bool) rfl _ _ 35 rfl 4 i0 _ 1 w0.heap.size Tryz.underlying35 hi hz0 hz1 hz2 rfl _ 0 0 [] rfl rfl (HP.out _ _) KK kc nm x.marks HNM.out rfl (HXK0.out _ (by with_reducible repeat' (first | exact Ex.refl _ | exact hba | exact hbb | refine Ex.alloc ?_ _ | refine Ex.drew ?_))) H63.out HBY.out (Ex.size (by with_reducible repeat' (first | exact Ex.refl _ | exact hba | exact hbb | refine Ex.alloc ?_ _ | refine Ex.drew ?_))) ?_; intro K4 k4 w4 ha; have hbb : Ex w0 w4 := HBG.out _ _ _ (by with_reducible repeat' (first | exact Ex.refl _ | exact hba | exact hbb | refine Ex.alloc ?_ _ | refine Ex.drew ?_)) ha.grown; 
  refine hK.out _ _ ?r0_hS3 (fun hHeld3 => ?_)
  case r0_hS3 => exact FK.out _ hbb
  clear hK K hHeld2
  try simp only [Act.put, List.setIfInBounds_toArray, List.set_cons_zero, List.set_cons_succ]
  refine tk 9 ?_
  refine wpAnyH_ready (rs := [10]) (by kernel_rfl) (by simp) ?_
  refine AllReadyH.cons (o := ?r0_o4) ?r0_ho4 (fun K hK => ?r0_b4) AllReadyH.nil
  case r0_ho4 => (conv => lhs; whnf; arg 1; whnf)
  case' r0_b4 => skip
  (try clear hr0 hr1 hr2 hr3 hr4 hr5 hr6 hr7 hr8 hr9 hr10 hrf hrl); have hr := FR.out _ hbb; obtain ⟨hr0, hr1, hr2, hr3, hr4, hr5, hr6, hr7, hr8, hr9, hr10⟩ := hr.c11; have hrf := hr.frozen; have hrl := hr.lt; clear hr; go_simp
  refine hK.out _ _ ?r0_hS4 (fun hHeld4 => ?_)
  case r0_hS4 => exact by go_keep
  clear hK K hHeld3
  try simp only [Act.put, List.setIfInBounds_toArray, List.set_cons_zero, List.set_cons_succ]
  refine wpAnyH_done (by kernel_rfl) ?_ _
  clear hHeld4
  simp only [List.nil_append] at ha
  have hec : Ex w1 w4 := Ex.grown (a := w1) (by with_reducible repeat' (first | exact Ex.refl _ | refine Ex.alloc ?_ _ | refine Ex.drew ?_)) ha.grown (by rintro k hk; simp [rowOf] at hk)
  have HFA : Hid (Fr 3 w4 w0.heap.size A1 c1 x.mach.table.buckets) := zq ((hfm.b.ex hec).mono (by simp))
  have HFB : Hid (Fr 45 w4 w0.heap.size B1 d1 x.mach.table.frames) := zq ((hfm.f.ex hec).mono (by simp))
  have HFC : Hid (Fr 64 w4 w0.heap.size L1 e1 x.mach.cache.lines) := zq ((hfm.l.ex hec).mono (by simp))
  have HFD : Hid (Fr 93 w4 w0.heap.size O1 g1 x.mach.tags.owns) := zq ((hfm.o.ex hec).mono (by simp))
  have HFE : Hid (Fr 4 w4 w0.heap.size K4 k4 x.marks) := zq ha.fr
  have HBB := zq hbb
  have HL := zq KR.out.lt
  have HL2 := zq E0.out.size
  have hgl : w.heap.size ≤ gc + 1 := by have := HG.out; omega
  clear ha hfm hec hba hb1 hr0 hr1 hr2 hr3 hr4 hr5 hr6 hr7 hr8 hr9 hr10 hrf hrl
  have hr := Blk.put11 (b0 := .slice A1 nb c1) (b1 := .slice B1 n d1) (b2 := .slice L1 nl e1) (b3 := .int .i64 x.mach.cache.hand) (b4 := .int .i64 x.mach.tags.count) (b5 := .int .i64 x.mach.tags.next) (b6 := .int .i64 x.mach.tags.round) (b7 := .slice O1 no g1) (b8 := .int .i64 x.mach.space) (b9 := .slice K4 nm k4) (b10 := .int .i64 x.hand) (FR.out _ HBB.out)
  obtain ⟨hr0, hr1, hr2, hr3, hr4, hr5, hr6, hr7, hr8, hr9, hr10⟩ := hr.c11
  have hl := hr.lt
  clear hr hbb
  go_wp2
  exact bodyPost_ret (v := .agg #[.slice A1 nb c1, .slice B1 n d1, .slice L1 nl e1, .int .i64 x.mach.cache.hand, .int .i64 x.mach.tags.count, .int .i64 x.mach.tags.next, .int .i64 x.mach.tags.round, .slice O1 no g1, .int .i64 x.mach.space, .slice K4 nm k4, .int .i64 x.hand]) (by simp [results, Tryz.results37, go_sem, *]) rfl
   ⟨⟨A1, c1, B1, d1, L1, e1, O1, g1⟩, K4, k4, rfl, FrE.mono (B := w0.heap.size) ⟨⟨by repeat' (first | with_reducible exact HFA.out | with_reducible refine Fr.set_below ?_ HL.out _), by repeat' (first | with_reducible exact HFB.out | with_reducible refine Fr.set_below ?_ HL.out _), by repeat' (first | with_reducible exact HFC.out | with_reducible refine Fr.set_below ?_ HL.out _), by repeat' (first | with_reducible exact HFD.out | with_reducible refine Fr.set_below ?_ HL.out _)⟩, by repeat' (first | with_reducible exact HFE.out | with_reducible refine Fr.set_below ?_ HL.out _)⟩ HL2.out, by repeat' (first | with_reducible exact E0.out.trans HBB.out | with_reducible refine Ex.set ?_ hgl _)⟩
 case r0_b1 =>
  go_simp
  refine hK.out _ _ ?r0_hS1 (fun hHeld1 => ?_)
  case r0_hS1 => exact FK.out _ (by with_reducible repeat' (first | exact Ex.refl _ | exact hba | exact hbb | refine Ex.alloc ?_ _ | refine Ex.drew ?_))
  clear hK K hHeld
  try simp only [Act.put, List.setIfInBounds_toArray, List.set_cons_zero, List.set_cons_succ]
  refine wpAnyH_ready (rs := [2]) (by kernel_rfl) (by simp) ?_
  refine AllReadyH.cons (o := ?r0_o5) ?r0_ho5 (fun K hK => ?r0_b5) AllReadyH.nil
  case r0_ho5 => (conv => lhs; whnf; arg 1; whnf)
  case' r0_b5 => skip
  refine step_call_gu rfl CE.out _ _ rfl #[.agg #[.slice A nb c, .slice B n d, .slice L nl e, .int .i64 x.mach.cache.hand, .int .i64 x.mach.tags.count, .int .i64 x.mach.tags.next, .int .i64 x.mach.tags.round, .slice O no g, .int .i64 x.mach.space]] rfl (C1.out _ (HXM0.out _ (by with_reducible repeat' (first | exact Ex.refl _ | exact hba | exact hbb | refine Ex.alloc ?_ _ | refine Ex.drew ?_)))) ?_; rintro r w1 ⟨⟨A1, c1, B1, d1, L1, e1, O1, g1⟩, rfl, hfm, hb1⟩; refine ⟨_, rfl, ?_⟩; have hba : Ex w0 w1 := Ex.trans (by with_reducible repeat' (first | exact Ex.refl _ | exact hba | exact hbb | refine Ex.alloc ?_ _ | refine Ex.drew ?_)) hb1; 
  refine hK.out _ _ ?r0_hS5 (fun hHeld5 => ?_)
  case r0_hS5 => exact FK.out _ hba
  clear hK K hHeld1
  try simp only [Act.put, List.setIfInBounds_toArray, List.set_cons_zero, List.set_cons_succ]
  refine wpAnyH_ready (rs := [6]) (by kernel_rfl) (by simp) ?_
  refine AllReadyH.cons (o := ?r0_o6) ?r0_ho6 (fun K hK => ?r0_b6) AllReadyH.nil
  case r0_ho6 => (conv => lhs; whnf; arg 1; whnf)
  case' r0_b6 => skip
  refine step_append_fr (α := Bool) rfl _ _ 35 rfl 4 i0 _ 1 w0.heap.size Tryz.underlying35 hi hz0 hz1 hz2 rfl _ 0 0 [] rfl rfl (HP.out _ _) KK kc nm x.marks HNM.out rfl (HXK0.out _ (by with_reducible repeat' (first | exact Ex.refl _ | exact hba | exact hbb | refine Ex.alloc ?_ _ | refine Ex.drew ?_))) H63.out HBY.out (Ex.size (by with_reducible repeat' (first | exact Ex.refl _ | exact hba | exact hbb | refine Ex.alloc ?_ _ | refine Ex.drew ?_))) ?_; intro K4 k4 w4 ha; have hbb : Ex w0 w4 := HBG.out _ _ _ (by with_reducible repeat' (first | exact Ex.refl _ | exact hba | exact hbb | refine Ex.alloc ?_ _ | refine Ex.drew ?_)) ha.grown; 
  refine hK.out _ _ ?r0_hS6 (fun hHeld6 => ?_)
  case r0_hS6 => exact FK.out _ hbb
  clear hK K hHeld5
  try simp only [Act.put, List.setIfInBounds_toArray, List.set_cons_zero, List.set_cons_succ]
  refine tk 9 ?_
  refine wpAnyH_ready (rs := [10]) (by kernel_rfl) (by simp) ?_
  refine AllReadyH.cons (o := ?r0_o7) ?r0_ho7 (fun K hK => ?r0_b7) AllReadyH.nil
  case r0_ho7 => (conv => lhs; whnf; arg 1; whnf)
  case' r0_b7 => skip
  (try clear hr0 hr1 hr2 hr3 hr4 hr5 hr6 hr7 hr8 hr9 hr10 hrf hrl); have hr := FR.out _ hbb; obtain ⟨hr0, hr1, hr2, hr3, hr4, hr5, hr6, hr7, hr8, hr9, hr10⟩ := hr.c11; have hrf := hr.frozen; have hrl := hr.lt; clear hr; go_simp
  refine hK.out _ _ ?r0_hS7 (fun hHeld7 => ?_)
  case r0_hS7 => exact by go_keep
  clear hK K hHeld6
  try simp only [Act.put, List.setIfInBounds_toArray, List.set_cons_zero, List.set_cons_succ]
  refine wpAnyH_done (by kernel_rfl) ?_ _
  clear hHeld7
  simp only [List.nil_append] at ha
  have hec : Ex w1 w4 := Ex.grown (a := w1) (by with_reducible repeat' (first | exact Ex.refl _ | refine Ex.alloc ?_ _ | refine Ex.drew ?_)) ha.grown (by rintro k hk; simp [rowOf] at hk)
  have HFA : Hid (Fr 3 w4 w0.heap.size A1 c1 x.mach.table.buckets) := zq ((hfm.b.ex hec).mono (by simp))
  have HFB : Hid (Fr 45 w4 w0.heap.size B1 d1 x.mach.table.frames) := zq ((hfm.f.ex hec).mono (by simp))
  have HFC : Hid (Fr 64 w4 w0.heap.size L1 e1 x.mach.cache.lines) := zq ((hfm.l.ex hec).mono (by simp))
  have HFD : Hid (Fr 93 w4 w0.heap.size O1 g1 x.mach.tags.owns) := zq ((hfm.o.ex hec).mono (by simp))
  have HFE : Hid (Fr 4 w4 w0.heap.size K4 k4 x.marks) := zq ha.fr
  have HBB := zq hbb
  have HL := zq KR.out.lt
  have HL2 := zq E0.out.size
  have hgl : w.heap.size ≤ gc + 1 := by have := HG.out; omega
  clear ha hfm hec hba hb1 hr0 hr1 hr2 hr3 hr4 hr5 hr6 hr7 hr8 hr9 hr10 hrf hrl
  have hr := Blk.put11 (b0 := .slice A1 nb c1) (b1 := .slice B1 n d1) (b2 := .slice L1 nl e1) (b3 := .int .i64 x.mach.cache.hand) (b4 := .int .i64 x.mach.tags.count) (b5 := .int .i64 x.mach.tags.next) (b6 := .int .i64 x.mach.tags.round) (b7 := .slice O1 no g1) (b8 := .int .i64 x.mach.space) (b9 := .slice K4 nm k4) (b10 := .int .i64 x.hand) (FR.out _ HBB.out)
  obtain ⟨hr0, hr1, hr2, hr3, hr4, hr5, hr6, hr7, hr8, hr9, hr10⟩ := hr.c11
  have hl := hr.lt
  clear hr hbb
  go_wp2
  exact bodyPost_ret (v := .agg #[.slice A1 nb c1, .slice B1 n d1, .slice L1 nl e1, .int .i64 x.mach.cache.hand, .int .i64 x.mach.tags.count, .int .i64 x.mach.tags.next, .int .i64 x.mach.tags.round, .slice O1 no g1, .int .i64 x.mach.space, .slice K4 nm k4, .int .i64 x.hand]) (by simp [results, Tryz.results37, go_sem, *]) rfl
   ⟨⟨A1, c1, B1, d1, L1, e1, O1, g1⟩, K4, k4, rfl, FrE.mono (B := w0.heap.size) ⟨⟨by repeat' (first | with_reducible exact HFA.out | with_reducible refine Fr.set_below ?_ HL.out _), by repeat' (first | with_reducible exact HFB.out | with_reducible refine Fr.set_below ?_ HL.out _), by repeat' (first | with_reducible exact HFC.out | with_reducible refine Fr.set_below ?_ HL.out _), by repeat' (first | with_reducible exact HFD.out | with_reducible refine Fr.set_below ?_ HL.out _)⟩, by repeat' (first | with_reducible exact HFE.out | with_reducible refine Fr.set_below ?_ HL.out _)⟩ HL2.out, by repeat' (first | with_reducible exact E0.out.trans HBB.out | with_reducible refine Ex.set ?_ hgl _)⟩
end Go.Proofs.YtbdlpbladpppjaaGreatDoor
