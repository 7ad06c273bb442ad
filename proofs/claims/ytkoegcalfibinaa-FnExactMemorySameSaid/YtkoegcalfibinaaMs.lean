/- MachineSame of both sides. -/
import Derived.Test.YtkoegcalfibinaaMm
import Derived.Test.YtkoegcalfibinaaTd
namespace Go.Proofs.Ytkoegcalfibinaa
open Go.ChangeShapes Go.WideShapes Go.ChangeAt Go.RowKit
open Rec (sz cs)
set_option linter.unusedVariables false
set_option maxRecDepth 100000

set_option maxHeartbeats 2000000 in
theorem machSameI_c (x y : MachD) (a b : MA) (w : World) (hx : HasM w x a) (hy : HasM w y b) (hf : FewM x) (hg : FewM y) :
    Calls Try.prog 14 #[.agg #[.slice a.b x.table.buckets.length a.bc, .slice a.f x.table.frames.length a.fc, .slice a.l x.cache.lines.length a.lc, .int .i64 x.cache.hand, .int .i64 x.tags.count, .int .i64 x.tags.next, .int .i64 x.tags.round, .slice a.o x.tags.owns.length a.oc, .int .i64 x.space], .agg #[.slice b.b y.table.buckets.length b.bc, .slice b.f y.table.frames.length b.fc, .slice b.l y.cache.lines.length b.lc, .int .i64 y.cache.hand, .int .i64 y.tags.count, .int .i64 y.tags.next, .int .i64 y.tags.round, .slice b.o y.tags.owns.length b.oc, .int .i64 y.space]] w fun r w' => r = .returned (.bool (eqB x y)) ∧ Ex w w' := by
  have C1 := Lib.hid (fun w (h1 : HasM w x a) (h2 : HasM w y b) => tableSameI_c x.table y.table a.b a.bc a.f a.fc b.b b.bc b.f b.fc w h1.b h1.f h2.b h2.f hf.b hf.f hg.b hg.f)
  have C2 := Lib.hid (fun w (h1 : HasM w x a) (h2 : HasM w y b) => cacheSameI_c x.cache y.cache a.l b.l a.lc b.lc w h1.l h2.l hf.l hg.l)
  have C3 := Lib.hid (fun w (h1 : HasM w x a) (h2 : HasM w y b) => tagsSameI_c x.tags y.tags a.o b.o a.oc b.oc w h1.o h2.o hf.o hg.o)
  have HX := Lib.hid hx
  have HY := Lib.hid hy
  have HE := Lib.hid (mach_eq x y)
  clear hx hy hf hg
  cases h1 : eqB x.table y.table
  · rw [h1] at C1
    have e : eqB x y = false := by rw [eqB_false, Ne, HE.out]; intro h; have := eqB_false.1 h1; exact this h.1
    rw [e]
    clear e h1
    go_enter Try.func14, Try.ntmps14
    go_wp2_with fail
    refine name_calls ?_; intro v1 hv1
    have X1 : Hid (Chg (0) (0) w v1) := Lib.hid (by rw [hv1]; repeat' (first | with_reducible exact Chg.refl _ _ _ | with_reducible refine Chg.alloc ?_ _ | with_reducible refine Chg.drew ?_ | with_reducible refine Chg.set ?_ (by omega) _))
    have t1 : w.heap.size ≤ v1.heap.size := X1.out.size
    have Ev1 : Hid (Ex w v1) := Lib.hid ((Ex.refl w).chg X1.out (by omega))
    have KX : Hid (Blk v1 (w.heap.size) 56 [.slice a.b x.table.buckets.length a.bc, .slice a.f x.table.frames.length a.fc, .slice a.l x.cache.lines.length a.lc, .int .i64 x.cache.hand, .int .i64 x.tags.count, .int .i64 x.tags.next, .int .i64 x.tags.round, .slice a.o x.tags.owns.length a.oc, .int .i64 x.space]) := Lib.hid (by rw [hv1]; repeat' (first | with_reducible exact Blk.new_at _ _ _ (by simp) | with_reducible refine Blk.alloc ?_ _ | with_reducible refine Blk.drew ?_ | with_reducible refine Blk.far ?_ (by simp; omega) _))
    have lX : w.heap.size < v1.heap.size := KX.out.lt
    have KY : Hid (Blk v1 (w.heap.size + 1) 56 [.slice b.b y.table.buckets.length b.bc, .slice b.f y.table.frames.length b.fc, .slice b.l y.cache.lines.length b.lc, .int .i64 y.cache.hand, .int .i64 y.tags.count, .int .i64 y.tags.next, .int .i64 y.tags.round, .slice b.o y.tags.owns.length b.oc, .int .i64 y.space]) := Lib.hid (by rw [hv1]; repeat' (first | with_reducible exact Blk.new_at _ _ _ (by simp) | with_reducible refine Blk.alloc ?_ _ | with_reducible refine Blk.drew ?_ | with_reducible refine Blk.far ?_ (by simp; omega) _))
    have lY : w.heap.size + 1 < v1.heap.size := KY.out.lt
    have DX := Lib.hid (HX.out.ex Ev1.out)
    have DY := Lib.hid (HY.out.ex Ev1.out)
    clear hv1
    refine (C1.out _ DX.out DY.out).mono ?_; rintro r w1 ⟨rfl, hb1⟩
    have Y1 : Hid (Chg 0 0 v1 w1) := Lib.hid (Chg.of_ex hb1)
    have s1 : v1.heap.size ≤ w1.heap.size := Y1.out.size
    have Ew1 : Hid (Ex w w1) := Lib.hid (Ev1.out.chg Y1.out (by omega))
    clear hb1
    replace KX : Hid (Blk w1 (w.heap.size) 56 [.slice a.b x.table.buckets.length a.bc, .slice a.f x.table.frames.length a.fc, .slice a.l x.cache.lines.length a.lc, .int .i64 x.cache.hand, .int .i64 x.tags.count, .int .i64 x.tags.next, .int .i64 x.tags.round, .slice a.o x.tags.owns.length a.oc, .int .i64 x.space]) := Lib.hid (KX.out.chg Y1.out (by omega))
    replace KY : Hid (Blk w1 (w.heap.size + 1) 56 [.slice b.b y.table.buckets.length b.bc, .slice b.f y.table.frames.length b.fc, .slice b.l y.cache.lines.length b.lc, .int .i64 y.cache.hand, .int .i64 y.tags.count, .int .i64 y.tags.next, .int .i64 y.tags.round, .slice b.o y.tags.owns.length b.oc, .int .i64 y.space]) := Lib.hid (KY.out.chg Y1.out (by omega))
    replace DX := Lib.hid (HX.out.ex Ew1.out)
    replace DY := Lib.hid (HY.out.ex Ew1.out)
    obtain ⟨qX0, qX1, qX2, qX3, qX4, qX5, qX6, qX7, qX8⟩ := KX.out.c9
    have jX := KX.out.lt
    obtain ⟨qY0, qY1, qY2, qY3, qY4, qY5, qY6, qY7, qY8⟩ := KY.out.c9
    have jY := KY.out.lt
    go_wp2
    go_ret
    exact ⟨rfl, Ew1.out⟩
  rw [h1] at C1
  cases h2 : eqB x.cache y.cache
  · rw [h2] at C2
    have e : eqB x y = false := by rw [eqB_false, Ne, HE.out]; intro h; have := eqB_false.1 h2; exact this h.2.1
    rw [e]
    clear e h2
    go_enter Try.func14, Try.ntmps14
    go_wp2_with fail
    refine name_calls ?_; intro v1 hv1
    have X1 : Hid (Chg (0) (0) w v1) := Lib.hid (by rw [hv1]; repeat' (first | with_reducible exact Chg.refl _ _ _ | with_reducible refine Chg.alloc ?_ _ | with_reducible refine Chg.drew ?_ | with_reducible refine Chg.set ?_ (by omega) _))
    have t1 : w.heap.size ≤ v1.heap.size := X1.out.size
    have Ev1 : Hid (Ex w v1) := Lib.hid ((Ex.refl w).chg X1.out (by omega))
    have KX : Hid (Blk v1 (w.heap.size) 56 [.slice a.b x.table.buckets.length a.bc, .slice a.f x.table.frames.length a.fc, .slice a.l x.cache.lines.length a.lc, .int .i64 x.cache.hand, .int .i64 x.tags.count, .int .i64 x.tags.next, .int .i64 x.tags.round, .slice a.o x.tags.owns.length a.oc, .int .i64 x.space]) := Lib.hid (by rw [hv1]; repeat' (first | with_reducible exact Blk.new_at _ _ _ (by simp) | with_reducible refine Blk.alloc ?_ _ | with_reducible refine Blk.drew ?_ | with_reducible refine Blk.far ?_ (by simp; omega) _))
    have lX : w.heap.size < v1.heap.size := KX.out.lt
    have KY : Hid (Blk v1 (w.heap.size + 1) 56 [.slice b.b y.table.buckets.length b.bc, .slice b.f y.table.frames.length b.fc, .slice b.l y.cache.lines.length b.lc, .int .i64 y.cache.hand, .int .i64 y.tags.count, .int .i64 y.tags.next, .int .i64 y.tags.round, .slice b.o y.tags.owns.length b.oc, .int .i64 y.space]) := Lib.hid (by rw [hv1]; repeat' (first | with_reducible exact Blk.new_at _ _ _ (by simp) | with_reducible refine Blk.alloc ?_ _ | with_reducible refine Blk.drew ?_ | with_reducible refine Blk.far ?_ (by simp; omega) _))
    have lY : w.heap.size + 1 < v1.heap.size := KY.out.lt
    have DX := Lib.hid (HX.out.ex Ev1.out)
    have DY := Lib.hid (HY.out.ex Ev1.out)
    clear hv1
    refine (C1.out _ DX.out DY.out).mono ?_; rintro r w1 ⟨rfl, hb1⟩
    have Y1 : Hid (Chg 0 0 v1 w1) := Lib.hid (Chg.of_ex hb1)
    have s1 : v1.heap.size ≤ w1.heap.size := Y1.out.size
    have Ew1 : Hid (Ex w w1) := Lib.hid (Ev1.out.chg Y1.out (by omega))
    clear hb1
    replace KX : Hid (Blk w1 (w.heap.size) 56 [.slice a.b x.table.buckets.length a.bc, .slice a.f x.table.frames.length a.fc, .slice a.l x.cache.lines.length a.lc, .int .i64 x.cache.hand, .int .i64 x.tags.count, .int .i64 x.tags.next, .int .i64 x.tags.round, .slice a.o x.tags.owns.length a.oc, .int .i64 x.space]) := Lib.hid (KX.out.chg Y1.out (by omega))
    replace KY : Hid (Blk w1 (w.heap.size + 1) 56 [.slice b.b y.table.buckets.length b.bc, .slice b.f y.table.frames.length b.fc, .slice b.l y.cache.lines.length b.lc, .int .i64 y.cache.hand, .int .i64 y.tags.count, .int .i64 y.tags.next, .int .i64 y.tags.round, .slice b.o y.tags.owns.length b.oc, .int .i64 y.space]) := Lib.hid (KY.out.chg Y1.out (by omega))
    replace DX := Lib.hid (HX.out.ex Ew1.out)
    replace DY := Lib.hid (HY.out.ex Ew1.out)
    obtain ⟨qX0, qX1, qX2, qX3, qX4, qX5, qX6, qX7, qX8⟩ := KX.out.c9
    have jX := KX.out.lt
    obtain ⟨qY0, qY1, qY2, qY3, qY4, qY5, qY6, qY7, qY8⟩ := KY.out.c9
    have jY := KY.out.lt
    go_wp2_with fail
    refine name_calls ?_; intro v2 hv2
    have X2 : Hid (Chg (0) (0) w1 v2) := Lib.hid (by rw [hv2]; repeat' (first | with_reducible exact Chg.refl _ _ _ | with_reducible refine Chg.alloc ?_ _ | with_reducible refine Chg.drew ?_ | with_reducible refine Chg.set ?_ (by omega) _))
    have t2 : w1.heap.size ≤ v2.heap.size := X2.out.size
    have Ev2 : Hid (Ex w v2) := Lib.hid (Ew1.out.chg X2.out (by omega))
    clear qX0 qX1 qX2 qX3 qX4 qX5 qX6 qX7 qX8 jX
    clear qY0 qY1 qY2 qY3 qY4 qY5 qY6 qY7 qY8 jY
    replace KX : Hid (Blk v2 (w.heap.size) 56 [.slice a.b x.table.buckets.length a.bc, .slice a.f x.table.frames.length a.fc, .slice a.l x.cache.lines.length a.lc, .int .i64 x.cache.hand, .int .i64 x.tags.count, .int .i64 x.tags.next, .int .i64 x.tags.round, .slice a.o x.tags.owns.length a.oc, .int .i64 x.space]) := Lib.hid (KX.out.chg X2.out (by omega))
    replace KY : Hid (Blk v2 (w.heap.size + 1) 56 [.slice b.b y.table.buckets.length b.bc, .slice b.f y.table.frames.length b.fc, .slice b.l y.cache.lines.length b.lc, .int .i64 y.cache.hand, .int .i64 y.tags.count, .int .i64 y.tags.next, .int .i64 y.tags.round, .slice b.o y.tags.owns.length b.oc, .int .i64 y.space]) := Lib.hid (KY.out.chg X2.out (by omega))
    replace DX := Lib.hid (HX.out.ex Ev2.out)
    replace DY := Lib.hid (HY.out.ex Ev2.out)
    clear hv2
    refine (C2.out _ DX.out DY.out).mono ?_; rintro r w2 ⟨rfl, hb2⟩
    have Y2 : Hid (Chg 0 0 v2 w2) := Lib.hid (Chg.of_ex hb2)
    have s2 : v2.heap.size ≤ w2.heap.size := Y2.out.size
    have Ew2 : Hid (Ex w w2) := Lib.hid (Ev2.out.chg Y2.out (by omega))
    clear hb2
    replace KX : Hid (Blk w2 (w.heap.size) 56 [.slice a.b x.table.buckets.length a.bc, .slice a.f x.table.frames.length a.fc, .slice a.l x.cache.lines.length a.lc, .int .i64 x.cache.hand, .int .i64 x.tags.count, .int .i64 x.tags.next, .int .i64 x.tags.round, .slice a.o x.tags.owns.length a.oc, .int .i64 x.space]) := Lib.hid (KX.out.chg Y2.out (by omega))
    replace KY : Hid (Blk w2 (w.heap.size + 1) 56 [.slice b.b y.table.buckets.length b.bc, .slice b.f y.table.frames.length b.fc, .slice b.l y.cache.lines.length b.lc, .int .i64 y.cache.hand, .int .i64 y.tags.count, .int .i64 y.tags.next, .int .i64 y.tags.round, .slice b.o y.tags.owns.length b.oc, .int .i64 y.space]) := Lib.hid (KY.out.chg Y2.out (by omega))
    replace DX := Lib.hid (HX.out.ex Ew2.out)
    replace DY := Lib.hid (HY.out.ex Ew2.out)
    obtain ⟨qX0, qX1, qX2, qX3, qX4, qX5, qX6, qX7, qX8⟩ := KX.out.c9
    have jX := KX.out.lt
    obtain ⟨qY0, qY1, qY2, qY3, qY4, qY5, qY6, qY7, qY8⟩ := KY.out.c9
    have jY := KY.out.lt
    go_wp2
    go_ret
    exact ⟨rfl, Ew2.out⟩
  rw [h2] at C2
  cases h3 : eqB x.tags y.tags
  · rw [h3] at C3
    have e : eqB x y = false := by rw [eqB_false, Ne, HE.out]; intro h; have := eqB_false.1 h3; exact this h.2.2.1
    rw [e]
    clear e h3
    go_enter Try.func14, Try.ntmps14
    go_wp2_with fail
    refine name_calls ?_; intro v1 hv1
    have X1 : Hid (Chg (0) (0) w v1) := Lib.hid (by rw [hv1]; repeat' (first | with_reducible exact Chg.refl _ _ _ | with_reducible refine Chg.alloc ?_ _ | with_reducible refine Chg.drew ?_ | with_reducible refine Chg.set ?_ (by omega) _))
    have t1 : w.heap.size ≤ v1.heap.size := X1.out.size
    have Ev1 : Hid (Ex w v1) := Lib.hid ((Ex.refl w).chg X1.out (by omega))
    have KX : Hid (Blk v1 (w.heap.size) 56 [.slice a.b x.table.buckets.length a.bc, .slice a.f x.table.frames.length a.fc, .slice a.l x.cache.lines.length a.lc, .int .i64 x.cache.hand, .int .i64 x.tags.count, .int .i64 x.tags.next, .int .i64 x.tags.round, .slice a.o x.tags.owns.length a.oc, .int .i64 x.space]) := Lib.hid (by rw [hv1]; repeat' (first | with_reducible exact Blk.new_at _ _ _ (by simp) | with_reducible refine Blk.alloc ?_ _ | with_reducible refine Blk.drew ?_ | with_reducible refine Blk.far ?_ (by simp; omega) _))
    have lX : w.heap.size < v1.heap.size := KX.out.lt
    have KY : Hid (Blk v1 (w.heap.size + 1) 56 [.slice b.b y.table.buckets.length b.bc, .slice b.f y.table.frames.length b.fc, .slice b.l y.cache.lines.length b.lc, .int .i64 y.cache.hand, .int .i64 y.tags.count, .int .i64 y.tags.next, .int .i64 y.tags.round, .slice b.o y.tags.owns.length b.oc, .int .i64 y.space]) := Lib.hid (by rw [hv1]; repeat' (first | with_reducible exact Blk.new_at _ _ _ (by simp) | with_reducible refine Blk.alloc ?_ _ | with_reducible refine Blk.drew ?_ | with_reducible refine Blk.far ?_ (by simp; omega) _))
    have lY : w.heap.size + 1 < v1.heap.size := KY.out.lt
    have DX := Lib.hid (HX.out.ex Ev1.out)
    have DY := Lib.hid (HY.out.ex Ev1.out)
    clear hv1
    refine (C1.out _ DX.out DY.out).mono ?_; rintro r w1 ⟨rfl, hb1⟩
    have Y1 : Hid (Chg 0 0 v1 w1) := Lib.hid (Chg.of_ex hb1)
    have s1 : v1.heap.size ≤ w1.heap.size := Y1.out.size
    have Ew1 : Hid (Ex w w1) := Lib.hid (Ev1.out.chg Y1.out (by omega))
    clear hb1
    replace KX : Hid (Blk w1 (w.heap.size) 56 [.slice a.b x.table.buckets.length a.bc, .slice a.f x.table.frames.length a.fc, .slice a.l x.cache.lines.length a.lc, .int .i64 x.cache.hand, .int .i64 x.tags.count, .int .i64 x.tags.next, .int .i64 x.tags.round, .slice a.o x.tags.owns.length a.oc, .int .i64 x.space]) := Lib.hid (KX.out.chg Y1.out (by omega))
    replace KY : Hid (Blk w1 (w.heap.size + 1) 56 [.slice b.b y.table.buckets.length b.bc, .slice b.f y.table.frames.length b.fc, .slice b.l y.cache.lines.length b.lc, .int .i64 y.cache.hand, .int .i64 y.tags.count, .int .i64 y.tags.next, .int .i64 y.tags.round, .slice b.o y.tags.owns.length b.oc, .int .i64 y.space]) := Lib.hid (KY.out.chg Y1.out (by omega))
    replace DX := Lib.hid (HX.out.ex Ew1.out)
    replace DY := Lib.hid (HY.out.ex Ew1.out)
    obtain ⟨qX0, qX1, qX2, qX3, qX4, qX5, qX6, qX7, qX8⟩ := KX.out.c9
    have jX := KX.out.lt
    obtain ⟨qY0, qY1, qY2, qY3, qY4, qY5, qY6, qY7, qY8⟩ := KY.out.c9
    have jY := KY.out.lt
    go_wp2_with fail
    refine name_calls ?_; intro v2 hv2
    have X2 : Hid (Chg (0) (0) w1 v2) := Lib.hid (by rw [hv2]; repeat' (first | with_reducible exact Chg.refl _ _ _ | with_reducible refine Chg.alloc ?_ _ | with_reducible refine Chg.drew ?_ | with_reducible refine Chg.set ?_ (by omega) _))
    have t2 : w1.heap.size ≤ v2.heap.size := X2.out.size
    have Ev2 : Hid (Ex w v2) := Lib.hid (Ew1.out.chg X2.out (by omega))
    clear qX0 qX1 qX2 qX3 qX4 qX5 qX6 qX7 qX8 jX
    clear qY0 qY1 qY2 qY3 qY4 qY5 qY6 qY7 qY8 jY
    replace KX : Hid (Blk v2 (w.heap.size) 56 [.slice a.b x.table.buckets.length a.bc, .slice a.f x.table.frames.length a.fc, .slice a.l x.cache.lines.length a.lc, .int .i64 x.cache.hand, .int .i64 x.tags.count, .int .i64 x.tags.next, .int .i64 x.tags.round, .slice a.o x.tags.owns.length a.oc, .int .i64 x.space]) := Lib.hid (KX.out.chg X2.out (by omega))
    replace KY : Hid (Blk v2 (w.heap.size + 1) 56 [.slice b.b y.table.buckets.length b.bc, .slice b.f y.table.frames.length b.fc, .slice b.l y.cache.lines.length b.lc, .int .i64 y.cache.hand, .int .i64 y.tags.count, .int .i64 y.tags.next, .int .i64 y.tags.round, .slice b.o y.tags.owns.length b.oc, .int .i64 y.space]) := Lib.hid (KY.out.chg X2.out (by omega))
    replace DX := Lib.hid (HX.out.ex Ev2.out)
    replace DY := Lib.hid (HY.out.ex Ev2.out)
    clear hv2
    refine (C2.out _ DX.out DY.out).mono ?_; rintro r w2 ⟨rfl, hb2⟩
    have Y2 : Hid (Chg 0 0 v2 w2) := Lib.hid (Chg.of_ex hb2)
    have s2 : v2.heap.size ≤ w2.heap.size := Y2.out.size
    have Ew2 : Hid (Ex w w2) := Lib.hid (Ev2.out.chg Y2.out (by omega))
    clear hb2
    replace KX : Hid (Blk w2 (w.heap.size) 56 [.slice a.b x.table.buckets.length a.bc, .slice a.f x.table.frames.length a.fc, .slice a.l x.cache.lines.length a.lc, .int .i64 x.cache.hand, .int .i64 x.tags.count, .int .i64 x.tags.next, .int .i64 x.tags.round, .slice a.o x.tags.owns.length a.oc, .int .i64 x.space]) := Lib.hid (KX.out.chg Y2.out (by omega))
    replace KY : Hid (Blk w2 (w.heap.size + 1) 56 [.slice b.b y.table.buckets.length b.bc, .slice b.f y.table.frames.length b.fc, .slice b.l y.cache.lines.length b.lc, .int .i64 y.cache.hand, .int .i64 y.tags.count, .int .i64 y.tags.next, .int .i64 y.tags.round, .slice b.o y.tags.owns.length b.oc, .int .i64 y.space]) := Lib.hid (KY.out.chg Y2.out (by omega))
    replace DX := Lib.hid (HX.out.ex Ew2.out)
    replace DY := Lib.hid (HY.out.ex Ew2.out)
    obtain ⟨qX0, qX1, qX2, qX3, qX4, qX5, qX6, qX7, qX8⟩ := KX.out.c9
    have jX := KX.out.lt
    obtain ⟨qY0, qY1, qY2, qY3, qY4, qY5, qY6, qY7, qY8⟩ := KY.out.c9
    have jY := KY.out.lt
    go_wp2_with fail
    refine name_calls ?_; intro v3 hv3
    have X3 : Hid (Chg (0) (0) w2 v3) := Lib.hid (by rw [hv3]; repeat' (first | with_reducible exact Chg.refl _ _ _ | with_reducible refine Chg.alloc ?_ _ | with_reducible refine Chg.drew ?_ | with_reducible refine Chg.set ?_ (by omega) _))
    have t3 : w2.heap.size ≤ v3.heap.size := X3.out.size
    have Ev3 : Hid (Ex w v3) := Lib.hid (Ew2.out.chg X3.out (by omega))
    clear qX0 qX1 qX2 qX3 qX4 qX5 qX6 qX7 qX8 jX
    clear qY0 qY1 qY2 qY3 qY4 qY5 qY6 qY7 qY8 jY
    replace KX : Hid (Blk v3 (w.heap.size) 56 [.slice a.b x.table.buckets.length a.bc, .slice a.f x.table.frames.length a.fc, .slice a.l x.cache.lines.length a.lc, .int .i64 x.cache.hand, .int .i64 x.tags.count, .int .i64 x.tags.next, .int .i64 x.tags.round, .slice a.o x.tags.owns.length a.oc, .int .i64 x.space]) := Lib.hid (KX.out.chg X3.out (by omega))
    replace KY : Hid (Blk v3 (w.heap.size + 1) 56 [.slice b.b y.table.buckets.length b.bc, .slice b.f y.table.frames.length b.fc, .slice b.l y.cache.lines.length b.lc, .int .i64 y.cache.hand, .int .i64 y.tags.count, .int .i64 y.tags.next, .int .i64 y.tags.round, .slice b.o y.tags.owns.length b.oc, .int .i64 y.space]) := Lib.hid (KY.out.chg X3.out (by omega))
    replace DX := Lib.hid (HX.out.ex Ev3.out)
    replace DY := Lib.hid (HY.out.ex Ev3.out)
    clear hv3
    refine (C3.out _ DX.out DY.out).mono ?_; rintro r w3 ⟨rfl, hb3⟩
    have Y3 : Hid (Chg 0 0 v3 w3) := Lib.hid (Chg.of_ex hb3)
    have s3 : v3.heap.size ≤ w3.heap.size := Y3.out.size
    have Ew3 : Hid (Ex w w3) := Lib.hid (Ev3.out.chg Y3.out (by omega))
    clear hb3
    replace KX : Hid (Blk w3 (w.heap.size) 56 [.slice a.b x.table.buckets.length a.bc, .slice a.f x.table.frames.length a.fc, .slice a.l x.cache.lines.length a.lc, .int .i64 x.cache.hand, .int .i64 x.tags.count, .int .i64 x.tags.next, .int .i64 x.tags.round, .slice a.o x.tags.owns.length a.oc, .int .i64 x.space]) := Lib.hid (KX.out.chg Y3.out (by omega))
    replace KY : Hid (Blk w3 (w.heap.size + 1) 56 [.slice b.b y.table.buckets.length b.bc, .slice b.f y.table.frames.length b.fc, .slice b.l y.cache.lines.length b.lc, .int .i64 y.cache.hand, .int .i64 y.tags.count, .int .i64 y.tags.next, .int .i64 y.tags.round, .slice b.o y.tags.owns.length b.oc, .int .i64 y.space]) := Lib.hid (KY.out.chg Y3.out (by omega))
    replace DX := Lib.hid (HX.out.ex Ew3.out)
    replace DY := Lib.hid (HY.out.ex Ew3.out)
    obtain ⟨qX0, qX1, qX2, qX3, qX4, qX5, qX6, qX7, qX8⟩ := KX.out.c9
    have jX := KX.out.lt
    obtain ⟨qY0, qY1, qY2, qY3, qY4, qY5, qY6, qY7, qY8⟩ := KY.out.c9
    have jY := KY.out.lt
    go_wp2
    go_ret
    exact ⟨rfl, Ew3.out⟩
  rw [h3] at C3
  have e : eqB x y = (x.space == y.space) := by rw [Bool.eq_iff_iff, eqB_true, HE.out, beq_iff_eq]; exact ⟨fun h => h.2.2.2, fun h => ⟨eqB_true.1 h1, eqB_true.1 h2, eqB_true.1 h3, h⟩⟩
  rw [e]
  clear e h1 h2 h3
  go_enter Try.func14, Try.ntmps14
  go_wp2_with fail
  refine name_calls ?_; intro v1 hv1
  have X1 : Hid (Chg (0) (0) w v1) := Lib.hid (by rw [hv1]; repeat' (first | with_reducible exact Chg.refl _ _ _ | with_reducible refine Chg.alloc ?_ _ | with_reducible refine Chg.drew ?_ | with_reducible refine Chg.set ?_ (by omega) _))
  have t1 : w.heap.size ≤ v1.heap.size := X1.out.size
  have Ev1 : Hid (Ex w v1) := Lib.hid ((Ex.refl w).chg X1.out (by omega))
  have KX : Hid (Blk v1 (w.heap.size) 56 [.slice a.b x.table.buckets.length a.bc, .slice a.f x.table.frames.length a.fc, .slice a.l x.cache.lines.length a.lc, .int .i64 x.cache.hand, .int .i64 x.tags.count, .int .i64 x.tags.next, .int .i64 x.tags.round, .slice a.o x.tags.owns.length a.oc, .int .i64 x.space]) := Lib.hid (by rw [hv1]; repeat' (first | with_reducible exact Blk.new_at _ _ _ (by simp) | with_reducible refine Blk.alloc ?_ _ | with_reducible refine Blk.drew ?_ | with_reducible refine Blk.far ?_ (by simp; omega) _))
  have lX : w.heap.size < v1.heap.size := KX.out.lt
  have KY : Hid (Blk v1 (w.heap.size + 1) 56 [.slice b.b y.table.buckets.length b.bc, .slice b.f y.table.frames.length b.fc, .slice b.l y.cache.lines.length b.lc, .int .i64 y.cache.hand, .int .i64 y.tags.count, .int .i64 y.tags.next, .int .i64 y.tags.round, .slice b.o y.tags.owns.length b.oc, .int .i64 y.space]) := Lib.hid (by rw [hv1]; repeat' (first | with_reducible exact Blk.new_at _ _ _ (by simp) | with_reducible refine Blk.alloc ?_ _ | with_reducible refine Blk.drew ?_ | with_reducible refine Blk.far ?_ (by simp; omega) _))
  have lY : w.heap.size + 1 < v1.heap.size := KY.out.lt
  have DX := Lib.hid (HX.out.ex Ev1.out)
  have DY := Lib.hid (HY.out.ex Ev1.out)
  clear hv1
  refine (C1.out _ DX.out DY.out).mono ?_; rintro r w1 ⟨rfl, hb1⟩
  have Y1 : Hid (Chg 0 0 v1 w1) := Lib.hid (Chg.of_ex hb1)
  have s1 : v1.heap.size ≤ w1.heap.size := Y1.out.size
  have Ew1 : Hid (Ex w w1) := Lib.hid (Ev1.out.chg Y1.out (by omega))
  clear hb1
  replace KX : Hid (Blk w1 (w.heap.size) 56 [.slice a.b x.table.buckets.length a.bc, .slice a.f x.table.frames.length a.fc, .slice a.l x.cache.lines.length a.lc, .int .i64 x.cache.hand, .int .i64 x.tags.count, .int .i64 x.tags.next, .int .i64 x.tags.round, .slice a.o x.tags.owns.length a.oc, .int .i64 x.space]) := Lib.hid (KX.out.chg Y1.out (by omega))
  replace KY : Hid (Blk w1 (w.heap.size + 1) 56 [.slice b.b y.table.buckets.length b.bc, .slice b.f y.table.frames.length b.fc, .slice b.l y.cache.lines.length b.lc, .int .i64 y.cache.hand, .int .i64 y.tags.count, .int .i64 y.tags.next, .int .i64 y.tags.round, .slice b.o y.tags.owns.length b.oc, .int .i64 y.space]) := Lib.hid (KY.out.chg Y1.out (by omega))
  replace DX := Lib.hid (HX.out.ex Ew1.out)
  replace DY := Lib.hid (HY.out.ex Ew1.out)
  obtain ⟨qX0, qX1, qX2, qX3, qX4, qX5, qX6, qX7, qX8⟩ := KX.out.c9
  have jX := KX.out.lt
  obtain ⟨qY0, qY1, qY2, qY3, qY4, qY5, qY6, qY7, qY8⟩ := KY.out.c9
  have jY := KY.out.lt
  go_wp2_with fail
  refine name_calls ?_; intro v2 hv2
  have X2 : Hid (Chg (0) (0) w1 v2) := Lib.hid (by rw [hv2]; repeat' (first | with_reducible exact Chg.refl _ _ _ | with_reducible refine Chg.alloc ?_ _ | with_reducible refine Chg.drew ?_ | with_reducible refine Chg.set ?_ (by omega) _))
  have t2 : w1.heap.size ≤ v2.heap.size := X2.out.size
  have Ev2 : Hid (Ex w v2) := Lib.hid (Ew1.out.chg X2.out (by omega))
  clear qX0 qX1 qX2 qX3 qX4 qX5 qX6 qX7 qX8 jX
  clear qY0 qY1 qY2 qY3 qY4 qY5 qY6 qY7 qY8 jY
  replace KX : Hid (Blk v2 (w.heap.size) 56 [.slice a.b x.table.buckets.length a.bc, .slice a.f x.table.frames.length a.fc, .slice a.l x.cache.lines.length a.lc, .int .i64 x.cache.hand, .int .i64 x.tags.count, .int .i64 x.tags.next, .int .i64 x.tags.round, .slice a.o x.tags.owns.length a.oc, .int .i64 x.space]) := Lib.hid (KX.out.chg X2.out (by omega))
  replace KY : Hid (Blk v2 (w.heap.size + 1) 56 [.slice b.b y.table.buckets.length b.bc, .slice b.f y.table.frames.length b.fc, .slice b.l y.cache.lines.length b.lc, .int .i64 y.cache.hand, .int .i64 y.tags.count, .int .i64 y.tags.next, .int .i64 y.tags.round, .slice b.o y.tags.owns.length b.oc, .int .i64 y.space]) := Lib.hid (KY.out.chg X2.out (by omega))
  replace DX := Lib.hid (HX.out.ex Ev2.out)
  replace DY := Lib.hid (HY.out.ex Ev2.out)
  clear hv2
  refine (C2.out _ DX.out DY.out).mono ?_; rintro r w2 ⟨rfl, hb2⟩
  have Y2 : Hid (Chg 0 0 v2 w2) := Lib.hid (Chg.of_ex hb2)
  have s2 : v2.heap.size ≤ w2.heap.size := Y2.out.size
  have Ew2 : Hid (Ex w w2) := Lib.hid (Ev2.out.chg Y2.out (by omega))
  clear hb2
  replace KX : Hid (Blk w2 (w.heap.size) 56 [.slice a.b x.table.buckets.length a.bc, .slice a.f x.table.frames.length a.fc, .slice a.l x.cache.lines.length a.lc, .int .i64 x.cache.hand, .int .i64 x.tags.count, .int .i64 x.tags.next, .int .i64 x.tags.round, .slice a.o x.tags.owns.length a.oc, .int .i64 x.space]) := Lib.hid (KX.out.chg Y2.out (by omega))
  replace KY : Hid (Blk w2 (w.heap.size + 1) 56 [.slice b.b y.table.buckets.length b.bc, .slice b.f y.table.frames.length b.fc, .slice b.l y.cache.lines.length b.lc, .int .i64 y.cache.hand, .int .i64 y.tags.count, .int .i64 y.tags.next, .int .i64 y.tags.round, .slice b.o y.tags.owns.length b.oc, .int .i64 y.space]) := Lib.hid (KY.out.chg Y2.out (by omega))
  replace DX := Lib.hid (HX.out.ex Ew2.out)
  replace DY := Lib.hid (HY.out.ex Ew2.out)
  obtain ⟨qX0, qX1, qX2, qX3, qX4, qX5, qX6, qX7, qX8⟩ := KX.out.c9
  have jX := KX.out.lt
  obtain ⟨qY0, qY1, qY2, qY3, qY4, qY5, qY6, qY7, qY8⟩ := KY.out.c9
  have jY := KY.out.lt
  go_wp2_with fail
  refine name_calls ?_; intro v3 hv3
  have X3 : Hid (Chg (0) (0) w2 v3) := Lib.hid (by rw [hv3]; repeat' (first | with_reducible exact Chg.refl _ _ _ | with_reducible refine Chg.alloc ?_ _ | with_reducible refine Chg.drew ?_ | with_reducible refine Chg.set ?_ (by omega) _))
  have t3 : w2.heap.size ≤ v3.heap.size := X3.out.size
  have Ev3 : Hid (Ex w v3) := Lib.hid (Ew2.out.chg X3.out (by omega))
  clear qX0 qX1 qX2 qX3 qX4 qX5 qX6 qX7 qX8 jX
  clear qY0 qY1 qY2 qY3 qY4 qY5 qY6 qY7 qY8 jY
  replace KX : Hid (Blk v3 (w.heap.size) 56 [.slice a.b x.table.buckets.length a.bc, .slice a.f x.table.frames.length a.fc, .slice a.l x.cache.lines.length a.lc, .int .i64 x.cache.hand, .int .i64 x.tags.count, .int .i64 x.tags.next, .int .i64 x.tags.round, .slice a.o x.tags.owns.length a.oc, .int .i64 x.space]) := Lib.hid (KX.out.chg X3.out (by omega))
  replace KY : Hid (Blk v3 (w.heap.size + 1) 56 [.slice b.b y.table.buckets.length b.bc, .slice b.f y.table.frames.length b.fc, .slice b.l y.cache.lines.length b.lc, .int .i64 y.cache.hand, .int .i64 y.tags.count, .int .i64 y.tags.next, .int .i64 y.tags.round, .slice b.o y.tags.owns.length b.oc, .int .i64 y.space]) := Lib.hid (KY.out.chg X3.out (by omega))
  replace DX := Lib.hid (HX.out.ex Ev3.out)
  replace DY := Lib.hid (HY.out.ex Ev3.out)
  clear hv3
  refine (C3.out _ DX.out DY.out).mono ?_; rintro r w3 ⟨rfl, hb3⟩
  have Y3 : Hid (Chg 0 0 v3 w3) := Lib.hid (Chg.of_ex hb3)
  have s3 : v3.heap.size ≤ w3.heap.size := Y3.out.size
  have Ew3 : Hid (Ex w w3) := Lib.hid (Ev3.out.chg Y3.out (by omega))
  clear hb3
  replace KX : Hid (Blk w3 (w.heap.size) 56 [.slice a.b x.table.buckets.length a.bc, .slice a.f x.table.frames.length a.fc, .slice a.l x.cache.lines.length a.lc, .int .i64 x.cache.hand, .int .i64 x.tags.count, .int .i64 x.tags.next, .int .i64 x.tags.round, .slice a.o x.tags.owns.length a.oc, .int .i64 x.space]) := Lib.hid (KX.out.chg Y3.out (by omega))
  replace KY : Hid (Blk w3 (w.heap.size + 1) 56 [.slice b.b y.table.buckets.length b.bc, .slice b.f y.table.frames.length b.fc, .slice b.l y.cache.lines.length b.lc, .int .i64 y.cache.hand, .int .i64 y.tags.count, .int .i64 y.tags.next, .int .i64 y.tags.round, .slice b.o y.tags.owns.length b.oc, .int .i64 y.space]) := Lib.hid (KY.out.chg Y3.out (by omega))
  replace DX := Lib.hid (HX.out.ex Ew3.out)
  replace DY := Lib.hid (HY.out.ex Ew3.out)
  obtain ⟨qX0, qX1, qX2, qX3, qX4, qX5, qX6, qX7, qX8⟩ := KX.out.c9
  have jX := KX.out.lt
  obtain ⟨qY0, qY1, qY2, qY3, qY4, qY5, qY6, qY7, qY8⟩ := KY.out.c9
  have jY := KY.out.lt
  go_wp2
  go_ret
  exact ⟨rfl, Ew3.out⟩

set_option maxHeartbeats 2000000 in
theorem machSameS_c (x y : MachD) (a b : MA) (w : World) (hx : HasM w x a) (hy : HasM w y b) (hf : FewM x) (hg : FewM y) :
    Calls Try.prog 12 #[.agg #[.slice a.b x.table.buckets.length a.bc, .slice a.f x.table.frames.length a.fc, .slice a.l x.cache.lines.length a.lc, .int .i64 x.cache.hand, .int .i64 x.tags.count, .int .i64 x.tags.next, .int .i64 x.tags.round, .slice a.o x.tags.owns.length a.oc, .int .i64 x.space], .agg #[.slice b.b y.table.buckets.length b.bc, .slice b.f y.table.frames.length b.fc, .slice b.l y.cache.lines.length b.lc, .int .i64 y.cache.hand, .int .i64 y.tags.count, .int .i64 y.tags.next, .int .i64 y.tags.round, .slice b.o y.tags.owns.length b.oc, .int .i64 y.space]] w fun r w' => r = .returned (.bool (eqB x y)) ∧ Ex w w' := by
  have C1 := Lib.hid (fun w (h1 : HasM w x a) (h2 : HasM w y b) => tableSameS_c x.table y.table a.b a.bc a.f a.fc b.b b.bc b.f b.fc w h1.b h1.f h2.b h2.f hf.b hf.f hg.b hg.f)
  have C2 := Lib.hid (fun w (h1 : HasM w x a) (h2 : HasM w y b) => cacheSameS_c x.cache y.cache a.l b.l a.lc b.lc w h1.l h2.l hf.l hg.l)
  have C3 := Lib.hid (fun w (h1 : HasM w x a) (h2 : HasM w y b) => tagsSameS_c x.tags y.tags a.o b.o a.oc b.oc w h1.o h2.o hf.o hg.o)
  have HX := Lib.hid hx
  have HY := Lib.hid hy
  have HE := Lib.hid (mach_eq x y)
  clear hx hy hf hg
  cases h1 : eqB x.table y.table
  · rw [h1] at C1
    have e : eqB x y = false := by rw [eqB_false, Ne, HE.out]; intro h; have := eqB_false.1 h1; exact this h.1
    rw [e]
    clear e h1
    go_enter Try.func12, Try.ntmps12
    go_wp2_with fail
    refine name_calls ?_; intro v1 hv1
    have X1 : Hid (Chg (0) (0) w v1) := Lib.hid (by rw [hv1]; repeat' (first | with_reducible exact Chg.refl _ _ _ | with_reducible refine Chg.alloc ?_ _ | with_reducible refine Chg.drew ?_ | with_reducible refine Chg.set ?_ (by omega) _))
    have t1 : w.heap.size ≤ v1.heap.size := X1.out.size
    have Ev1 : Hid (Ex w v1) := Lib.hid ((Ex.refl w).chg X1.out (by omega))
    have KX : Hid (Blk v1 (w.heap.size) 56 [.slice a.b x.table.buckets.length a.bc, .slice a.f x.table.frames.length a.fc, .slice a.l x.cache.lines.length a.lc, .int .i64 x.cache.hand, .int .i64 x.tags.count, .int .i64 x.tags.next, .int .i64 x.tags.round, .slice a.o x.tags.owns.length a.oc, .int .i64 x.space]) := Lib.hid (by rw [hv1]; repeat' (first | with_reducible exact Blk.new_at _ _ _ (by simp) | with_reducible refine Blk.alloc ?_ _ | with_reducible refine Blk.drew ?_ | with_reducible refine Blk.far ?_ (by simp; omega) _))
    have lX : w.heap.size < v1.heap.size := KX.out.lt
    have KY : Hid (Blk v1 (w.heap.size + 1) 56 [.slice b.b y.table.buckets.length b.bc, .slice b.f y.table.frames.length b.fc, .slice b.l y.cache.lines.length b.lc, .int .i64 y.cache.hand, .int .i64 y.tags.count, .int .i64 y.tags.next, .int .i64 y.tags.round, .slice b.o y.tags.owns.length b.oc, .int .i64 y.space]) := Lib.hid (by rw [hv1]; repeat' (first | with_reducible exact Blk.new_at _ _ _ (by simp) | with_reducible refine Blk.alloc ?_ _ | with_reducible refine Blk.drew ?_ | with_reducible refine Blk.far ?_ (by simp; omega) _))
    have lY : w.heap.size + 1 < v1.heap.size := KY.out.lt
    have DX := Lib.hid (HX.out.ex Ev1.out)
    have DY := Lib.hid (HY.out.ex Ev1.out)
    clear hv1
    refine (C1.out _ DX.out DY.out).mono ?_; rintro r w1 ⟨rfl, hb1⟩
    have Y1 : Hid (Chg 0 0 v1 w1) := Lib.hid (Chg.of_ex hb1)
    have s1 : v1.heap.size ≤ w1.heap.size := Y1.out.size
    have Ew1 : Hid (Ex w w1) := Lib.hid (Ev1.out.chg Y1.out (by omega))
    clear hb1
    replace KX : Hid (Blk w1 (w.heap.size) 56 [.slice a.b x.table.buckets.length a.bc, .slice a.f x.table.frames.length a.fc, .slice a.l x.cache.lines.length a.lc, .int .i64 x.cache.hand, .int .i64 x.tags.count, .int .i64 x.tags.next, .int .i64 x.tags.round, .slice a.o x.tags.owns.length a.oc, .int .i64 x.space]) := Lib.hid (KX.out.chg Y1.out (by omega))
    replace KY : Hid (Blk w1 (w.heap.size + 1) 56 [.slice b.b y.table.buckets.length b.bc, .slice b.f y.table.frames.length b.fc, .slice b.l y.cache.lines.length b.lc, .int .i64 y.cache.hand, .int .i64 y.tags.count, .int .i64 y.tags.next, .int .i64 y.tags.round, .slice b.o y.tags.owns.length b.oc, .int .i64 y.space]) := Lib.hid (KY.out.chg Y1.out (by omega))
    replace DX := Lib.hid (HX.out.ex Ew1.out)
    replace DY := Lib.hid (HY.out.ex Ew1.out)
    obtain ⟨qX0, qX1, qX2, qX3, qX4, qX5, qX6, qX7, qX8⟩ := KX.out.c9
    have jX := KX.out.lt
    obtain ⟨qY0, qY1, qY2, qY3, qY4, qY5, qY6, qY7, qY8⟩ := KY.out.c9
    have jY := KY.out.lt
    go_wp2
    go_ret
    exact ⟨rfl, Ew1.out⟩
  rw [h1] at C1
  cases h2 : eqB x.cache y.cache
  · rw [h2] at C2
    have e : eqB x y = false := by rw [eqB_false, Ne, HE.out]; intro h; have := eqB_false.1 h2; exact this h.2.1
    rw [e]
    clear e h2
    go_enter Try.func12, Try.ntmps12
    go_wp2_with fail
    refine name_calls ?_; intro v1 hv1
    have X1 : Hid (Chg (0) (0) w v1) := Lib.hid (by rw [hv1]; repeat' (first | with_reducible exact Chg.refl _ _ _ | with_reducible refine Chg.alloc ?_ _ | with_reducible refine Chg.drew ?_ | with_reducible refine Chg.set ?_ (by omega) _))
    have t1 : w.heap.size ≤ v1.heap.size := X1.out.size
    have Ev1 : Hid (Ex w v1) := Lib.hid ((Ex.refl w).chg X1.out (by omega))
    have KX : Hid (Blk v1 (w.heap.size) 56 [.slice a.b x.table.buckets.length a.bc, .slice a.f x.table.frames.length a.fc, .slice a.l x.cache.lines.length a.lc, .int .i64 x.cache.hand, .int .i64 x.tags.count, .int .i64 x.tags.next, .int .i64 x.tags.round, .slice a.o x.tags.owns.length a.oc, .int .i64 x.space]) := Lib.hid (by rw [hv1]; repeat' (first | with_reducible exact Blk.new_at _ _ _ (by simp) | with_reducible refine Blk.alloc ?_ _ | with_reducible refine Blk.drew ?_ | with_reducible refine Blk.far ?_ (by simp; omega) _))
    have lX : w.heap.size < v1.heap.size := KX.out.lt
    have KY : Hid (Blk v1 (w.heap.size + 1) 56 [.slice b.b y.table.buckets.length b.bc, .slice b.f y.table.frames.length b.fc, .slice b.l y.cache.lines.length b.lc, .int .i64 y.cache.hand, .int .i64 y.tags.count, .int .i64 y.tags.next, .int .i64 y.tags.round, .slice b.o y.tags.owns.length b.oc, .int .i64 y.space]) := Lib.hid (by rw [hv1]; repeat' (first | with_reducible exact Blk.new_at _ _ _ (by simp) | with_reducible refine Blk.alloc ?_ _ | with_reducible refine Blk.drew ?_ | with_reducible refine Blk.far ?_ (by simp; omega) _))
    have lY : w.heap.size + 1 < v1.heap.size := KY.out.lt
    have DX := Lib.hid (HX.out.ex Ev1.out)
    have DY := Lib.hid (HY.out.ex Ev1.out)
    clear hv1
    refine (C1.out _ DX.out DY.out).mono ?_; rintro r w1 ⟨rfl, hb1⟩
    have Y1 : Hid (Chg 0 0 v1 w1) := Lib.hid (Chg.of_ex hb1)
    have s1 : v1.heap.size ≤ w1.heap.size := Y1.out.size
    have Ew1 : Hid (Ex w w1) := Lib.hid (Ev1.out.chg Y1.out (by omega))
    clear hb1
    replace KX : Hid (Blk w1 (w.heap.size) 56 [.slice a.b x.table.buckets.length a.bc, .slice a.f x.table.frames.length a.fc, .slice a.l x.cache.lines.length a.lc, .int .i64 x.cache.hand, .int .i64 x.tags.count, .int .i64 x.tags.next, .int .i64 x.tags.round, .slice a.o x.tags.owns.length a.oc, .int .i64 x.space]) := Lib.hid (KX.out.chg Y1.out (by omega))
    replace KY : Hid (Blk w1 (w.heap.size + 1) 56 [.slice b.b y.table.buckets.length b.bc, .slice b.f y.table.frames.length b.fc, .slice b.l y.cache.lines.length b.lc, .int .i64 y.cache.hand, .int .i64 y.tags.count, .int .i64 y.tags.next, .int .i64 y.tags.round, .slice b.o y.tags.owns.length b.oc, .int .i64 y.space]) := Lib.hid (KY.out.chg Y1.out (by omega))
    replace DX := Lib.hid (HX.out.ex Ew1.out)
    replace DY := Lib.hid (HY.out.ex Ew1.out)
    obtain ⟨qX0, qX1, qX2, qX3, qX4, qX5, qX6, qX7, qX8⟩ := KX.out.c9
    have jX := KX.out.lt
    obtain ⟨qY0, qY1, qY2, qY3, qY4, qY5, qY6, qY7, qY8⟩ := KY.out.c9
    have jY := KY.out.lt
    go_wp2_with fail
    refine name_calls ?_; intro v2 hv2
    have X2 : Hid (Chg (0) (0) w1 v2) := Lib.hid (by rw [hv2]; repeat' (first | with_reducible exact Chg.refl _ _ _ | with_reducible refine Chg.alloc ?_ _ | with_reducible refine Chg.drew ?_ | with_reducible refine Chg.set ?_ (by omega) _))
    have t2 : w1.heap.size ≤ v2.heap.size := X2.out.size
    have Ev2 : Hid (Ex w v2) := Lib.hid (Ew1.out.chg X2.out (by omega))
    clear qX0 qX1 qX2 qX3 qX4 qX5 qX6 qX7 qX8 jX
    clear qY0 qY1 qY2 qY3 qY4 qY5 qY6 qY7 qY8 jY
    replace KX : Hid (Blk v2 (w.heap.size) 56 [.slice a.b x.table.buckets.length a.bc, .slice a.f x.table.frames.length a.fc, .slice a.l x.cache.lines.length a.lc, .int .i64 x.cache.hand, .int .i64 x.tags.count, .int .i64 x.tags.next, .int .i64 x.tags.round, .slice a.o x.tags.owns.length a.oc, .int .i64 x.space]) := Lib.hid (KX.out.chg X2.out (by omega))
    replace KY : Hid (Blk v2 (w.heap.size + 1) 56 [.slice b.b y.table.buckets.length b.bc, .slice b.f y.table.frames.length b.fc, .slice b.l y.cache.lines.length b.lc, .int .i64 y.cache.hand, .int .i64 y.tags.count, .int .i64 y.tags.next, .int .i64 y.tags.round, .slice b.o y.tags.owns.length b.oc, .int .i64 y.space]) := Lib.hid (KY.out.chg X2.out (by omega))
    replace DX := Lib.hid (HX.out.ex Ev2.out)
    replace DY := Lib.hid (HY.out.ex Ev2.out)
    clear hv2
    refine (C2.out _ DX.out DY.out).mono ?_; rintro r w2 ⟨rfl, hb2⟩
    have Y2 : Hid (Chg 0 0 v2 w2) := Lib.hid (Chg.of_ex hb2)
    have s2 : v2.heap.size ≤ w2.heap.size := Y2.out.size
    have Ew2 : Hid (Ex w w2) := Lib.hid (Ev2.out.chg Y2.out (by omega))
    clear hb2
    replace KX : Hid (Blk w2 (w.heap.size) 56 [.slice a.b x.table.buckets.length a.bc, .slice a.f x.table.frames.length a.fc, .slice a.l x.cache.lines.length a.lc, .int .i64 x.cache.hand, .int .i64 x.tags.count, .int .i64 x.tags.next, .int .i64 x.tags.round, .slice a.o x.tags.owns.length a.oc, .int .i64 x.space]) := Lib.hid (KX.out.chg Y2.out (by omega))
    replace KY : Hid (Blk w2 (w.heap.size + 1) 56 [.slice b.b y.table.buckets.length b.bc, .slice b.f y.table.frames.length b.fc, .slice b.l y.cache.lines.length b.lc, .int .i64 y.cache.hand, .int .i64 y.tags.count, .int .i64 y.tags.next, .int .i64 y.tags.round, .slice b.o y.tags.owns.length b.oc, .int .i64 y.space]) := Lib.hid (KY.out.chg Y2.out (by omega))
    replace DX := Lib.hid (HX.out.ex Ew2.out)
    replace DY := Lib.hid (HY.out.ex Ew2.out)
    obtain ⟨qX0, qX1, qX2, qX3, qX4, qX5, qX6, qX7, qX8⟩ := KX.out.c9
    have jX := KX.out.lt
    obtain ⟨qY0, qY1, qY2, qY3, qY4, qY5, qY6, qY7, qY8⟩ := KY.out.c9
    have jY := KY.out.lt
    go_wp2
    go_ret
    exact ⟨rfl, Ew2.out⟩
  rw [h2] at C2
  cases h3 : eqB x.tags y.tags
  · rw [h3] at C3
    have e : eqB x y = false := by rw [eqB_false, Ne, HE.out]; intro h; have := eqB_false.1 h3; exact this h.2.2.1
    rw [e]
    clear e h3
    go_enter Try.func12, Try.ntmps12
    go_wp2_with fail
    refine name_calls ?_; intro v1 hv1
    have X1 : Hid (Chg (0) (0) w v1) := Lib.hid (by rw [hv1]; repeat' (first | with_reducible exact Chg.refl _ _ _ | with_reducible refine Chg.alloc ?_ _ | with_reducible refine Chg.drew ?_ | with_reducible refine Chg.set ?_ (by omega) _))
    have t1 : w.heap.size ≤ v1.heap.size := X1.out.size
    have Ev1 : Hid (Ex w v1) := Lib.hid ((Ex.refl w).chg X1.out (by omega))
    have KX : Hid (Blk v1 (w.heap.size) 56 [.slice a.b x.table.buckets.length a.bc, .slice a.f x.table.frames.length a.fc, .slice a.l x.cache.lines.length a.lc, .int .i64 x.cache.hand, .int .i64 x.tags.count, .int .i64 x.tags.next, .int .i64 x.tags.round, .slice a.o x.tags.owns.length a.oc, .int .i64 x.space]) := Lib.hid (by rw [hv1]; repeat' (first | with_reducible exact Blk.new_at _ _ _ (by simp) | with_reducible refine Blk.alloc ?_ _ | with_reducible refine Blk.drew ?_ | with_reducible refine Blk.far ?_ (by simp; omega) _))
    have lX : w.heap.size < v1.heap.size := KX.out.lt
    have KY : Hid (Blk v1 (w.heap.size + 1) 56 [.slice b.b y.table.buckets.length b.bc, .slice b.f y.table.frames.length b.fc, .slice b.l y.cache.lines.length b.lc, .int .i64 y.cache.hand, .int .i64 y.tags.count, .int .i64 y.tags.next, .int .i64 y.tags.round, .slice b.o y.tags.owns.length b.oc, .int .i64 y.space]) := Lib.hid (by rw [hv1]; repeat' (first | with_reducible exact Blk.new_at _ _ _ (by simp) | with_reducible refine Blk.alloc ?_ _ | with_reducible refine Blk.drew ?_ | with_reducible refine Blk.far ?_ (by simp; omega) _))
    have lY : w.heap.size + 1 < v1.heap.size := KY.out.lt
    have DX := Lib.hid (HX.out.ex Ev1.out)
    have DY := Lib.hid (HY.out.ex Ev1.out)
    clear hv1
    refine (C1.out _ DX.out DY.out).mono ?_; rintro r w1 ⟨rfl, hb1⟩
    have Y1 : Hid (Chg 0 0 v1 w1) := Lib.hid (Chg.of_ex hb1)
    have s1 : v1.heap.size ≤ w1.heap.size := Y1.out.size
    have Ew1 : Hid (Ex w w1) := Lib.hid (Ev1.out.chg Y1.out (by omega))
    clear hb1
    replace KX : Hid (Blk w1 (w.heap.size) 56 [.slice a.b x.table.buckets.length a.bc, .slice a.f x.table.frames.length a.fc, .slice a.l x.cache.lines.length a.lc, .int .i64 x.cache.hand, .int .i64 x.tags.count, .int .i64 x.tags.next, .int .i64 x.tags.round, .slice a.o x.tags.owns.length a.oc, .int .i64 x.space]) := Lib.hid (KX.out.chg Y1.out (by omega))
    replace KY : Hid (Blk w1 (w.heap.size + 1) 56 [.slice b.b y.table.buckets.length b.bc, .slice b.f y.table.frames.length b.fc, .slice b.l y.cache.lines.length b.lc, .int .i64 y.cache.hand, .int .i64 y.tags.count, .int .i64 y.tags.next, .int .i64 y.tags.round, .slice b.o y.tags.owns.length b.oc, .int .i64 y.space]) := Lib.hid (KY.out.chg Y1.out (by omega))
    replace DX := Lib.hid (HX.out.ex Ew1.out)
    replace DY := Lib.hid (HY.out.ex Ew1.out)
    obtain ⟨qX0, qX1, qX2, qX3, qX4, qX5, qX6, qX7, qX8⟩ := KX.out.c9
    have jX := KX.out.lt
    obtain ⟨qY0, qY1, qY2, qY3, qY4, qY5, qY6, qY7, qY8⟩ := KY.out.c9
    have jY := KY.out.lt
    go_wp2_with fail
    refine name_calls ?_; intro v2 hv2
    have X2 : Hid (Chg (0) (0) w1 v2) := Lib.hid (by rw [hv2]; repeat' (first | with_reducible exact Chg.refl _ _ _ | with_reducible refine Chg.alloc ?_ _ | with_reducible refine Chg.drew ?_ | with_reducible refine Chg.set ?_ (by omega) _))
    have t2 : w1.heap.size ≤ v2.heap.size := X2.out.size
    have Ev2 : Hid (Ex w v2) := Lib.hid (Ew1.out.chg X2.out (by omega))
    clear qX0 qX1 qX2 qX3 qX4 qX5 qX6 qX7 qX8 jX
    clear qY0 qY1 qY2 qY3 qY4 qY5 qY6 qY7 qY8 jY
    replace KX : Hid (Blk v2 (w.heap.size) 56 [.slice a.b x.table.buckets.length a.bc, .slice a.f x.table.frames.length a.fc, .slice a.l x.cache.lines.length a.lc, .int .i64 x.cache.hand, .int .i64 x.tags.count, .int .i64 x.tags.next, .int .i64 x.tags.round, .slice a.o x.tags.owns.length a.oc, .int .i64 x.space]) := Lib.hid (KX.out.chg X2.out (by omega))
    replace KY : Hid (Blk v2 (w.heap.size + 1) 56 [.slice b.b y.table.buckets.length b.bc, .slice b.f y.table.frames.length b.fc, .slice b.l y.cache.lines.length b.lc, .int .i64 y.cache.hand, .int .i64 y.tags.count, .int .i64 y.tags.next, .int .i64 y.tags.round, .slice b.o y.tags.owns.length b.oc, .int .i64 y.space]) := Lib.hid (KY.out.chg X2.out (by omega))
    replace DX := Lib.hid (HX.out.ex Ev2.out)
    replace DY := Lib.hid (HY.out.ex Ev2.out)
    clear hv2
    refine (C2.out _ DX.out DY.out).mono ?_; rintro r w2 ⟨rfl, hb2⟩
    have Y2 : Hid (Chg 0 0 v2 w2) := Lib.hid (Chg.of_ex hb2)
    have s2 : v2.heap.size ≤ w2.heap.size := Y2.out.size
    have Ew2 : Hid (Ex w w2) := Lib.hid (Ev2.out.chg Y2.out (by omega))
    clear hb2
    replace KX : Hid (Blk w2 (w.heap.size) 56 [.slice a.b x.table.buckets.length a.bc, .slice a.f x.table.frames.length a.fc, .slice a.l x.cache.lines.length a.lc, .int .i64 x.cache.hand, .int .i64 x.tags.count, .int .i64 x.tags.next, .int .i64 x.tags.round, .slice a.o x.tags.owns.length a.oc, .int .i64 x.space]) := Lib.hid (KX.out.chg Y2.out (by omega))
    replace KY : Hid (Blk w2 (w.heap.size + 1) 56 [.slice b.b y.table.buckets.length b.bc, .slice b.f y.table.frames.length b.fc, .slice b.l y.cache.lines.length b.lc, .int .i64 y.cache.hand, .int .i64 y.tags.count, .int .i64 y.tags.next, .int .i64 y.tags.round, .slice b.o y.tags.owns.length b.oc, .int .i64 y.space]) := Lib.hid (KY.out.chg Y2.out (by omega))
    replace DX := Lib.hid (HX.out.ex Ew2.out)
    replace DY := Lib.hid (HY.out.ex Ew2.out)
    obtain ⟨qX0, qX1, qX2, qX3, qX4, qX5, qX6, qX7, qX8⟩ := KX.out.c9
    have jX := KX.out.lt
    obtain ⟨qY0, qY1, qY2, qY3, qY4, qY5, qY6, qY7, qY8⟩ := KY.out.c9
    have jY := KY.out.lt
    go_wp2_with fail
    refine name_calls ?_; intro v3 hv3
    have X3 : Hid (Chg (0) (0) w2 v3) := Lib.hid (by rw [hv3]; repeat' (first | with_reducible exact Chg.refl _ _ _ | with_reducible refine Chg.alloc ?_ _ | with_reducible refine Chg.drew ?_ | with_reducible refine Chg.set ?_ (by omega) _))
    have t3 : w2.heap.size ≤ v3.heap.size := X3.out.size
    have Ev3 : Hid (Ex w v3) := Lib.hid (Ew2.out.chg X3.out (by omega))
    clear qX0 qX1 qX2 qX3 qX4 qX5 qX6 qX7 qX8 jX
    clear qY0 qY1 qY2 qY3 qY4 qY5 qY6 qY7 qY8 jY
    replace KX : Hid (Blk v3 (w.heap.size) 56 [.slice a.b x.table.buckets.length a.bc, .slice a.f x.table.frames.length a.fc, .slice a.l x.cache.lines.length a.lc, .int .i64 x.cache.hand, .int .i64 x.tags.count, .int .i64 x.tags.next, .int .i64 x.tags.round, .slice a.o x.tags.owns.length a.oc, .int .i64 x.space]) := Lib.hid (KX.out.chg X3.out (by omega))
    replace KY : Hid (Blk v3 (w.heap.size + 1) 56 [.slice b.b y.table.buckets.length b.bc, .slice b.f y.table.frames.length b.fc, .slice b.l y.cache.lines.length b.lc, .int .i64 y.cache.hand, .int .i64 y.tags.count, .int .i64 y.tags.next, .int .i64 y.tags.round, .slice b.o y.tags.owns.length b.oc, .int .i64 y.space]) := Lib.hid (KY.out.chg X3.out (by omega))
    replace DX := Lib.hid (HX.out.ex Ev3.out)
    replace DY := Lib.hid (HY.out.ex Ev3.out)
    clear hv3
    refine (C3.out _ DX.out DY.out).mono ?_; rintro r w3 ⟨rfl, hb3⟩
    have Y3 : Hid (Chg 0 0 v3 w3) := Lib.hid (Chg.of_ex hb3)
    have s3 : v3.heap.size ≤ w3.heap.size := Y3.out.size
    have Ew3 : Hid (Ex w w3) := Lib.hid (Ev3.out.chg Y3.out (by omega))
    clear hb3
    replace KX : Hid (Blk w3 (w.heap.size) 56 [.slice a.b x.table.buckets.length a.bc, .slice a.f x.table.frames.length a.fc, .slice a.l x.cache.lines.length a.lc, .int .i64 x.cache.hand, .int .i64 x.tags.count, .int .i64 x.tags.next, .int .i64 x.tags.round, .slice a.o x.tags.owns.length a.oc, .int .i64 x.space]) := Lib.hid (KX.out.chg Y3.out (by omega))
    replace KY : Hid (Blk w3 (w.heap.size + 1) 56 [.slice b.b y.table.buckets.length b.bc, .slice b.f y.table.frames.length b.fc, .slice b.l y.cache.lines.length b.lc, .int .i64 y.cache.hand, .int .i64 y.tags.count, .int .i64 y.tags.next, .int .i64 y.tags.round, .slice b.o y.tags.owns.length b.oc, .int .i64 y.space]) := Lib.hid (KY.out.chg Y3.out (by omega))
    replace DX := Lib.hid (HX.out.ex Ew3.out)
    replace DY := Lib.hid (HY.out.ex Ew3.out)
    obtain ⟨qX0, qX1, qX2, qX3, qX4, qX5, qX6, qX7, qX8⟩ := KX.out.c9
    have jX := KX.out.lt
    obtain ⟨qY0, qY1, qY2, qY3, qY4, qY5, qY6, qY7, qY8⟩ := KY.out.c9
    have jY := KY.out.lt
    go_wp2
    go_ret
    exact ⟨rfl, Ew3.out⟩
  rw [h3] at C3
  have e : eqB x y = (x.space == y.space) := by rw [Bool.eq_iff_iff, eqB_true, HE.out, beq_iff_eq]; exact ⟨fun h => h.2.2.2, fun h => ⟨eqB_true.1 h1, eqB_true.1 h2, eqB_true.1 h3, h⟩⟩
  rw [e]
  clear e h1 h2 h3
  go_enter Try.func12, Try.ntmps12
  go_wp2_with fail
  refine name_calls ?_; intro v1 hv1
  have X1 : Hid (Chg (0) (0) w v1) := Lib.hid (by rw [hv1]; repeat' (first | with_reducible exact Chg.refl _ _ _ | with_reducible refine Chg.alloc ?_ _ | with_reducible refine Chg.drew ?_ | with_reducible refine Chg.set ?_ (by omega) _))
  have t1 : w.heap.size ≤ v1.heap.size := X1.out.size
  have Ev1 : Hid (Ex w v1) := Lib.hid ((Ex.refl w).chg X1.out (by omega))
  have KX : Hid (Blk v1 (w.heap.size) 56 [.slice a.b x.table.buckets.length a.bc, .slice a.f x.table.frames.length a.fc, .slice a.l x.cache.lines.length a.lc, .int .i64 x.cache.hand, .int .i64 x.tags.count, .int .i64 x.tags.next, .int .i64 x.tags.round, .slice a.o x.tags.owns.length a.oc, .int .i64 x.space]) := Lib.hid (by rw [hv1]; repeat' (first | with_reducible exact Blk.new_at _ _ _ (by simp) | with_reducible refine Blk.alloc ?_ _ | with_reducible refine Blk.drew ?_ | with_reducible refine Blk.far ?_ (by simp; omega) _))
  have lX : w.heap.size < v1.heap.size := KX.out.lt
  have KY : Hid (Blk v1 (w.heap.size + 1) 56 [.slice b.b y.table.buckets.length b.bc, .slice b.f y.table.frames.length b.fc, .slice b.l y.cache.lines.length b.lc, .int .i64 y.cache.hand, .int .i64 y.tags.count, .int .i64 y.tags.next, .int .i64 y.tags.round, .slice b.o y.tags.owns.length b.oc, .int .i64 y.space]) := Lib.hid (by rw [hv1]; repeat' (first | with_reducible exact Blk.new_at _ _ _ (by simp) | with_reducible refine Blk.alloc ?_ _ | with_reducible refine Blk.drew ?_ | with_reducible refine Blk.far ?_ (by simp; omega) _))
  have lY : w.heap.size + 1 < v1.heap.size := KY.out.lt
  have DX := Lib.hid (HX.out.ex Ev1.out)
  have DY := Lib.hid (HY.out.ex Ev1.out)
  clear hv1
  refine (C1.out _ DX.out DY.out).mono ?_; rintro r w1 ⟨rfl, hb1⟩
  have Y1 : Hid (Chg 0 0 v1 w1) := Lib.hid (Chg.of_ex hb1)
  have s1 : v1.heap.size ≤ w1.heap.size := Y1.out.size
  have Ew1 : Hid (Ex w w1) := Lib.hid (Ev1.out.chg Y1.out (by omega))
  clear hb1
  replace KX : Hid (Blk w1 (w.heap.size) 56 [.slice a.b x.table.buckets.length a.bc, .slice a.f x.table.frames.length a.fc, .slice a.l x.cache.lines.length a.lc, .int .i64 x.cache.hand, .int .i64 x.tags.count, .int .i64 x.tags.next, .int .i64 x.tags.round, .slice a.o x.tags.owns.length a.oc, .int .i64 x.space]) := Lib.hid (KX.out.chg Y1.out (by omega))
  replace KY : Hid (Blk w1 (w.heap.size + 1) 56 [.slice b.b y.table.buckets.length b.bc, .slice b.f y.table.frames.length b.fc, .slice b.l y.cache.lines.length b.lc, .int .i64 y.cache.hand, .int .i64 y.tags.count, .int .i64 y.tags.next, .int .i64 y.tags.round, .slice b.o y.tags.owns.length b.oc, .int .i64 y.space]) := Lib.hid (KY.out.chg Y1.out (by omega))
  replace DX := Lib.hid (HX.out.ex Ew1.out)
  replace DY := Lib.hid (HY.out.ex Ew1.out)
  obtain ⟨qX0, qX1, qX2, qX3, qX4, qX5, qX6, qX7, qX8⟩ := KX.out.c9
  have jX := KX.out.lt
  obtain ⟨qY0, qY1, qY2, qY3, qY4, qY5, qY6, qY7, qY8⟩ := KY.out.c9
  have jY := KY.out.lt
  go_wp2_with fail
  refine name_calls ?_; intro v2 hv2
  have X2 : Hid (Chg (0) (0) w1 v2) := Lib.hid (by rw [hv2]; repeat' (first | with_reducible exact Chg.refl _ _ _ | with_reducible refine Chg.alloc ?_ _ | with_reducible refine Chg.drew ?_ | with_reducible refine Chg.set ?_ (by omega) _))
  have t2 : w1.heap.size ≤ v2.heap.size := X2.out.size
  have Ev2 : Hid (Ex w v2) := Lib.hid (Ew1.out.chg X2.out (by omega))
  clear qX0 qX1 qX2 qX3 qX4 qX5 qX6 qX7 qX8 jX
  clear qY0 qY1 qY2 qY3 qY4 qY5 qY6 qY7 qY8 jY
  replace KX : Hid (Blk v2 (w.heap.size) 56 [.slice a.b x.table.buckets.length a.bc, .slice a.f x.table.frames.length a.fc, .slice a.l x.cache.lines.length a.lc, .int .i64 x.cache.hand, .int .i64 x.tags.count, .int .i64 x.tags.next, .int .i64 x.tags.round, .slice a.o x.tags.owns.length a.oc, .int .i64 x.space]) := Lib.hid (KX.out.chg X2.out (by omega))
  replace KY : Hid (Blk v2 (w.heap.size + 1) 56 [.slice b.b y.table.buckets.length b.bc, .slice b.f y.table.frames.length b.fc, .slice b.l y.cache.lines.length b.lc, .int .i64 y.cache.hand, .int .i64 y.tags.count, .int .i64 y.tags.next, .int .i64 y.tags.round, .slice b.o y.tags.owns.length b.oc, .int .i64 y.space]) := Lib.hid (KY.out.chg X2.out (by omega))
  replace DX := Lib.hid (HX.out.ex Ev2.out)
  replace DY := Lib.hid (HY.out.ex Ev2.out)
  clear hv2
  refine (C2.out _ DX.out DY.out).mono ?_; rintro r w2 ⟨rfl, hb2⟩
  have Y2 : Hid (Chg 0 0 v2 w2) := Lib.hid (Chg.of_ex hb2)
  have s2 : v2.heap.size ≤ w2.heap.size := Y2.out.size
  have Ew2 : Hid (Ex w w2) := Lib.hid (Ev2.out.chg Y2.out (by omega))
  clear hb2
  replace KX : Hid (Blk w2 (w.heap.size) 56 [.slice a.b x.table.buckets.length a.bc, .slice a.f x.table.frames.length a.fc, .slice a.l x.cache.lines.length a.lc, .int .i64 x.cache.hand, .int .i64 x.tags.count, .int .i64 x.tags.next, .int .i64 x.tags.round, .slice a.o x.tags.owns.length a.oc, .int .i64 x.space]) := Lib.hid (KX.out.chg Y2.out (by omega))
  replace KY : Hid (Blk w2 (w.heap.size + 1) 56 [.slice b.b y.table.buckets.length b.bc, .slice b.f y.table.frames.length b.fc, .slice b.l y.cache.lines.length b.lc, .int .i64 y.cache.hand, .int .i64 y.tags.count, .int .i64 y.tags.next, .int .i64 y.tags.round, .slice b.o y.tags.owns.length b.oc, .int .i64 y.space]) := Lib.hid (KY.out.chg Y2.out (by omega))
  replace DX := Lib.hid (HX.out.ex Ew2.out)
  replace DY := Lib.hid (HY.out.ex Ew2.out)
  obtain ⟨qX0, qX1, qX2, qX3, qX4, qX5, qX6, qX7, qX8⟩ := KX.out.c9
  have jX := KX.out.lt
  obtain ⟨qY0, qY1, qY2, qY3, qY4, qY5, qY6, qY7, qY8⟩ := KY.out.c9
  have jY := KY.out.lt
  go_wp2_with fail
  refine name_calls ?_; intro v3 hv3
  have X3 : Hid (Chg (0) (0) w2 v3) := Lib.hid (by rw [hv3]; repeat' (first | with_reducible exact Chg.refl _ _ _ | with_reducible refine Chg.alloc ?_ _ | with_reducible refine Chg.drew ?_ | with_reducible refine Chg.set ?_ (by omega) _))
  have t3 : w2.heap.size ≤ v3.heap.size := X3.out.size
  have Ev3 : Hid (Ex w v3) := Lib.hid (Ew2.out.chg X3.out (by omega))
  clear qX0 qX1 qX2 qX3 qX4 qX5 qX6 qX7 qX8 jX
  clear qY0 qY1 qY2 qY3 qY4 qY5 qY6 qY7 qY8 jY
  replace KX : Hid (Blk v3 (w.heap.size) 56 [.slice a.b x.table.buckets.length a.bc, .slice a.f x.table.frames.length a.fc, .slice a.l x.cache.lines.length a.lc, .int .i64 x.cache.hand, .int .i64 x.tags.count, .int .i64 x.tags.next, .int .i64 x.tags.round, .slice a.o x.tags.owns.length a.oc, .int .i64 x.space]) := Lib.hid (KX.out.chg X3.out (by omega))
  replace KY : Hid (Blk v3 (w.heap.size + 1) 56 [.slice b.b y.table.buckets.length b.bc, .slice b.f y.table.frames.length b.fc, .slice b.l y.cache.lines.length b.lc, .int .i64 y.cache.hand, .int .i64 y.tags.count, .int .i64 y.tags.next, .int .i64 y.tags.round, .slice b.o y.tags.owns.length b.oc, .int .i64 y.space]) := Lib.hid (KY.out.chg X3.out (by omega))
  replace DX := Lib.hid (HX.out.ex Ev3.out)
  replace DY := Lib.hid (HY.out.ex Ev3.out)
  clear hv3
  refine (C3.out _ DX.out DY.out).mono ?_; rintro r w3 ⟨rfl, hb3⟩
  have Y3 : Hid (Chg 0 0 v3 w3) := Lib.hid (Chg.of_ex hb3)
  have s3 : v3.heap.size ≤ w3.heap.size := Y3.out.size
  have Ew3 : Hid (Ex w w3) := Lib.hid (Ev3.out.chg Y3.out (by omega))
  clear hb3
  replace KX : Hid (Blk w3 (w.heap.size) 56 [.slice a.b x.table.buckets.length a.bc, .slice a.f x.table.frames.length a.fc, .slice a.l x.cache.lines.length a.lc, .int .i64 x.cache.hand, .int .i64 x.tags.count, .int .i64 x.tags.next, .int .i64 x.tags.round, .slice a.o x.tags.owns.length a.oc, .int .i64 x.space]) := Lib.hid (KX.out.chg Y3.out (by omega))
  replace KY : Hid (Blk w3 (w.heap.size + 1) 56 [.slice b.b y.table.buckets.length b.bc, .slice b.f y.table.frames.length b.fc, .slice b.l y.cache.lines.length b.lc, .int .i64 y.cache.hand, .int .i64 y.tags.count, .int .i64 y.tags.next, .int .i64 y.tags.round, .slice b.o y.tags.owns.length b.oc, .int .i64 y.space]) := Lib.hid (KY.out.chg Y3.out (by omega))
  replace DX := Lib.hid (HX.out.ex Ew3.out)
  replace DY := Lib.hid (HY.out.ex Ew3.out)
  obtain ⟨qX0, qX1, qX2, qX3, qX4, qX5, qX6, qX7, qX8⟩ := KX.out.c9
  have jX := KX.out.lt
  obtain ⟨qY0, qY1, qY2, qY3, qY4, qY5, qY6, qY7, qY8⟩ := KY.out.c9
  have jY := KY.out.lt
  go_wp2
  go_ret
  exact ⟨rfl, Ew3.out⟩

end Go.Proofs.Ytkoegcalfibinaa
