/- Marking a machine, and asking for the marks. -/
import Derived.Test.YtkoegcalfibinaaDoorMm
namespace Go.Proofs.YtkoegcalfibinaaDoor
open Go.ChangeShapes Go.WideShapes Go.ChangeAt Go.RowKit
open Rec (sz cs)
set_option linter.unusedVariables false
set_option maxRecDepth 100000

/-- The marks in a machine's four slices. -/
structure Marked (w : World) (m : MachD) (a : MA) (K1 K2 : Int) : Prop where
  b : Rd w a.b (markL mkInt 1 1 m.table.buckets.length)
  f : Rd w a.f (markL mkFrame 5 (1 + (m.table.buckets.length : Int)) m.table.frames.length)
  l : Rd w a.l (markL mkLine 6 K1 m.cache.lines.length)
  o : Rd w a.o (markL mkOwn 2 K2 m.tags.owns.length)
theorem Marked.ex {w w' : World} {m : MachD} {a : MA} {K1 K2 : Int} (h : Marked w m a K1 K2) (k : Ex w w') : Marked w' m a K1 K2 := ⟨h.b.ex k, h.f.ex k, h.l.ex k, h.o.ex k⟩

set_option maxHeartbeats 2000000 in
theorem markMach_c (m : MachD) (a : MA) (lo m1 m2 m3 hi : Nat) (K1 K2 K3 : Int) (w : World) (hb : Fr 3 w lo a.b a.bc m.table.buckets) (hf : Fr 99 w lo a.f a.fc m.table.frames) (hl : Fr 101 w lo a.l a.lc m.cache.lines) (ho : Fr 129 w lo a.o a.oc m.tags.owns)
    (hrb : ∀ x, rowOf a.b a.bc = some x → lo ≤ x ∧ x < m1) (hrf : ∀ x, rowOf a.f a.fc = some x → m1 ≤ x ∧ x < m2) (hrl : ∀ x, rowOf a.l a.lc = some x → m2 ≤ x ∧ x < m3) (hro : ∀ x, rowOf a.o a.oc = some x → m3 ≤ x ∧ x < hi)
    (h1 : lo ≤ m1) (h2 : m1 ≤ m2) (h3 : m2 ≤ m3) (h4 : m3 ≤ hi) (hh : hi ≤ w.heap.size) (n1 : m.table.buckets.length ≤ 16) (n2 : m.table.frames.length ≤ 16) (n3 : m.cache.lines.length ≤ 16) (n4 : m.tags.owns.length ≤ 16)
    (e1 : K1 = 1 + (m.table.buckets.length : Int) + 5 * (m.table.frames.length : Int)) (e2 : K2 = K1 + 6 * (m.cache.lines.length : Int)) (e3 : K3 = K2 + 2 * (m.tags.owns.length : Int)) :
    Calls Tryd.prog 16 #[.agg #[.slice a.b m.table.buckets.length a.bc, .slice a.f m.table.frames.length a.fc, .slice a.l m.cache.lines.length a.lc, .int .i64 m.cache.hand, .int .i64 m.tags.count, .int .i64 m.tags.next, .int .i64 m.tags.round, .slice a.o m.tags.owns.length a.oc, .int .i64 m.space], .int .i64 1] w
    fun r w' => r = .returned (.int .i64 K3) ∧ Marked w' m a K1 K2 ∧ Chg lo hi w w' := by
  have C1 := Lib.hid (fun w h1' h2' => markTable_c m.table a.b a.bc a.f a.fc lo m1 m2 1 w lo h1' h2' hrb hrf h1 h2 (by omega) (by omega) (by omega) (by omega))
  rw [← e1] at C1
  have C2 := Lib.hid (fun w h => markCache_c m.cache a.l lo a.lc K1 w h (by omega) (by omega) (by omega))
  rw [← e2] at C2
  have C3 := Lib.hid (fun w h => markTags_c m.tags a.o lo a.oc K2 w h (by omega) (by omega) (by omega))
  rw [← e3] at C3
  have HB := Lib.hid hb
  have HF := Lib.hid hf
  have HL := Lib.hid hl
  have HO := Lib.hid ho
  have HRB := Lib.hid hrb
  have HRF := Lib.hid hrf
  have HRL := Lib.hid hrl
  have HRO := Lib.hid hro
  clear hb hf hl ho hrb hrf hrl hro e1 e2 e3
  go_enter Tryd.func16, Tryd.ntmps16
  go_wp2_with fail
  refine (C1.out _ (HB.out.alloc _) (HF.out.alloc _)).mono ?_
  rintro r w1 ⟨rfl, hb1, hf1, hc1⟩
  have HB1 := Lib.hid hb1
  have HF1 := Lib.hid hf1
  have Y1 : Hid (Chg lo m2 w w1) := Lib.hid (((Chg.refl lo m2 w).alloc _).trans hc1)
  have HL1 : Hid (Fr 101 w1 lo a.l a.lc m.cache.lines) := Lib.hid ((HL.out.alloc _).chg hc1 HRL.out (by omega))
  have HO1 : Hid (Fr 129 w1 lo a.o a.oc m.tags.owns) := Lib.hid ((HO.out.alloc _).chg hc1 HRO.out (by omega))
  have KX1 : Hid (Blk w1 w.heap.size 41 [.slice a.b m.table.buckets.length a.bc, .slice a.f m.table.frames.length a.fc, .slice a.l m.cache.lines.length a.lc, .int .i64 m.cache.hand, .int .i64 m.tags.count, .int .i64 m.tags.next, .int .i64 m.tags.round, .slice a.o m.tags.owns.length a.oc, .int .i64 m.space]) := Lib.hid ((Blk.new w _ _).chg hc1 (by omega))
  obtain ⟨q0, q1, q2, q3, q4, q5, q6, q7, q8⟩ := KX1.out.c9
  have jx := KX1.out.lt
  clear hb1 hf1 hc1
  go_wp2_with fail
  refine (C2.out _ HL1.out).mono ?_
  rintro r w2 ⟨rfl, hl2, hg2⟩
  have hc2 : Chg m2 m3 w1 w2 := Chg.of_grown hg2 HRL.out
  have HL2 := Lib.hid hl2
  have HB2 := Lib.hid (HB1.out.chg hc2 HRB.out (by omega))
  have HF2 := Lib.hid (HF1.out.chg hc2 HRF.out (by omega))
  have HO2 := Lib.hid (HO1.out.chg hc2 HRO.out (by omega))
  have Y2 : Hid (Chg lo hi w w2) := Lib.hid ((Y1.out.mono (Nat.le_refl _) (by omega)).trans (hc2.mono (by omega) h4))
  have KX2 : Hid (Blk w2 w.heap.size 41 [.slice a.b m.table.buckets.length a.bc, .slice a.f m.table.frames.length a.fc, .slice a.l m.cache.lines.length a.lc, .int .i64 m.cache.hand, .int .i64 m.tags.count, .int .i64 m.tags.next, .int .i64 m.tags.round, .slice a.o m.tags.owns.length a.oc, .int .i64 m.space]) := Lib.hid (KX1.out.chg hc2 (by omega))
  clear q0 q1 q2 q3 q4 q5 q6 q7 q8 jx hl2 hg2 hc2
  obtain ⟨q0, q1, q2, q3, q4, q5, q6, q7, q8⟩ := KX2.out.c9
  have jx := KX2.out.lt
  go_wp2_with fail
  refine (C3.out _ HO2.out).mono ?_
  rintro r w3 ⟨rfl, ho3, hg3⟩
  have hc3 : Chg m3 hi w2 w3 := Chg.of_grown hg3 HRO.out
  have HM : Hid (Marked w3 m a K1 K2) := Lib.hid ⟨(HB2.out.chg hc3 HRB.out (by omega)).rd, (HF2.out.chg hc3 HRF.out (by omega)).rd, (HL2.out.chg hc3 HRL.out (by omega)).rd, ho3.rd⟩
  have Y3 : Hid (Chg lo hi w w3) := Lib.hid (Y2.out.trans (hc3.mono (by omega) (Nat.le_refl _)))
  clear ho3 hg3 hc3 q0 q1 q2 q3 q4 q5 q6 q7 q8 jx
  go_wp2
  go_ret
  exact ⟨rfl, HM.out, Y3.out⟩

set_option maxHeartbeats 2000000 in
theorem heldMach_c (m : MachD) (a : MA) (K1 K2 K3 : Int) (w : World) (hm : Marked w m a K1 K2) (n1 : m.table.buckets.length ≤ 16) (n2 : m.table.frames.length ≤ 16) (n3 : m.cache.lines.length ≤ 16) (n4 : m.tags.owns.length ≤ 16)
    (e1 : K1 = 1 + (m.table.buckets.length : Int) + 5 * (m.table.frames.length : Int)) (e2 : K2 = K1 + 6 * (m.cache.lines.length : Int)) (e3 : K3 = K2 + 2 * (m.tags.owns.length : Int)) :
    Calls Tryd.prog 17 #[.agg #[.slice a.b m.table.buckets.length a.bc, .slice a.f m.table.frames.length a.fc, .slice a.l m.cache.lines.length a.lc, .int .i64 m.cache.hand, .int .i64 m.tags.count, .int .i64 m.tags.next, .int .i64 m.tags.round, .slice a.o m.tags.owns.length a.oc, .int .i64 m.space], .int .i64 1] w
    fun r w' => r = .returned (.int .i64 K3) ∧ Ex w w' := by
  have C1 := Lib.hid (fun w h1' h2' => heldTable_c a.b a.bc m.table.buckets.length a.f a.fc m.table.frames.length 1 w h1' h2' (by omega) (by omega) (by omega) (by omega))
  rw [← e1] at C1
  have C2 := Lib.hid (fun w h => heldCache_c m.cache.hand a.l a.lc m.cache.lines.length K1 w h (by omega) (by omega) (by omega))
  rw [← e2] at C2
  have C3 := Lib.hid (fun w h => heldTags_c m.tags.count m.tags.next m.tags.round a.o a.oc m.tags.owns.length K2 w h (by omega) (by omega) (by omega))
  rw [← e3] at C3
  have HM := Lib.hid hm
  have p1 : ¬ K1 < 0 := by omega
  have p2 : ¬ K2 < 0 := by omega
  have p3 : ¬ K3 < 0 := by omega
  clear hm e1 e2 e3
  go_enter Tryd.func17, Tryd.ntmps17
  go_wp2_with fail
  refine name_calls ?_; intro v1 hv1
  have X1 : Hid (Chg (0) (0) w v1) := Lib.hid (by rw [hv1]; repeat' (first | with_reducible exact Chg.refl _ _ _ | with_reducible refine Chg.alloc ?_ _ | with_reducible refine Chg.drew ?_ | with_reducible refine Chg.set ?_ (by omega) _))
  have t1 : w.heap.size ≤ v1.heap.size := X1.out.size
  have Ev1 : Hid (Ex w v1) := Lib.hid ((Ex.refl w).chg X1.out (by omega))
  have KX : Hid (Blk v1 (w.heap.size) 41 [.slice a.b m.table.buckets.length a.bc, .slice a.f m.table.frames.length a.fc, .slice a.l m.cache.lines.length a.lc, .int .i64 m.cache.hand, .int .i64 m.tags.count, .int .i64 m.tags.next, .int .i64 m.tags.round, .slice a.o m.tags.owns.length a.oc, .int .i64 m.space]) := Lib.hid (by rw [hv1]; repeat' (first | with_reducible exact Blk.new_at _ _ _ (by simp) | with_reducible refine Blk.alloc ?_ _ | with_reducible refine Blk.drew ?_ | with_reducible refine Blk.far ?_ (by simp; omega) _))
  have lX : w.heap.size < v1.heap.size := KX.out.lt
  have DX := Lib.hid (HM.out.ex Ev1.out)
  clear hv1
  refine (C1.out _ DX.out.b DX.out.f).mono ?_; rintro r w1 ⟨rfl, hb1⟩
  have Y1 : Hid (Chg 0 0 v1 w1) := Lib.hid (Chg.of_ex hb1)
  have s1 : v1.heap.size ≤ w1.heap.size := Y1.out.size
  have Ew1 : Hid (Ex w w1) := Lib.hid (Ev1.out.chg Y1.out (by omega))
  clear hb1
  replace KX : Hid (Blk w1 (w.heap.size) 41 [.slice a.b m.table.buckets.length a.bc, .slice a.f m.table.frames.length a.fc, .slice a.l m.cache.lines.length a.lc, .int .i64 m.cache.hand, .int .i64 m.tags.count, .int .i64 m.tags.next, .int .i64 m.tags.round, .slice a.o m.tags.owns.length a.oc, .int .i64 m.space]) := Lib.hid (KX.out.chg Y1.out (by omega))
  replace DX := Lib.hid (HM.out.ex Ew1.out)
  obtain ⟨qX0, qX1, qX2, qX3, qX4, qX5, qX6, qX7, qX8⟩ := KX.out.c9
  have jX := KX.out.lt
  go_wp2_with fail
  refine name_calls ?_; intro v2 hv2
  have X2 : Hid (Chg (0) (0) w1 v2) := Lib.hid (by rw [hv2]; repeat' (first | with_reducible exact Chg.refl _ _ _ | with_reducible refine Chg.alloc ?_ _ | with_reducible refine Chg.drew ?_ | with_reducible refine Chg.set ?_ (by omega) _))
  have t2 : w1.heap.size ≤ v2.heap.size := X2.out.size
  have Ev2 : Hid (Ex w v2) := Lib.hid (Ew1.out.chg X2.out (by omega))
  clear qX0 qX1 qX2 qX3 qX4 qX5 qX6 qX7 qX8 jX
  replace KX : Hid (Blk v2 (w.heap.size) 41 [.slice a.b m.table.buckets.length a.bc, .slice a.f m.table.frames.length a.fc, .slice a.l m.cache.lines.length a.lc, .int .i64 m.cache.hand, .int .i64 m.tags.count, .int .i64 m.tags.next, .int .i64 m.tags.round, .slice a.o m.tags.owns.length a.oc, .int .i64 m.space]) := Lib.hid (KX.out.chg X2.out (by omega))
  replace DX := Lib.hid (HM.out.ex Ev2.out)
  clear hv2
  refine (C2.out _ DX.out.l).mono ?_; rintro r w2 ⟨rfl, hb2⟩
  have Y2 : Hid (Chg 0 0 v2 w2) := Lib.hid (Chg.of_ex hb2)
  have s2 : v2.heap.size ≤ w2.heap.size := Y2.out.size
  have Ew2 : Hid (Ex w w2) := Lib.hid (Ev2.out.chg Y2.out (by omega))
  clear hb2
  replace KX : Hid (Blk w2 (w.heap.size) 41 [.slice a.b m.table.buckets.length a.bc, .slice a.f m.table.frames.length a.fc, .slice a.l m.cache.lines.length a.lc, .int .i64 m.cache.hand, .int .i64 m.tags.count, .int .i64 m.tags.next, .int .i64 m.tags.round, .slice a.o m.tags.owns.length a.oc, .int .i64 m.space]) := Lib.hid (KX.out.chg Y2.out (by omega))
  replace DX := Lib.hid (HM.out.ex Ew2.out)
  obtain ⟨qX0, qX1, qX2, qX3, qX4, qX5, qX6, qX7, qX8⟩ := KX.out.c9
  have jX := KX.out.lt
  go_wp2_with fail
  refine name_calls ?_; intro v3 hv3
  have X3 : Hid (Chg (0) (0) w2 v3) := Lib.hid (by rw [hv3]; repeat' (first | with_reducible exact Chg.refl _ _ _ | with_reducible refine Chg.alloc ?_ _ | with_reducible refine Chg.drew ?_ | with_reducible refine Chg.set ?_ (by omega) _))
  have t3 : w2.heap.size ≤ v3.heap.size := X3.out.size
  have Ev3 : Hid (Ex w v3) := Lib.hid (Ew2.out.chg X3.out (by omega))
  clear qX0 qX1 qX2 qX3 qX4 qX5 qX6 qX7 qX8 jX
  replace KX : Hid (Blk v3 (w.heap.size) 41 [.slice a.b m.table.buckets.length a.bc, .slice a.f m.table.frames.length a.fc, .slice a.l m.cache.lines.length a.lc, .int .i64 m.cache.hand, .int .i64 m.tags.count, .int .i64 m.tags.next, .int .i64 m.tags.round, .slice a.o m.tags.owns.length a.oc, .int .i64 m.space]) := Lib.hid (KX.out.chg X3.out (by omega))
  replace DX := Lib.hid (HM.out.ex Ev3.out)
  clear hv3
  refine (C3.out _ DX.out.o).mono ?_; rintro r w3 ⟨rfl, hb3⟩
  have Y3 : Hid (Chg 0 0 v3 w3) := Lib.hid (Chg.of_ex hb3)
  have s3 : v3.heap.size ≤ w3.heap.size := Y3.out.size
  have Ew3 : Hid (Ex w w3) := Lib.hid (Ev3.out.chg Y3.out (by omega))
  clear hb3
  replace KX : Hid (Blk w3 (w.heap.size) 41 [.slice a.b m.table.buckets.length a.bc, .slice a.f m.table.frames.length a.fc, .slice a.l m.cache.lines.length a.lc, .int .i64 m.cache.hand, .int .i64 m.tags.count, .int .i64 m.tags.next, .int .i64 m.tags.round, .slice a.o m.tags.owns.length a.oc, .int .i64 m.space]) := Lib.hid (KX.out.chg Y3.out (by omega))
  replace DX := Lib.hid (HM.out.ex Ew3.out)
  obtain ⟨qX0, qX1, qX2, qX3, qX4, qX5, qX6, qX7, qX8⟩ := KX.out.c9
  have jX := KX.out.lt
  go_wp2
  go_ret
  exact ⟨rfl, Ew3.out⟩
end Go.Proofs.YtkoegcalfibinaaDoor
