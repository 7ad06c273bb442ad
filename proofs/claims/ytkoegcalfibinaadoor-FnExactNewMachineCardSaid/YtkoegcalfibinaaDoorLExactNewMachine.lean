/- The law FnExactNewMachine: the walk. -/
import Derived.Test.YtkoegcalfibinaaDoorNm
import Derived.Test.YtkoegcalfibinaaDoorNp
namespace Go.Proofs.YtkoegcalfibinaaDoor
open Go.ChangeShapes Go.WideShapes Go.ChangeAt Go.RowKit
open Rec (sz cs)
set_option linter.unusedVariables false
set_option maxRecDepth 100000

theorem FrM.after {w0 w w' : World} {B lo hi : Nat} {m : MachD} {a : MA} (h0 : FrM w0 B m a) (h : Ex w0 w) (k : Chg lo hi w w') (hlo : w0.heap.size ≤ lo) : FrM w' B m a :=
  ⟨(h0.b.ex h).chg k (l := B) (u := w0.heap.size) h0.b.row (by omega), (h0.f.ex h).chg k (l := B) (u := w0.heap.size) h0.f.row (by omega), (h0.l.ex h).chg k (l := B) (u := w0.heap.size) h0.l.row (by omega), (h0.o.ex h).chg k (l := B) (u := w0.heap.size) h0.o.row (by omega)⟩

set_option maxHeartbeats 8000000 in
theorem walk_FnExactNewMachine (f b l t : Int) (w : World) (hv : FreeV w) :
    Calls Tryd.prog 4 #[.int .i64 f, .int .i64 b, .int .i64 l, .int .i64 t] w fun r w' => r = .returned (.bool true) ∧ Ex w w' := by
  have C1 := Lib.hid (fun w' => newMachS_c f b l t w')
  have C2 := Lib.hid (fun w' (h : Ex w w') => newMachI_c f b l t w' (hv.ex h))
  have hfew := newMach_few f b l t
  generalize newMach f b l t = qq at C1 C2 hfew
  obtain ⟨mm, ok⟩ := qq
  dsimp only at C1 C2 hfew
  obtain ⟨n1, n2, n3, n4⟩ := hfew
  obtain ⟨K1, e1⟩ : ∃ K1 : Int, K1 = 1 + (mm.table.buckets.length : Int) + 5 * (mm.table.frames.length : Int) := ⟨_, rfl⟩
  obtain ⟨K2, e2⟩ : ∃ K2 : Int, K2 = K1 + 6 * (mm.cache.lines.length : Int) := ⟨_, rfl⟩
  obtain ⟨K3, e3⟩ : ∃ K3 : Int, K3 = K2 + 2 * (mm.tags.owns.length : Int) := ⟨_, rfl⟩
  have p3 : ¬ K3 < 0 := by omega
  have CM := Lib.hid (fun a lo m1 m2 m3 hi w h1 h2 h3 h4 r1 r2 r3 r4 o1 o2 o3 o4 hh => markMach_c mm a lo m1 m2 m3 hi K1 K2 K3 w h1 h2 h3 h4 r1 r2 r3 r4 o1 o2 o3 o4 hh n1 n2 n3 n4 e1 e2 e3)
  have CH := Lib.hid (fun a w h => heldMach_c mm a K1 K2 K3 w h n1 n2 n3 n4 e1 e2 e3)
  have HFEW : Hid (FewM mm) := Lib.hid ⟨by omega, by omega, by omega, by omega⟩
  have hvo : (ok != ok) = false := by simp
  have hvk : (K3 != K3) = false := by simp
  clear hv e1 e2 e3 n1 n2 n3 n4
  go_enter Tryd.func4, Tryd.ntmps4
  go_wp2_with fail
  refine name_calls ?_; intro v1 hv1
  have X1 : Hid (Chg (0) (0) w v1) := Lib.hid (by rw [hv1]; repeat' (first | with_reducible exact Chg.refl _ _ _ | with_reducible refine Chg.alloc ?_ _ | with_reducible refine Chg.drew ?_ | with_reducible refine Chg.set ?_ (by omega) _))
  have t1 : w.heap.size ≤ v1.heap.size := X1.out.size
  have Ev1 : Hid (Ex w v1) := Lib.hid ((Ex.refl w).chg X1.out (by omega))
  clear hv1
  refine (C1.out _).mono ?_; rintro r w1 ⟨aw, rfl, hhw, hb1⟩
  have Y1 : Hid (Chg 0 0 v1 w1) := Lib.hid (Chg.of_ex hb1)
  have s1 : v1.heap.size ≤ w1.heap.size := Y1.out.size
  have Ew1 : Hid (Ex w w1) := Lib.hid (Ev1.out.chg Y1.out (by omega))
  clear hb1
  have HHW := Lib.hid hhw; clear hhw
  go_wp2_with fail
  refine name_calls ?_; intro v2 hv2
  have X2 : Hid (Chg (0) (0) w1 v2) := Lib.hid (by rw [hv2]; repeat' (first | with_reducible exact Chg.refl _ _ _ | with_reducible refine Chg.alloc ?_ _ | with_reducible refine Chg.drew ?_ | with_reducible refine Chg.set ?_ (by omega) _))
  have t2 : w1.heap.size ≤ v2.heap.size := X2.out.size
  have Ev2 : Hid (Ex w v2) := Lib.hid (Ew1.out.chg X2.out (by omega))
  have KW : Hid (Blk v2 (w1.heap.size) 41 [.slice aw.b mm.table.buckets.length aw.bc, .slice aw.f mm.table.frames.length aw.fc, .slice aw.l mm.cache.lines.length aw.lc, .int .i64 mm.cache.hand, .int .i64 mm.tags.count, .int .i64 mm.tags.next, .int .i64 mm.tags.round, .slice aw.o mm.tags.owns.length aw.oc, .int .i64 mm.space]) := Lib.hid (by rw [hv2]; repeat' (first | with_reducible exact Blk.new_at _ _ _ (by simp) | with_reducible refine Blk.alloc ?_ _ | with_reducible refine Blk.drew ?_ | with_reducible refine Blk.far ?_ (by simp; omega) _))
  have lW : w1.heap.size < v2.heap.size := KW.out.lt
  clear hv2
  refine (C2.out _ Ev2.out).mono ?_; rintro r w2 ⟨ag, m1, m2, m3, rfl, hfb, hff, hfl, hfo, hhr, hhm, hb2⟩
  have Y2 : Hid (Chg 0 0 v2 w2) := Lib.hid (Chg.of_ex hb2)
  have s2 : v2.heap.size ≤ w2.heap.size := Y2.out.size
  have Ew2 : Hid (Ex w w2) := Lib.hid (Ev2.out.chg Y2.out (by omega))
  clear hb2
  replace KW : Hid (Blk w2 (w1.heap.size) 41 [.slice aw.b mm.table.buckets.length aw.bc, .slice aw.f mm.table.frames.length aw.fc, .slice aw.l mm.cache.lines.length aw.lc, .int .i64 mm.cache.hand, .int .i64 mm.tags.count, .int .i64 mm.tags.next, .int .i64 mm.tags.round, .slice aw.o mm.tags.owns.length aw.oc, .int .i64 mm.space]) := Lib.hid (KW.out.chg Y2.out (by omega))
  have HFB := Lib.hid hfb; clear hfb
  have WHFB := Lib.hid HFB.out.row
  have HFF := Lib.hid hff; clear hff
  have WHFF := Lib.hid HFF.out.row
  have HFL := Lib.hid hfl; clear hfl
  have WHFL := Lib.hid HFL.out.row
  have HFO := Lib.hid hfo; clear hfo
  have WHFO := Lib.hid HFO.out.row
  have HHR := Lib.hid hhr; clear hhr
  have HHM := Lib.hid hhm; clear hhm
  obtain ⟨qW0, qW1, qW2, qW3, qW4, qW5, qW6, qW7, qW8⟩ := KW.out.c9
  have jW := KW.out.lt
  obtain ⟨ha1, ha2, ha3, ha4⟩ := HHM.out
  have HW2 : Hid (Ex w1 w2) := Lib.hid (X2.out.ex_.trans Y2.out.ex_)
  go_wp2_with fail
  refine name_calls ?_; intro v3 hv3
  have X3 : Hid (Chg (0) (0) w2 v3) := Lib.hid (by rw [hv3]; repeat' (first | with_reducible exact Chg.refl _ _ _ | with_reducible refine Chg.alloc ?_ _ | with_reducible refine Chg.drew ?_ | with_reducible refine Chg.set ?_ (by omega) _))
  have t3 : w2.heap.size ≤ v3.heap.size := X3.out.size
  have Ev3 : Hid (Ex w v3) := Lib.hid (Ew2.out.chg X3.out (by omega))
  clear qW0 qW1 qW2 qW3 qW4 qW5 qW6 qW7 qW8 jW
  replace KW : Hid (Blk v3 (w1.heap.size) 41 [.slice aw.b mm.table.buckets.length aw.bc, .slice aw.f mm.table.frames.length aw.fc, .slice aw.l mm.cache.lines.length aw.lc, .int .i64 mm.cache.hand, .int .i64 mm.tags.count, .int .i64 mm.tags.next, .int .i64 mm.tags.round, .slice aw.o mm.tags.owns.length aw.oc, .int .i64 mm.space]) := Lib.hid (KW.out.chg X3.out (by omega))
  replace HFB := Lib.hid (HFB.out.chg X3.out WHFB.out (by omega))
  replace HFF := Lib.hid (HFF.out.chg X3.out WHFF.out (by omega))
  replace HFL := Lib.hid (HFL.out.chg X3.out WHFL.out (by omega))
  replace HFO := Lib.hid (HFO.out.chg X3.out WHFO.out (by omega))
  have KG : Hid (Blk v3 (w2.heap.size) 41 [.slice ag.b mm.table.buckets.length ag.bc, .slice ag.f mm.table.frames.length ag.fc, .slice ag.l mm.cache.lines.length ag.lc, .int .i64 mm.cache.hand, .int .i64 mm.tags.count, .int .i64 mm.tags.next, .int .i64 mm.tags.round, .slice ag.o mm.tags.owns.length ag.oc, .int .i64 mm.space]) := Lib.hid (by rw [hv3]; repeat' (first | with_reducible exact Blk.new_at _ _ _ (by simp) | with_reducible refine Blk.alloc ?_ _ | with_reducible refine Blk.drew ?_ | with_reducible refine Blk.far ?_ (by simp; omega) _))
  have lG : w2.heap.size < v3.heap.size := KG.out.lt
  clear hv3
  refine (eqMachine_self_c mm ag aw _ ⟨HFB.out.rd, HFF.out.rd, HFL.out.rd, HFO.out.rd⟩ (HHW.out.has.ex (HW2.out.trans X3.out.ex_)) HFEW.out).mono ?_; rintro r w3 ⟨rfl, hb3⟩
  have Y3 : Hid (Chg 0 0 v3 w3) := Lib.hid (Chg.of_ex hb3)
  have s3 : v3.heap.size ≤ w3.heap.size := Y3.out.size
  have Ew3 : Hid (Ex w w3) := Lib.hid (Ev3.out.chg Y3.out (by omega))
  clear hb3
  replace KW : Hid (Blk w3 (w1.heap.size) 41 [.slice aw.b mm.table.buckets.length aw.bc, .slice aw.f mm.table.frames.length aw.fc, .slice aw.l mm.cache.lines.length aw.lc, .int .i64 mm.cache.hand, .int .i64 mm.tags.count, .int .i64 mm.tags.next, .int .i64 mm.tags.round, .slice aw.o mm.tags.owns.length aw.oc, .int .i64 mm.space]) := Lib.hid (KW.out.chg Y3.out (by omega))
  replace KG : Hid (Blk w3 (w2.heap.size) 41 [.slice ag.b mm.table.buckets.length ag.bc, .slice ag.f mm.table.frames.length ag.fc, .slice ag.l mm.cache.lines.length ag.lc, .int .i64 mm.cache.hand, .int .i64 mm.tags.count, .int .i64 mm.tags.next, .int .i64 mm.tags.round, .slice ag.o mm.tags.owns.length ag.oc, .int .i64 mm.space]) := Lib.hid (KG.out.chg Y3.out (by omega))
  replace HFB := Lib.hid (HFB.out.chg Y3.out WHFB.out (by omega))
  replace HFF := Lib.hid (HFF.out.chg Y3.out WHFF.out (by omega))
  replace HFL := Lib.hid (HFL.out.chg Y3.out WHFL.out (by omega))
  replace HFO := Lib.hid (HFO.out.chg Y3.out WHFO.out (by omega))
  obtain ⟨qW0, qW1, qW2, qW3, qW4, qW5, qW6, qW7, qW8⟩ := KW.out.c9
  have jW := KW.out.lt
  obtain ⟨qG0, qG1, qG2, qG3, qG4, qG5, qG6, qG7, qG8⟩ := KG.out.c9
  have jG := KG.out.lt
  have HW3 : Hid (Ex w1 w3) := Lib.hid (HW2.out.trans (X3.out.ex_.trans Y3.out.ex_))
  go_wp2_with fail
  refine name_calls ?_; intro v4 hv4
  have X4 : Hid (Chg (0) (0) w3 v4) := Lib.hid (by rw [hv4]; repeat' (first | with_reducible exact Chg.refl _ _ _ | with_reducible refine Chg.alloc ?_ _ | with_reducible refine Chg.drew ?_ | with_reducible refine Chg.set ?_ (by omega) _))
  have t4 : w3.heap.size ≤ v4.heap.size := X4.out.size
  have Ev4 : Hid (Ex w v4) := Lib.hid (Ew3.out.chg X4.out (by omega))
  clear qW0 qW1 qW2 qW3 qW4 qW5 qW6 qW7 qW8 jW
  clear qG0 qG1 qG2 qG3 qG4 qG5 qG6 qG7 qG8 jG
  replace KW : Hid (Blk v4 (w1.heap.size) 41 [.slice aw.b mm.table.buckets.length aw.bc, .slice aw.f mm.table.frames.length aw.fc, .slice aw.l mm.cache.lines.length aw.lc, .int .i64 mm.cache.hand, .int .i64 mm.tags.count, .int .i64 mm.tags.next, .int .i64 mm.tags.round, .slice aw.o mm.tags.owns.length aw.oc, .int .i64 mm.space]) := Lib.hid (KW.out.chg X4.out (by omega))
  replace KG : Hid (Blk v4 (w2.heap.size) 41 [.slice ag.b mm.table.buckets.length ag.bc, .slice ag.f mm.table.frames.length ag.fc, .slice ag.l mm.cache.lines.length ag.lc, .int .i64 mm.cache.hand, .int .i64 mm.tags.count, .int .i64 mm.tags.next, .int .i64 mm.tags.round, .slice ag.o mm.tags.owns.length ag.oc, .int .i64 mm.space]) := Lib.hid (KG.out.chg X4.out (by omega))
  replace HFB := Lib.hid (HFB.out.chg X4.out WHFB.out (by omega))
  replace HFF := Lib.hid (HFF.out.chg X4.out WHFF.out (by omega))
  replace HFL := Lib.hid (HFL.out.chg X4.out WHFL.out (by omega))
  replace HFO := Lib.hid (HFO.out.chg X4.out WHFO.out (by omega))
  clear hv4
  have HW4 : Hid (Ex w1 v4) := Lib.hid (HW3.out.trans X4.out.ex_)
  have HRR := Lib.hid HHR.out
  have HMB : Hid (∀ x, rowOf ag.b ag.bc = some x → v2.heap.size ≤ x ∧ x < m1) := Lib.hid (fun x e => ⟨(WHFB.out x e).1, HRR.out.1 x e⟩)
  have HMF : Hid (∀ x, rowOf ag.f ag.fc = some x → m1 ≤ x ∧ x < m2) := Lib.hid (fun x e => ⟨(WHFF.out x e).1, HRR.out.2.1 x e⟩)
  have HML : Hid (∀ x, rowOf ag.l ag.lc = some x → m2 ≤ x ∧ x < m3) := Lib.hid (fun x e => ⟨(WHFL.out x e).1, HRR.out.2.2 x e⟩)
  have HMO : Hid (∀ x, rowOf ag.o ag.oc = some x → m3 ≤ x ∧ x < w2.heap.size) := Lib.hid (fun x e => WHFO.out x e)
  refine (CM.out ag v2.heap.size m1 m2 m3 w2.heap.size _ (HFB.out.mono (Nat.le_refl _)) (HFF.out.mono (by omega)) (HFL.out.mono (by omega)) (HFO.out.mono (by omega)) HMB.out HMF.out HML.out HMO.out (by omega) (by omega) (by omega) (by omega) (by omega)).mono ?_
  rintro r w4 ⟨rfl, hmk, hcg⟩
  have HMK := Lib.hid hmk
  have Y4 : Hid (Chg v2.heap.size w2.heap.size v4 w4) := Lib.hid hcg
  have HFW : Hid (FrM w4 v1.heap.size mm aw) := Lib.hid (HHW.out.after HW4.out Y4.out (by omega))
  clear hmk hcg HMB HMF HML HMO HRR
  clear HFB WHFB
  clear HFF WHFF
  clear HFL WHFL
  clear HFO WHFO
  have s4 : v4.heap.size ≤ w4.heap.size := Y4.out.size
  have Ew4 : Hid (Ex w w4) := Lib.hid (Ev4.out.chg Y4.out (by omega))
  replace KW : Hid (Blk w4 (w1.heap.size) 41 [.slice aw.b mm.table.buckets.length aw.bc, .slice aw.f mm.table.frames.length aw.fc, .slice aw.l mm.cache.lines.length aw.lc, .int .i64 mm.cache.hand, .int .i64 mm.tags.count, .int .i64 mm.tags.next, .int .i64 mm.tags.round, .slice aw.o mm.tags.owns.length aw.oc, .int .i64 mm.space]) := Lib.hid (KW.out.chg Y4.out (by omega))
  replace KG : Hid (Blk w4 (w2.heap.size) 41 [.slice ag.b mm.table.buckets.length ag.bc, .slice ag.f mm.table.frames.length ag.fc, .slice ag.l mm.cache.lines.length ag.lc, .int .i64 mm.cache.hand, .int .i64 mm.tags.count, .int .i64 mm.tags.next, .int .i64 mm.tags.round, .slice ag.o mm.tags.owns.length ag.oc, .int .i64 mm.space]) := Lib.hid (KG.out.chg Y4.out (by omega))
  obtain ⟨qW0, qW1, qW2, qW3, qW4, qW5, qW6, qW7, qW8⟩ := KW.out.c9
  have jW := KW.out.lt
  obtain ⟨qG0, qG1, qG2, qG3, qG4, qG5, qG6, qG7, qG8⟩ := KG.out.c9
  have jG := KG.out.lt
  go_wp2_with fail
  refine name_calls ?_; intro v5 hv5
  have X5 : Hid (Chg (0) (0) w4 v5) := Lib.hid (by rw [hv5]; repeat' (first | with_reducible exact Chg.refl _ _ _ | with_reducible refine Chg.alloc ?_ _ | with_reducible refine Chg.drew ?_ | with_reducible refine Chg.set ?_ (by omega) _))
  have t5 : w4.heap.size ≤ v5.heap.size := X5.out.size
  have Ev5 : Hid (Ex w v5) := Lib.hid (Ew4.out.chg X5.out (by omega))
  clear qW0 qW1 qW2 qW3 qW4 qW5 qW6 qW7 qW8 jW
  clear qG0 qG1 qG2 qG3 qG4 qG5 qG6 qG7 qG8 jG
  replace KW : Hid (Blk v5 (w1.heap.size) 41 [.slice aw.b mm.table.buckets.length aw.bc, .slice aw.f mm.table.frames.length aw.fc, .slice aw.l mm.cache.lines.length aw.lc, .int .i64 mm.cache.hand, .int .i64 mm.tags.count, .int .i64 mm.tags.next, .int .i64 mm.tags.round, .slice aw.o mm.tags.owns.length aw.oc, .int .i64 mm.space]) := Lib.hid (KW.out.chg X5.out (by omega))
  replace KG : Hid (Blk v5 (w2.heap.size) 41 [.slice ag.b mm.table.buckets.length ag.bc, .slice ag.f mm.table.frames.length ag.fc, .slice ag.l mm.cache.lines.length ag.lc, .int .i64 mm.cache.hand, .int .i64 mm.tags.count, .int .i64 mm.tags.next, .int .i64 mm.tags.round, .slice ag.o mm.tags.owns.length ag.oc, .int .i64 mm.space]) := Lib.hid (KG.out.chg X5.out (by omega))
  clear hv5
  refine (CH.out ag _ (HMK.out.ex X5.out.ex_)).mono ?_; rintro r w5 ⟨rfl, hb5⟩
  have Y5 : Hid (Chg 0 0 v5 w5) := Lib.hid (Chg.of_ex hb5)
  have s5 : v5.heap.size ≤ w5.heap.size := Y5.out.size
  have Ew5 : Hid (Ex w w5) := Lib.hid (Ev5.out.chg Y5.out (by omega))
  clear hb5
  replace KW : Hid (Blk w5 (w1.heap.size) 41 [.slice aw.b mm.table.buckets.length aw.bc, .slice aw.f mm.table.frames.length aw.fc, .slice aw.l mm.cache.lines.length aw.lc, .int .i64 mm.cache.hand, .int .i64 mm.tags.count, .int .i64 mm.tags.next, .int .i64 mm.tags.round, .slice aw.o mm.tags.owns.length aw.oc, .int .i64 mm.space]) := Lib.hid (KW.out.chg Y5.out (by omega))
  replace KG : Hid (Blk w5 (w2.heap.size) 41 [.slice ag.b mm.table.buckets.length ag.bc, .slice ag.f mm.table.frames.length ag.fc, .slice ag.l mm.cache.lines.length ag.lc, .int .i64 mm.cache.hand, .int .i64 mm.tags.count, .int .i64 mm.tags.next, .int .i64 mm.tags.round, .slice ag.o mm.tags.owns.length ag.oc, .int .i64 mm.space]) := Lib.hid (KG.out.chg Y5.out (by omega))
  obtain ⟨qW0, qW1, qW2, qW3, qW4, qW5, qW6, qW7, qW8⟩ := KW.out.c9
  have jW := KW.out.lt
  obtain ⟨qG0, qG1, qG2, qG3, qG4, qG5, qG6, qG7, qG8⟩ := KG.out.c9
  have jG := KG.out.lt
  have HM5 : Hid (Marked w5 mm ag K1 K2) := Lib.hid (HMK.out.ex (X5.out.ex_.trans Y5.out.ex_))
  have HF5 : Hid (HasM w5 mm aw) := Lib.hid (HFW.out.has.ex (X5.out.ex_.trans Y5.out.ex_))
  go_wp2_with fail
  refine name_calls ?_; intro v6 hv6
  have X6 : Hid (Chg (0) (0) w5 v6) := Lib.hid (by rw [hv6]; repeat' (first | with_reducible exact Chg.refl _ _ _ | with_reducible refine Chg.alloc ?_ _ | with_reducible refine Chg.drew ?_ | with_reducible refine Chg.set ?_ (by omega) _))
  have t6 : w5.heap.size ≤ v6.heap.size := X6.out.size
  have Ev6 : Hid (Ex w v6) := Lib.hid (Ew5.out.chg X6.out (by omega))
  clear qW0 qW1 qW2 qW3 qW4 qW5 qW6 qW7 qW8 jW
  clear qG0 qG1 qG2 qG3 qG4 qG5 qG6 qG7 qG8 jG
  replace KW : Hid (Blk v6 (w1.heap.size) 41 [.slice aw.b mm.table.buckets.length aw.bc, .slice aw.f mm.table.frames.length aw.fc, .slice aw.l mm.cache.lines.length aw.lc, .int .i64 mm.cache.hand, .int .i64 mm.tags.count, .int .i64 mm.tags.next, .int .i64 mm.tags.round, .slice aw.o mm.tags.owns.length aw.oc, .int .i64 mm.space]) := Lib.hid (KW.out.chg X6.out (by omega))
  replace KG : Hid (Blk v6 (w2.heap.size) 41 [.slice ag.b mm.table.buckets.length ag.bc, .slice ag.f mm.table.frames.length ag.fc, .slice ag.l mm.cache.lines.length ag.lc, .int .i64 mm.cache.hand, .int .i64 mm.tags.count, .int .i64 mm.tags.next, .int .i64 mm.tags.round, .slice ag.o mm.tags.owns.length ag.oc, .int .i64 mm.space]) := Lib.hid (KG.out.chg X6.out (by omega))
  clear hv6
  refine (C2.out _ Ev6.out).mono ?_; rintro r w6 ⟨ah, k1, k2, k3, rfl, hfb6, hff6, hfl6, hfo6, hhr6, hhm6, hb6⟩
  have Y6 : Hid (Chg 0 0 v6 w6) := Lib.hid (Chg.of_ex hb6)
  have s6 : v6.heap.size ≤ w6.heap.size := Y6.out.size
  have Ew6 : Hid (Ex w w6) := Lib.hid (Ev6.out.chg Y6.out (by omega))
  clear hb6
  replace KW : Hid (Blk w6 (w1.heap.size) 41 [.slice aw.b mm.table.buckets.length aw.bc, .slice aw.f mm.table.frames.length aw.fc, .slice aw.l mm.cache.lines.length aw.lc, .int .i64 mm.cache.hand, .int .i64 mm.tags.count, .int .i64 mm.tags.next, .int .i64 mm.tags.round, .slice aw.o mm.tags.owns.length aw.oc, .int .i64 mm.space]) := Lib.hid (KW.out.chg Y6.out (by omega))
  replace KG : Hid (Blk w6 (w2.heap.size) 41 [.slice ag.b mm.table.buckets.length ag.bc, .slice ag.f mm.table.frames.length ag.fc, .slice ag.l mm.cache.lines.length ag.lc, .int .i64 mm.cache.hand, .int .i64 mm.tags.count, .int .i64 mm.tags.next, .int .i64 mm.tags.round, .slice ag.o mm.tags.owns.length ag.oc, .int .i64 mm.space]) := Lib.hid (KG.out.chg Y6.out (by omega))
  have HFB6 := Lib.hid hfb6; clear hfb6
  have WHFB6 := Lib.hid HFB6.out.row
  have HFF6 := Lib.hid hff6; clear hff6
  have WHFF6 := Lib.hid HFF6.out.row
  have HFL6 := Lib.hid hfl6; clear hfl6
  have WHFL6 := Lib.hid HFL6.out.row
  have HFO6 := Lib.hid hfo6; clear hfo6
  have WHFO6 := Lib.hid HFO6.out.row
  have HHR6 := Lib.hid hhr6; clear hhr6
  have HHM6 := Lib.hid hhm6; clear hhm6
  obtain ⟨qW0, qW1, qW2, qW3, qW4, qW5, qW6, qW7, qW8⟩ := KW.out.c9
  have jW := KW.out.lt
  obtain ⟨qG0, qG1, qG2, qG3, qG4, qG5, qG6, qG7, qG8⟩ := KG.out.c9
  have jG := KG.out.lt
  have hk6 := HHM6.out
  have HM6 : Hid (Marked w6 mm ag K1 K2) := Lib.hid (HM5.out.ex (X6.out.ex_.trans Y6.out.ex_))
  have HF6 : Hid (HasM w6 mm aw) := Lib.hid (HF5.out.ex (X6.out.ex_.trans Y6.out.ex_))
  go_wp2_with fail
  refine name_calls ?_; intro v7 hv7
  have X7 : Hid (Chg (0) (0) w6 v7) := Lib.hid (by rw [hv7]; repeat' (first | with_reducible exact Chg.refl _ _ _ | with_reducible refine Chg.alloc ?_ _ | with_reducible refine Chg.drew ?_ | with_reducible refine Chg.set ?_ (by omega) _))
  have t7 : w6.heap.size ≤ v7.heap.size := X7.out.size
  have Ev7 : Hid (Ex w v7) := Lib.hid (Ew6.out.chg X7.out (by omega))
  clear qW0 qW1 qW2 qW3 qW4 qW5 qW6 qW7 qW8 jW
  clear qG0 qG1 qG2 qG3 qG4 qG5 qG6 qG7 qG8 jG
  replace KW : Hid (Blk v7 (w1.heap.size) 41 [.slice aw.b mm.table.buckets.length aw.bc, .slice aw.f mm.table.frames.length aw.fc, .slice aw.l mm.cache.lines.length aw.lc, .int .i64 mm.cache.hand, .int .i64 mm.tags.count, .int .i64 mm.tags.next, .int .i64 mm.tags.round, .slice aw.o mm.tags.owns.length aw.oc, .int .i64 mm.space]) := Lib.hid (KW.out.chg X7.out (by omega))
  replace KG : Hid (Blk v7 (w2.heap.size) 41 [.slice ag.b mm.table.buckets.length ag.bc, .slice ag.f mm.table.frames.length ag.fc, .slice ag.l mm.cache.lines.length ag.lc, .int .i64 mm.cache.hand, .int .i64 mm.tags.count, .int .i64 mm.tags.next, .int .i64 mm.tags.round, .slice ag.o mm.tags.owns.length ag.oc, .int .i64 mm.space]) := Lib.hid (KG.out.chg X7.out (by omega))
  replace HFB6 := Lib.hid (HFB6.out.chg X7.out WHFB6.out (by omega))
  replace HFF6 := Lib.hid (HFF6.out.chg X7.out WHFF6.out (by omega))
  replace HFL6 := Lib.hid (HFL6.out.chg X7.out WHFL6.out (by omega))
  replace HFO6 := Lib.hid (HFO6.out.chg X7.out WHFO6.out (by omega))
  have KH : Hid (Blk v7 (w6.heap.size) 41 [.slice ah.b mm.table.buckets.length ah.bc, .slice ah.f mm.table.frames.length ah.fc, .slice ah.l mm.cache.lines.length ah.lc, .int .i64 mm.cache.hand, .int .i64 mm.tags.count, .int .i64 mm.tags.next, .int .i64 mm.tags.round, .slice ah.o mm.tags.owns.length ah.oc, .int .i64 mm.space]) := Lib.hid (by rw [hv7]; repeat' (first | with_reducible exact Blk.new_at _ _ _ (by simp) | with_reducible refine Blk.alloc ?_ _ | with_reducible refine Blk.drew ?_ | with_reducible refine Blk.far ?_ (by simp; omega) _))
  have lH : w6.heap.size < v7.heap.size := KH.out.lt
  clear hv7
  refine (eqMachine_self_c mm ah aw _ ⟨HFB6.out.rd, HFF6.out.rd, HFL6.out.rd, HFO6.out.rd⟩ (HF6.out.ex X7.out.ex_) HFEW.out).mono ?_; rintro r w7 ⟨rfl, hb7⟩
  have Y7 : Hid (Chg 0 0 v7 w7) := Lib.hid (Chg.of_ex hb7)
  have s7 : v7.heap.size ≤ w7.heap.size := Y7.out.size
  have Ew7 : Hid (Ex w w7) := Lib.hid (Ev7.out.chg Y7.out (by omega))
  clear hb7
  replace KW : Hid (Blk w7 (w1.heap.size) 41 [.slice aw.b mm.table.buckets.length aw.bc, .slice aw.f mm.table.frames.length aw.fc, .slice aw.l mm.cache.lines.length aw.lc, .int .i64 mm.cache.hand, .int .i64 mm.tags.count, .int .i64 mm.tags.next, .int .i64 mm.tags.round, .slice aw.o mm.tags.owns.length aw.oc, .int .i64 mm.space]) := Lib.hid (KW.out.chg Y7.out (by omega))
  replace KG : Hid (Blk w7 (w2.heap.size) 41 [.slice ag.b mm.table.buckets.length ag.bc, .slice ag.f mm.table.frames.length ag.fc, .slice ag.l mm.cache.lines.length ag.lc, .int .i64 mm.cache.hand, .int .i64 mm.tags.count, .int .i64 mm.tags.next, .int .i64 mm.tags.round, .slice ag.o mm.tags.owns.length ag.oc, .int .i64 mm.space]) := Lib.hid (KG.out.chg Y7.out (by omega))
  replace KH : Hid (Blk w7 (w6.heap.size) 41 [.slice ah.b mm.table.buckets.length ah.bc, .slice ah.f mm.table.frames.length ah.fc, .slice ah.l mm.cache.lines.length ah.lc, .int .i64 mm.cache.hand, .int .i64 mm.tags.count, .int .i64 mm.tags.next, .int .i64 mm.tags.round, .slice ah.o mm.tags.owns.length ah.oc, .int .i64 mm.space]) := Lib.hid (KH.out.chg Y7.out (by omega))
  replace HFB6 := Lib.hid (HFB6.out.chg Y7.out WHFB6.out (by omega))
  replace HFF6 := Lib.hid (HFF6.out.chg Y7.out WHFF6.out (by omega))
  replace HFL6 := Lib.hid (HFL6.out.chg Y7.out WHFL6.out (by omega))
  replace HFO6 := Lib.hid (HFO6.out.chg Y7.out WHFO6.out (by omega))
  obtain ⟨qW0, qW1, qW2, qW3, qW4, qW5, qW6, qW7, qW8⟩ := KW.out.c9
  have jW := KW.out.lt
  obtain ⟨qG0, qG1, qG2, qG3, qG4, qG5, qG6, qG7, qG8⟩ := KG.out.c9
  have jG := KG.out.lt
  obtain ⟨qH0, qH1, qH2, qH3, qH4, qH5, qH6, qH7, qH8⟩ := KH.out.c9
  have jH := KH.out.lt
  have HM7 : Hid (Marked w7 mm ag K1 K2) := Lib.hid (HM6.out.ex (X7.out.ex_.trans Y7.out.ex_))
  go_wp2_with fail
  refine name_calls ?_; intro v8 hv8
  have X8 : Hid (Chg (0) (0) w7 v8) := Lib.hid (by rw [hv8]; repeat' (first | with_reducible exact Chg.refl _ _ _ | with_reducible refine Chg.alloc ?_ _ | with_reducible refine Chg.drew ?_ | with_reducible refine Chg.set ?_ (by omega) _))
  have t8 : w7.heap.size ≤ v8.heap.size := X8.out.size
  have Ev8 : Hid (Ex w v8) := Lib.hid (Ew7.out.chg X8.out (by omega))
  clear qW0 qW1 qW2 qW3 qW4 qW5 qW6 qW7 qW8 jW
  clear qG0 qG1 qG2 qG3 qG4 qG5 qG6 qG7 qG8 jG
  clear qH0 qH1 qH2 qH3 qH4 qH5 qH6 qH7 qH8 jH
  replace KW : Hid (Blk v8 (w1.heap.size) 41 [.slice aw.b mm.table.buckets.length aw.bc, .slice aw.f mm.table.frames.length aw.fc, .slice aw.l mm.cache.lines.length aw.lc, .int .i64 mm.cache.hand, .int .i64 mm.tags.count, .int .i64 mm.tags.next, .int .i64 mm.tags.round, .slice aw.o mm.tags.owns.length aw.oc, .int .i64 mm.space]) := Lib.hid (KW.out.chg X8.out (by omega))
  replace KG : Hid (Blk v8 (w2.heap.size) 41 [.slice ag.b mm.table.buckets.length ag.bc, .slice ag.f mm.table.frames.length ag.fc, .slice ag.l mm.cache.lines.length ag.lc, .int .i64 mm.cache.hand, .int .i64 mm.tags.count, .int .i64 mm.tags.next, .int .i64 mm.tags.round, .slice ag.o mm.tags.owns.length ag.oc, .int .i64 mm.space]) := Lib.hid (KG.out.chg X8.out (by omega))
  replace KH : Hid (Blk v8 (w6.heap.size) 41 [.slice ah.b mm.table.buckets.length ah.bc, .slice ah.f mm.table.frames.length ah.fc, .slice ah.l mm.cache.lines.length ah.lc, .int .i64 mm.cache.hand, .int .i64 mm.tags.count, .int .i64 mm.tags.next, .int .i64 mm.tags.round, .slice ah.o mm.tags.owns.length ah.oc, .int .i64 mm.space]) := Lib.hid (KH.out.chg X8.out (by omega))
  replace HFB6 := Lib.hid (HFB6.out.chg X8.out WHFB6.out (by omega))
  replace HFF6 := Lib.hid (HFF6.out.chg X8.out WHFF6.out (by omega))
  replace HFL6 := Lib.hid (HFL6.out.chg X8.out WHFL6.out (by omega))
  replace HFO6 := Lib.hid (HFO6.out.chg X8.out WHFO6.out (by omega))
  clear hv8
  refine (CH.out ag _ (HM7.out.ex X8.out.ex_)).mono ?_; rintro r w8 ⟨rfl, hb8⟩
  have Y8 : Hid (Chg 0 0 v8 w8) := Lib.hid (Chg.of_ex hb8)
  have s8 : v8.heap.size ≤ w8.heap.size := Y8.out.size
  have Ew8 : Hid (Ex w w8) := Lib.hid (Ev8.out.chg Y8.out (by omega))
  clear hb8
  replace KW : Hid (Blk w8 (w1.heap.size) 41 [.slice aw.b mm.table.buckets.length aw.bc, .slice aw.f mm.table.frames.length aw.fc, .slice aw.l mm.cache.lines.length aw.lc, .int .i64 mm.cache.hand, .int .i64 mm.tags.count, .int .i64 mm.tags.next, .int .i64 mm.tags.round, .slice aw.o mm.tags.owns.length aw.oc, .int .i64 mm.space]) := Lib.hid (KW.out.chg Y8.out (by omega))
  replace KG : Hid (Blk w8 (w2.heap.size) 41 [.slice ag.b mm.table.buckets.length ag.bc, .slice ag.f mm.table.frames.length ag.fc, .slice ag.l mm.cache.lines.length ag.lc, .int .i64 mm.cache.hand, .int .i64 mm.tags.count, .int .i64 mm.tags.next, .int .i64 mm.tags.round, .slice ag.o mm.tags.owns.length ag.oc, .int .i64 mm.space]) := Lib.hid (KG.out.chg Y8.out (by omega))
  replace KH : Hid (Blk w8 (w6.heap.size) 41 [.slice ah.b mm.table.buckets.length ah.bc, .slice ah.f mm.table.frames.length ah.fc, .slice ah.l mm.cache.lines.length ah.lc, .int .i64 mm.cache.hand, .int .i64 mm.tags.count, .int .i64 mm.tags.next, .int .i64 mm.tags.round, .slice ah.o mm.tags.owns.length ah.oc, .int .i64 mm.space]) := Lib.hid (KH.out.chg Y8.out (by omega))
  replace HFB6 := Lib.hid (HFB6.out.chg Y8.out WHFB6.out (by omega))
  replace HFF6 := Lib.hid (HFF6.out.chg Y8.out WHFF6.out (by omega))
  replace HFL6 := Lib.hid (HFL6.out.chg Y8.out WHFL6.out (by omega))
  replace HFO6 := Lib.hid (HFO6.out.chg Y8.out WHFO6.out (by omega))
  obtain ⟨qW0, qW1, qW2, qW3, qW4, qW5, qW6, qW7, qW8⟩ := KW.out.c9
  have jW := KW.out.lt
  obtain ⟨qG0, qG1, qG2, qG3, qG4, qG5, qG6, qG7, qG8⟩ := KG.out.c9
  have jG := KG.out.lt
  obtain ⟨qH0, qH1, qH2, qH3, qH4, qH5, qH6, qH7, qH8⟩ := KH.out.c9
  have jH := KH.out.lt
  go_wp2
  go_ret
  exact ⟨rfl, Ew8.out⟩
end Go.Proofs.YtkoegcalfibinaaDoor
