/- The law FnExactNewSystem: the walk. -/
import Derived.Test.YtkoegcalfibinaaDoorYo
namespace Go.Proofs.YtkoegcalfibinaaDoor
open Go.ChangeShapes Go.WideShapes Go.ChangeAt Go.RowKit
open Rec (sz cs)
set_option linter.unusedVariables false
set_option maxRecDepth 100000

theorem FewS.of_nil {s : SysD} (h1 : s.table.buckets.length ≤ 16) (h2 : s.table.frames.length ≤ 16) (h3 : s.cpus.length ≤ 16) (e : s.cpus = List.replicate s.cpus.length ⟨[], []⟩) : FewS s := by
  refine ⟨by omega, by omega, by omega, fun i x hx => ?_⟩
  rw [e] at hx
  rw [rep_get hx]
  simp

set_option maxHeartbeats 8000000 in
theorem walk_FnExactNewSystem (f b c : Int) (w : World) (hv : FreeV w) :
    Calls Tryd.prog 3 #[.int .i64 f, .int .i64 b, .int .i64 c] w fun r w' => r = .returned (.bool true) ∧ Ex w w' := by
  have C1 := Lib.hid (fun w' => newSysS_c f b c w')
  have C2 := Lib.hid (fun w' (h : Ex w w') => newSysI_c f b c w' (hv.ex h))
  have hfew := newSys_few f b c
  generalize newSys f b c = qq at C1 C2 hfew
  obtain ⟨mm, ok⟩ := qq
  dsimp only at C1 C2 hfew
  obtain ⟨n1, n2, n3⟩ := hfew
  obtain ⟨K1, e1⟩ : ∃ K1 : Int, K1 = 1 + (mm.table.buckets.length : Int) + 5 * (mm.table.frames.length : Int) := ⟨_, rfl⟩
  have p3 : ¬ K1 < 0 := by omega
  have CM := Lib.hid (fun a lo m1 m2 w h1 h2 h3 r1 r2 o1 o2 hh => markSys_c mm a lo m1 m2 K1 w h1 h2 h3 r1 r2 o1 o2 hh n1 n2 n3 e1)
  have CH := Lib.hid (fun a w h => heldSys_c mm a K1 w h n1 n2 n3 e1)
  have HFEW : Hid (mm.cpus = List.replicate mm.cpus.length ⟨[], []⟩ → FewS mm) := Lib.hid (fun e => FewS.of_nil n1 n2 n3 e)
  have hvo : (ok != ok) = false := by simp
  have hvk : (K1 != K1) = false := by simp
  clear hv e1 n1 n2 n3
  go_enter Tryd.func3, Tryd.ntmps3
  go_wp2_with fail
  refine name_calls ?_; intro v1 hv1
  have X1 : Hid (Chg (0) (0) w v1) := Lib.hid (by rw [hv1]; repeat' (first | with_reducible exact Chg.refl _ _ _ | with_reducible refine Chg.alloc ?_ _ | with_reducible refine Chg.drew ?_ | with_reducible refine Chg.set ?_ (by omega) _))
  have t1 : w.heap.size ≤ v1.heap.size := X1.out.size
  have Ev1 : Hid (Ex w v1) := Lib.hid ((Ex.refl w).chg X1.out (by omega))
  clear hv1
  refine (C1.out _).mono ?_; rintro r w1 ⟨aw, rfl, hhw, hb1⟩
  have Y1 : Hid (Chg 0 0 v1 w1) := Lib.hid (Chg.of_ex hb1)
  have s1 : v1.heap.size ≤ w1.heap.size := Y1.out.size
  have Ew1 : Hid (Ex w w1) := Lib.hid (Ev1.out.chg Y1.out (by omega))
  clear hb1
  have HHW := Lib.hid hhw; clear hhw
  go_wp2_with fail
  refine name_calls ?_; intro v2 hv2
  have X2 : Hid (Chg (0) (0) w1 v2) := Lib.hid (by rw [hv2]; repeat' (first | with_reducible exact Chg.refl _ _ _ | with_reducible refine Chg.alloc ?_ _ | with_reducible refine Chg.drew ?_ | with_reducible refine Chg.set ?_ (by omega) _))
  have t2 : w1.heap.size ≤ v2.heap.size := X2.out.size
  have Ev2 : Hid (Ex w v2) := Lib.hid (Ew1.out.chg X2.out (by omega))
  have KW : Hid (Blk v2 (w1.heap.size) 28 [.slice aw.b mm.table.buckets.length aw.bc, .slice aw.f mm.table.frames.length aw.fc, .slice aw.q mm.cpus.length aw.qc]) := Lib.hid (by rw [hv2]; repeat' (first | with_reducible exact Blk.new_at _ _ _ (by simp) | with_reducible refine Blk.alloc ?_ _ | with_reducible refine Blk.drew ?_ | with_reducible refine Blk.far ?_ (by simp; omega) _))
  have lW : w1.heap.size < v2.heap.size := KW.out.lt
  clear hv2
  refine (C2.out _ Ev2.out).mono ?_; rintro r w2 ⟨ag, m1, m2, rfl, hfb, hff, hfq, hhe, hhr, hhm, hb2⟩
  have Y2 : Hid (Chg 0 0 v2 w2) := Lib.hid (Chg.of_ex hb2)
  have s2 : v2.heap.size ≤ w2.heap.size := Y2.out.size
  have Ew2 : Hid (Ex w w2) := Lib.hid (Ev2.out.chg Y2.out (by omega))
  clear hb2
  replace KW : Hid (Blk w2 (w1.heap.size) 28 [.slice aw.b mm.table.buckets.length aw.bc, .slice aw.f mm.table.frames.length aw.fc, .slice aw.q mm.cpus.length aw.qc]) := Lib.hid (KW.out.chg Y2.out (by omega))
  have HFB := Lib.hid hfb; clear hfb
  have WHFB := Lib.hid HFB.out.row
  have HFF := Lib.hid hff; clear hff
  have WHFF := Lib.hid HFF.out.row
  have HFQ := Lib.hid hfq; clear hfq
  have WHFQ := Lib.hid HFQ.out.row
  have HHE := Lib.hid hhe; clear hhe
  have HHR := Lib.hid hhr; clear hhr
  have HHM := Lib.hid hhm; clear hhm
  obtain ⟨qW0, qW1, qW2⟩ := KW.out.c3
  have jW := KW.out.lt
  obtain ⟨ha1, ha2, ha3⟩ := HHM.out
  have HFS := Lib.hid (HFEW.out HHE.out)
  have HW2 : Hid (Ex w1 w2) := Lib.hid (X2.out.ex_.trans Y2.out.ex_)
  go_wp2_with fail
  refine name_calls ?_; intro v3 hv3
  have X3 : Hid (Chg (0) (0) w2 v3) := Lib.hid (by rw [hv3]; repeat' (first | with_reducible exact Chg.refl _ _ _ | with_reducible refine Chg.alloc ?_ _ | with_reducible refine Chg.drew ?_ | with_reducible refine Chg.set ?_ (by omega) _))
  have t3 : w2.heap.size ≤ v3.heap.size := X3.out.size
  have Ev3 : Hid (Ex w v3) := Lib.hid (Ew2.out.chg X3.out (by omega))
  clear qW0 qW1 qW2 jW
  replace KW : Hid (Blk v3 (w1.heap.size) 28 [.slice aw.b mm.table.buckets.length aw.bc, .slice aw.f mm.table.frames.length aw.fc, .slice aw.q mm.cpus.length aw.qc]) := Lib.hid (KW.out.chg X3.out (by omega))
  replace HFB := Lib.hid (HFB.out.chg X3.out WHFB.out (by omega))
  replace HFF := Lib.hid (HFF.out.chg X3.out WHFF.out (by omega))
  replace HFQ := Lib.hid (HFQ.out.chg X3.out WHFQ.out (by omega))
  have KG : Hid (Blk v3 (w2.heap.size) 28 [.slice ag.b mm.table.buckets.length ag.bc, .slice ag.f mm.table.frames.length ag.fc, .slice ag.q mm.cpus.length ag.qc]) := Lib.hid (by rw [hv3]; repeat' (first | with_reducible exact Blk.new_at _ _ _ (by simp) | with_reducible refine Blk.alloc ?_ _ | with_reducible refine Blk.drew ?_ | with_reducible refine Blk.far ?_ (by simp; omega) _))
  have lG : w2.heap.size < v3.heap.size := KG.out.lt
  clear hv3
  refine (eqSystem_self_c mm ag aw _ (HasN.has ⟨HFB.out.rd, HFF.out.rd, HFQ.out.rd, HHE.out⟩) (HHW.out.has.ex (HW2.out.trans X3.out.ex_)).has HFS.out).mono ?_; rintro r w3 ⟨rfl, hb3⟩
  have Y3 : Hid (Chg 0 0 v3 w3) := Lib.hid (Chg.of_ex hb3)
  have s3 : v3.heap.size ≤ w3.heap.size := Y3.out.size
  have Ew3 : Hid (Ex w w3) := Lib.hid (Ev3.out.chg Y3.out (by omega))
  clear hb3
  replace KW : Hid (Blk w3 (w1.heap.size) 28 [.slice aw.b mm.table.buckets.length aw.bc, .slice aw.f mm.table.frames.length aw.fc, .slice aw.q mm.cpus.length aw.qc]) := Lib.hid (KW.out.chg Y3.out (by omega))
  replace KG : Hid (Blk w3 (w2.heap.size) 28 [.slice ag.b mm.table.buckets.length ag.bc, .slice ag.f mm.table.frames.length ag.fc, .slice ag.q mm.cpus.length ag.qc]) := Lib.hid (KG.out.chg Y3.out (by omega))
  replace HFB := Lib.hid (HFB.out.chg Y3.out WHFB.out (by omega))
  replace HFF := Lib.hid (HFF.out.chg Y3.out WHFF.out (by omega))
  replace HFQ := Lib.hid (HFQ.out.chg Y3.out WHFQ.out (by omega))
  obtain ⟨qW0, qW1, qW2⟩ := KW.out.c3
  have jW := KW.out.lt
  obtain ⟨qG0, qG1, qG2⟩ := KG.out.c3
  have jG := KG.out.lt
  have HW3 : Hid (Ex w1 w3) := Lib.hid (HW2.out.trans (X3.out.ex_.trans Y3.out.ex_))
  go_wp2_with fail
  refine name_calls ?_; intro v4 hv4
  have X4 : Hid (Chg (0) (0) w3 v4) := Lib.hid (by rw [hv4]; repeat' (first | with_reducible exact Chg.refl _ _ _ | with_reducible refine Chg.alloc ?_ _ | with_reducible refine Chg.drew ?_ | with_reducible refine Chg.set ?_ (by omega) _))
  have t4 : w3.heap.size ≤ v4.heap.size := X4.out.size
  have Ev4 : Hid (Ex w v4) := Lib.hid (Ew3.out.chg X4.out (by omega))
  clear qW0 qW1 qW2 jW
  clear qG0 qG1 qG2 jG
  replace KW : Hid (Blk v4 (w1.heap.size) 28 [.slice aw.b mm.table.buckets.length aw.bc, .slice aw.f mm.table.frames.length aw.fc, .slice aw.q mm.cpus.length aw.qc]) := Lib.hid (KW.out.chg X4.out (by omega))
  replace KG : Hid (Blk v4 (w2.heap.size) 28 [.slice ag.b mm.table.buckets.length ag.bc, .slice ag.f mm.table.frames.length ag.fc, .slice ag.q mm.cpus.length ag.qc]) := Lib.hid (KG.out.chg X4.out (by omega))
  replace HFB := Lib.hid (HFB.out.chg X4.out WHFB.out (by omega))
  replace HFF := Lib.hid (HFF.out.chg X4.out WHFF.out (by omega))
  replace HFQ := Lib.hid (HFQ.out.chg X4.out WHFQ.out (by omega))
  clear hv4
  have HW4 : Hid (Ex w1 v4) := Lib.hid (HW3.out.trans X4.out.ex_)
  have HRR := Lib.hid HHR.out
  have HMB : Hid (∀ x, rowOf ag.b ag.bc = some x → v2.heap.size ≤ x ∧ x < m1) := Lib.hid (fun x e => ⟨(WHFB.out x e).1, HRR.out.1 x e⟩)
  have HMF : Hid (∀ x, rowOf ag.f ag.fc = some x → m1 ≤ x ∧ x < m2) := Lib.hid (fun x e => ⟨(WHFF.out x e).1, HRR.out.2 x e⟩)
  refine (CM.out ag v2.heap.size m1 m2 _ (HFB.out.mono (Nat.le_refl _)) (HFF.out.mono (by omega)) HFQ.out HMB.out HMF.out (by omega) (by omega) (by omega)).mono ?_
  rintro r w4 ⟨rfl, hmk, hcg⟩
  have HMK := Lib.hid hmk
  have Y4 : Hid (Chg v2.heap.size w2.heap.size v4 w4) := Lib.hid (hcg.mono (Nat.le_refl _) (by omega))
  have HFW : Hid (FrN w4 v1.heap.size mm aw) := Lib.hid (HHW.out.after HW4.out Y4.out (by omega))
  clear hmk hcg HMB HMF HRR
  clear HFB WHFB
  clear HFF WHFF
  clear HFQ WHFQ
  have s4 : v4.heap.size ≤ w4.heap.size := Y4.out.size
  have Ew4 : Hid (Ex w w4) := Lib.hid (Ev4.out.chg Y4.out (by omega))
  replace KW : Hid (Blk w4 (w1.heap.size) 28 [.slice aw.b mm.table.buckets.length aw.bc, .slice aw.f mm.table.frames.length aw.fc, .slice aw.q mm.cpus.length aw.qc]) := Lib.hid (KW.out.chg Y4.out (by omega))
  replace KG : Hid (Blk w4 (w2.heap.size) 28 [.slice ag.b mm.table.buckets.length ag.bc, .slice ag.f mm.table.frames.length ag.fc, .slice ag.q mm.cpus.length ag.qc]) := Lib.hid (KG.out.chg Y4.out (by omega))
  obtain ⟨qW0, qW1, qW2⟩ := KW.out.c3
  have jW := KW.out.lt
  obtain ⟨qG0, qG1, qG2⟩ := KG.out.c3
  have jG := KG.out.lt
  go_wp2_with fail
  refine name_calls ?_; intro v5 hv5
  have X5 : Hid (Chg (0) (0) w4 v5) := Lib.hid (by rw [hv5]; repeat' (first | with_reducible exact Chg.refl _ _ _ | with_reducible refine Chg.alloc ?_ _ | with_reducible refine Chg.drew ?_ | with_reducible refine Chg.set ?_ (by omega) _))
  have t5 : w4.heap.size ≤ v5.heap.size := X5.out.size
  have Ev5 : Hid (Ex w v5) := Lib.hid (Ew4.out.chg X5.out (by omega))
  clear qW0 qW1 qW2 jW
  clear qG0 qG1 qG2 jG
  replace KW : Hid (Blk v5 (w1.heap.size) 28 [.slice aw.b mm.table.buckets.length aw.bc, .slice aw.f mm.table.frames.length aw.fc, .slice aw.q mm.cpus.length aw.qc]) := Lib.hid (KW.out.chg X5.out (by omega))
  replace KG : Hid (Blk v5 (w2.heap.size) 28 [.slice ag.b mm.table.buckets.length ag.bc, .slice ag.f mm.table.frames.length ag.fc, .slice ag.q mm.cpus.length ag.qc]) := Lib.hid (KG.out.chg X5.out (by omega))
  clear hv5
  refine (CH.out ag _ (HMK.out.ex X5.out.ex_)).mono ?_; rintro r w5 ⟨rfl, hb5⟩
  have Y5 : Hid (Chg 0 0 v5 w5) := Lib.hid (Chg.of_ex hb5)
  have s5 : v5.heap.size ≤ w5.heap.size := Y5.out.size
  have Ew5 : Hid (Ex w w5) := Lib.hid (Ev5.out.chg Y5.out (by omega))
  clear hb5
  replace KW : Hid (Blk w5 (w1.heap.size) 28 [.slice aw.b mm.table.buckets.length aw.bc, .slice aw.f mm.table.frames.length aw.fc, .slice aw.q mm.cpus.length aw.qc]) := Lib.hid (KW.out.chg Y5.out (by omega))
  replace KG : Hid (Blk w5 (w2.heap.size) 28 [.slice ag.b mm.table.buckets.length ag.bc, .slice ag.f mm.table.frames.length ag.fc, .slice ag.q mm.cpus.length ag.qc]) := Lib.hid (KG.out.chg Y5.out (by omega))
  obtain ⟨qW0, qW1, qW2⟩ := KW.out.c3
  have jW := KW.out.lt
  obtain ⟨qG0, qG1, qG2⟩ := KG.out.c3
  have jG := KG.out.lt
  have HM5 : Hid (MarkedS w5 mm ag) := Lib.hid (HMK.out.ex (X5.out.ex_.trans Y5.out.ex_))
  have HF5 : Hid (HasN w5 mm aw) := Lib.hid (HFW.out.has.ex (X5.out.ex_.trans Y5.out.ex_))
  go_wp2_with fail
  refine name_calls ?_; intro v6 hv6
  have X6 : Hid (Chg (0) (0) w5 v6) := Lib.hid (by rw [hv6]; repeat' (first | with_reducible exact Chg.refl _ _ _ | with_reducible refine Chg.alloc ?_ _ | with_reducible refine Chg.drew ?_ | with_reducible refine Chg.set ?_ (by omega) _))
  have t6 : w5.heap.size ≤ v6.heap.size := X6.out.size
  have Ev6 : Hid (Ex w v6) := Lib.hid (Ew5.out.chg X6.out (by omega))
  clear qW0 qW1 qW2 jW
  clear qG0 qG1 qG2 jG
  replace KW : Hid (Blk v6 (w1.heap.size) 28 [.slice aw.b mm.table.buckets.length aw.bc, .slice aw.f mm.table.frames.length aw.fc, .slice aw.q mm.cpus.length aw.qc]) := Lib.hid (KW.out.chg X6.out (by omega))
  replace KG : Hid (Blk v6 (w2.heap.size) 28 [.slice ag.b mm.table.buckets.length ag.bc, .slice ag.f mm.table.frames.length ag.fc, .slice ag.q mm.cpus.length ag.qc]) := Lib.hid (KG.out.chg X6.out (by omega))
  clear hv6
  refine (C2.out _ Ev6.out).mono ?_; rintro r w6 ⟨ah, k1, k2, rfl, hfb6, hff6, hfq6, hhe6, hhr6, hhm6, hb6⟩
  have Y6 : Hid (Chg 0 0 v6 w6) := Lib.hid (Chg.of_ex hb6)
  have s6 : v6.heap.size ≤ w6.heap.size := Y6.out.size
  have Ew6 : Hid (Ex w w6) := Lib.hid (Ev6.out.chg Y6.out (by omega))
  clear hb6
  replace KW : Hid (Blk w6 (w1.heap.size) 28 [.slice aw.b mm.table.buckets.length aw.bc, .slice aw.f mm.table.frames.length aw.fc, .slice aw.q mm.cpus.length aw.qc]) := Lib.hid (KW.out.chg Y6.out (by omega))
  replace KG : Hid (Blk w6 (w2.heap.size) 28 [.slice ag.b mm.table.buckets.length ag.bc, .slice ag.f mm.table.frames.length ag.fc, .slice ag.q mm.cpus.length ag.qc]) := Lib.hid (KG.out.chg Y6.out (by omega))
  have HFB6 := Lib.hid hfb6; clear hfb6
  have WHFB6 := Lib.hid HFB6.out.row
  have HFF6 := Lib.hid hff6; clear hff6
  have WHFF6 := Lib.hid HFF6.out.row
  have HFQ6 := Lib.hid hfq6; clear hfq6
  have WHFQ6 := Lib.hid HFQ6.out.row
  have HHE6 := Lib.hid hhe6; clear hhe6
  have HHR6 := Lib.hid hhr6; clear hhr6
  have HHM6 := Lib.hid hhm6; clear hhm6
  obtain ⟨qW0, qW1, qW2⟩ := KW.out.c3
  have jW := KW.out.lt
  obtain ⟨qG0, qG1, qG2⟩ := KG.out.c3
  have jG := KG.out.lt
  have hk6 := HHM6.out
  have HM6 : Hid (MarkedS w6 mm ag) := Lib.hid (HM5.out.ex (X6.out.ex_.trans Y6.out.ex_))
  have HF6 : Hid (HasN w6 mm aw) := Lib.hid (HF5.out.ex (X6.out.ex_.trans Y6.out.ex_))
  go_wp2_with fail
  refine name_calls ?_; intro v7 hv7
  have X7 : Hid (Chg (0) (0) w6 v7) := Lib.hid (by rw [hv7]; repeat' (first | with_reducible exact Chg.refl _ _ _ | with_reducible refine Chg.alloc ?_ _ | with_reducible refine Chg.drew ?_ | with_reducible refine Chg.set ?_ (by omega) _))
  have t7 : w6.heap.size ≤ v7.heap.size := X7.out.size
  have Ev7 : Hid (Ex w v7) := Lib.hid (Ew6.out.chg X7.out (by omega))
  clear qW0 qW1 qW2 jW
  clear qG0 qG1 qG2 jG
  replace KW : Hid (Blk v7 (w1.heap.size) 28 [.slice aw.b mm.table.buckets.length aw.bc, .slice aw.f mm.table.frames.length aw.fc, .slice aw.q mm.cpus.length aw.qc]) := Lib.hid (KW.out.chg X7.out (by omega))
  replace KG : Hid (Blk v7 (w2.heap.size) 28 [.slice ag.b mm.table.buckets.length ag.bc, .slice ag.f mm.table.frames.length ag.fc, .slice ag.q mm.cpus.length ag.qc]) := Lib.hid (KG.out.chg X7.out (by omega))
  replace HFB6 := Lib.hid (HFB6.out.chg X7.out WHFB6.out (by omega))
  replace HFF6 := Lib.hid (HFF6.out.chg X7.out WHFF6.out (by omega))
  replace HFQ6 := Lib.hid (HFQ6.out.chg X7.out WHFQ6.out (by omega))
  have KH : Hid (Blk v7 (w6.heap.size) 28 [.slice ah.b mm.table.buckets.length ah.bc, .slice ah.f mm.table.frames.length ah.fc, .slice ah.q mm.cpus.length ah.qc]) := Lib.hid (by rw [hv7]; repeat' (first | with_reducible exact Blk.new_at _ _ _ (by simp) | with_reducible refine Blk.alloc ?_ _ | with_reducible refine Blk.drew ?_ | with_reducible refine Blk.far ?_ (by simp; omega) _))
  have lH : w6.heap.size < v7.heap.size := KH.out.lt
  clear hv7
  refine (eqSystem_self_c mm ah aw _ (HasN.has ⟨HFB6.out.rd, HFF6.out.rd, HFQ6.out.rd, HHE6.out⟩) (HF6.out.ex X7.out.ex_).has HFS.out).mono ?_; rintro r w7 ⟨rfl, hb7⟩
  have Y7 : Hid (Chg 0 0 v7 w7) := Lib.hid (Chg.of_ex hb7)
  have s7 : v7.heap.size ≤ w7.heap.size := Y7.out.size
  have Ew7 : Hid (Ex w w7) := Lib.hid (Ev7.out.chg Y7.out (by omega))
  clear hb7
  replace KW : Hid (Blk w7 (w1.heap.size) 28 [.slice aw.b mm.table.buckets.length aw.bc, .slice aw.f mm.table.frames.length aw.fc, .slice aw.q mm.cpus.length aw.qc]) := Lib.hid (KW.out.chg Y7.out (by omega))
  replace KG : Hid (Blk w7 (w2.heap.size) 28 [.slice ag.b mm.table.buckets.length ag.bc, .slice ag.f mm.table.frames.length ag.fc, .slice ag.q mm.cpus.length ag.qc]) := Lib.hid (KG.out.chg Y7.out (by omega))
  replace KH : Hid (Blk w7 (w6.heap.size) 28 [.slice ah.b mm.table.buckets.length ah.bc, .slice ah.f mm.table.frames.length ah.fc, .slice ah.q mm.cpus.length ah.qc]) := Lib.hid (KH.out.chg Y7.out (by omega))
  replace HFB6 := Lib.hid (HFB6.out.chg Y7.out WHFB6.out (by omega))
  replace HFF6 := Lib.hid (HFF6.out.chg Y7.out WHFF6.out (by omega))
  replace HFQ6 := Lib.hid (HFQ6.out.chg Y7.out WHFQ6.out (by omega))
  obtain ⟨qW0, qW1, qW2⟩ := KW.out.c3
  have jW := KW.out.lt
  obtain ⟨qG0, qG1, qG2⟩ := KG.out.c3
  have jG := KG.out.lt
  obtain ⟨qH0, qH1, qH2⟩ := KH.out.c3
  have jH := KH.out.lt
  have HM7 : Hid (MarkedS w7 mm ag) := Lib.hid (HM6.out.ex (X7.out.ex_.trans Y7.out.ex_))
  go_wp2_with fail
  refine name_calls ?_; intro v8 hv8
  have X8 : Hid (Chg (0) (0) w7 v8) := Lib.hid (by rw [hv8]; repeat' (first | with_reducible exact Chg.refl _ _ _ | with_reducible refine Chg.alloc ?_ _ | with_reducible refine Chg.drew ?_ | with_reducible refine Chg.set ?_ (by omega) _))
  have t8 : w7.heap.size ≤ v8.heap.size := X8.out.size
  have Ev8 : Hid (Ex w v8) := Lib.hid (Ew7.out.chg X8.out (by omega))
  clear qW0 qW1 qW2 jW
  clear qG0 qG1 qG2 jG
  clear qH0 qH1 qH2 jH
  replace KW : Hid (Blk v8 (w1.heap.size) 28 [.slice aw.b mm.table.buckets.length aw.bc, .slice aw.f mm.table.frames.length aw.fc, .slice aw.q mm.cpus.length aw.qc]) := Lib.hid (KW.out.chg X8.out (by omega))
  replace KG : Hid (Blk v8 (w2.heap.size) 28 [.slice ag.b mm.table.buckets.length ag.bc, .slice ag.f mm.table.frames.length ag.fc, .slice ag.q mm.cpus.length ag.qc]) := Lib.hid (KG.out.chg X8.out (by omega))
  replace KH : Hid (Blk v8 (w6.heap.size) 28 [.slice ah.b mm.table.buckets.length ah.bc, .slice ah.f mm.table.frames.length ah.fc, .slice ah.q mm.cpus.length ah.qc]) := Lib.hid (KH.out.chg X8.out (by omega))
  replace HFB6 := Lib.hid (HFB6.out.chg X8.out WHFB6.out (by omega))
  replace HFF6 := Lib.hid (HFF6.out.chg X8.out WHFF6.out (by omega))
  replace HFQ6 := Lib.hid (HFQ6.out.chg X8.out WHFQ6.out (by omega))
  clear hv8
  refine (CH.out ag _ (HM7.out.ex X8.out.ex_)).mono ?_; rintro r w8 ⟨rfl, hb8⟩
  have Y8 : Hid (Chg 0 0 v8 w8) := Lib.hid (Chg.of_ex hb8)
  have s8 : v8.heap.size ≤ w8.heap.size := Y8.out.size
  have Ew8 : Hid (Ex w w8) := Lib.hid (Ev8.out.chg Y8.out (by omega))
  clear hb8
  replace KW : Hid (Blk w8 (w1.heap.size) 28 [.slice aw.b mm.table.buckets.length aw.bc, .slice aw.f mm.table.frames.length aw.fc, .slice aw.q mm.cpus.length aw.qc]) := Lib.hid (KW.out.chg Y8.out (by omega))
  replace KG : Hid (Blk w8 (w2.heap.size) 28 [.slice ag.b mm.table.buckets.length ag.bc, .slice ag.f mm.table.frames.length ag.fc, .slice ag.q mm.cpus.length ag.qc]) := Lib.hid (KG.out.chg Y8.out (by omega))
  replace KH : Hid (Blk w8 (w6.heap.size) 28 [.slice ah.b mm.table.buckets.length ah.bc, .slice ah.f mm.table.frames.length ah.fc, .slice ah.q mm.cpus.length ah.qc]) := Lib.hid (KH.out.chg Y8.out (by omega))
  replace HFB6 := Lib.hid (HFB6.out.chg Y8.out WHFB6.out (by omega))
  replace HFF6 := Lib.hid (HFF6.out.chg Y8.out WHFF6.out (by omega))
  replace HFQ6 := Lib.hid (HFQ6.out.chg Y8.out WHFQ6.out (by omega))
  obtain ⟨qW0, qW1, qW2⟩ := KW.out.c3
  have jW := KW.out.lt
  obtain ⟨qG0, qG1, qG2⟩ := KG.out.c3
  have jG := KG.out.lt
  obtain ⟨qH0, qH1, qH2⟩ := KH.out.c3
  have jH := KH.out.lt
  go_wp2
  go_ret
  exact ⟨rfl, Ew8.out⟩
end Go.Proofs.YtkoegcalfibinaaDoor
