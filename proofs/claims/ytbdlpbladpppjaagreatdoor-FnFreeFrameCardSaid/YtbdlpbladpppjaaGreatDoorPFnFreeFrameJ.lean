/- Whatever the code, the law FnFreeFrame returns true, and its argument and the listed variable read as before; the variable starts as the program lays it (tied). -/
import Derived.LaidMore
import Derived.Stop.Joined
import Derived.OpenVars
import Derived.Test.YtbdlpbladpppjaaGreatDoorCards
import Derived.Test.YtbdlpbladpppjaaGreatDoorTie
import Derived.SevenTiedAt
import Derived.Test.YtbdlpbladpppjaaGreatDoorJ12
import Derived.Test.YtbdlpbladpppjaaGreatDoorJ1
import Derived.Test.YtbdlpbladpppjaaGreatDoorJ8
import Derived.Test.YtbdlpbladpppjaaGreatDoorJ6
namespace Go.Proofs.YtbdlpbladpppjaaGreatDoor
open Go.ChangeShapes Go.WideShapes Go.ChangeAt Go.RowKit
open Rec (sz cs)
set_option linter.unusedVariables false
set_option maxRecDepth 100000

theorem freeOf_no {m : MemD} (h : memV m = false) : freeOf m = (0, false) := by unfold freeOf; rw [if_neg (by rw [h]; simp)]
theorem freeOf_none {m : MemD} (h : freeF_ m.mach.table = -1) : freeOf m = (0, false) := by unfold freeOf; rw [if_neg (by rw [h]; omega)]
theorem freeOf_at {m : MemD} (hv : memV m = true) {i : Nat} (h : freeF_ m.mach.table = (i : Int)) : freeOf m = ((i : Int), true) := by unfold freeOf; rw [if_pos ⟨hv, by rw [h]; omega⟩, h]

set_option maxHeartbeats 16000000 in
theorem walk_FnFreeFrame (A : Option Addr) (n c : Nat) (bs : List ByteD) (w : World) (hr : Rd w A bs) (hc : Bytes bs ∧ bs.length = n ∧ n ≤ c ∧ c ≤ maxLen) (hv : FreeV w) :
    Calls Tryz.prog 3 #[.slice A n c] w fun r w' => r = .returned (.bool true) ∧ Ex w w' := by
  have HV := zq hv
  clear hv
  obtain ⟨hb, rfl, hnc, hcm⟩ := hc
  by_cases hbig : 1048576 < bs.length
  · have hbig' : (1048576 : Int) < (bs.length : Int) := by omega
    unfold maxLen at hcm
    generalize bs.length = n at *
    go_enter Tryz.func3, Tryz.ntmps3
    go_wp2
    go_ret
    exact ⟨rfl, Ex.refl _⟩
  have hsm : ¬ (1048576 : Int) < (bs.length : Int) := by omega
  have C0 := zq (fun w' (h : Ex w w') => drawFreeFrame_c A c bs w' (hr.ex h) hb (by omega) hnc hcm)
  have hcm' := hcm
  unfold maxLen at hcm'
  generalize bs.length = n at *
  clear hr hb hcm
  go_enter Tryz.func3, Tryz.ntmps3
  go_wp2_with fail
  refine name_calls ?_; intro v0 hv0
  have X0 : Hid (Chg (0) (0) w v0) := zx hv0
  have t0 := X0.out.size
  have Ev0 := zq ((Ex.refl w).chg X0.out (by omega))
  clear hv0
  refine (C0.out _ Ev0.out).mono ?_; rintro r w0 ⟨m, a, K, kc, rfl, hm, hhe0, hb0⟩
  have Y0 := zq (Chg.of_ex hb0)
  have s0 := Y0.out.size
  have Ew0 := zq (Ev0.out.chg Y0.out (by omega))
  clear hb0
  have HHE0 := zq hhe0; clear hhe0
  have HFW : Hid (FewE m) := zq (hm.fewE (by omega))
  clear hm
  have HAS : Hid (∀ w', Ex w0 w' → HasE w' m a K) := zq (fun w' h => HHE0.out.has.ex h)
  have HCAP : Hid (CapE m a kc) := zq HHE0.out.cap
  have CI := zq (fun w' (h : HasE w' m a K) (hv : FreeV w') => freeI_c m a K kc w' h HFW.out HCAP.out hv)
  have CS := zq (fun w' (h : HasE w' m a K) => freeS_c m a K kc w' h HFW.out HCAP.out)
  have CV := zq (fun w' (h : HasE w' m a K) (hv : FreeV w') => memI_c m a K kc w' h HFW.out HCAP.out hv)
  clear C0 HHE0
  cases hmv : memV m
  · rw [freeOf_no hmv] at CI CS
    rw [hmv] at CV
    clear hmv
    dsimp only at CI CS
    go_wp2_with fail
    refine name_calls ?_; intro v1 hv1
    have X1 : Hid (Chg (0) (0) w0 v1) := zx hv1
    have t1 := X1.out.size
    have Ev1 := zq (Ew0.out.chg X1.out (by omega))
    have KX : Hid (Blk v1 (w0.heap.size) 37 [.slice a.b m.mach.table.buckets.length a.bc, .slice a.f m.mach.table.frames.length a.fc, .slice a.l m.mach.cache.lines.length a.lc, .int .i64 m.mach.cache.hand, .int .i64 m.mach.tags.count, .int .i64 m.mach.tags.next, .int .i64 m.mach.tags.round, .slice a.o m.mach.tags.owns.length a.oc, .int .i64 m.mach.space, .slice K m.marks.length kc, .int .i64 m.hand]) := zk hv1
    have lX : w0.heap.size < v1.heap.size := KX.out.lt
    clear hv1
    refine (CI.out _ (HAS.out _ X1.out.ex_) (HV.out.ex Ev1.out)).mono ?_; rintro r w1 ⟨rfl, hb1⟩
    have Y1 := zq (Chg.of_ex hb1)
    have s1 := Y1.out.size
    have Ew1 := zq (Ev1.out.chg Y1.out (by omega))
    clear hb1
    replace KX := zq (KX.out.chg Y1.out (by omega))
    obtain ⟨qX0, qX1, qX2, qX3, qX4, qX5, qX6, qX7, qX8, qX9, qX10⟩ := KX.out.c11
    have jX := KX.out.lt
    go_wp2_with fail
    refine name_calls ?_; intro v2 hv2
    have X2 : Hid (Chg (0) (0) w1 v2) := zx hv2
    have t2 := X2.out.size
    have Ev2 := zq (Ew1.out.chg X2.out (by omega))
    clear qX0 qX1 qX2 qX3 qX4 qX5 qX6 qX7 qX8 qX9 qX10 jX
    replace KX := zq (KX.out.chg X2.out (by omega))
    clear hv2
    refine (CS.out _ (HAS.out _ (X1.out.ex_.trans (Y1.out.ex_.trans X2.out.ex_)))).mono ?_; rintro r w2 ⟨rfl, hb2⟩
    have Y2 := zq (Chg.of_ex hb2)
    have s2 := Y2.out.size
    have Ew2 := zq (Ev2.out.chg Y2.out (by omega))
    clear hb2
    replace KX := zq (KX.out.chg Y2.out (by omega))
    obtain ⟨qX0, qX1, qX2, qX3, qX4, qX5, qX6, qX7, qX8, qX9, qX10⟩ := KX.out.c11
    have jX := KX.out.lt
    go_wp2_with fail
    refine name_calls ?_; intro v3 hv3
    have X3 : Hid (Chg (0) (0) w2 v3) := zx hv3
    have t3 := X3.out.size
    have Ev3 := zq (Ew2.out.chg X3.out (by omega))
    clear qX0 qX1 qX2 qX3 qX4 qX5 qX6 qX7 qX8 qX9 qX10 jX
    replace KX := zq (KX.out.chg X3.out (by omega))
    clear hv3
    refine (CV.out _ (HAS.out _ (X1.out.ex_.trans (Y1.out.ex_.trans (X2.out.ex_.trans (Y2.out.ex_.trans X3.out.ex_))))) (HV.out.ex Ev3.out)).mono ?_; rintro r w3 ⟨rfl, hb3⟩
    have Y3 := zq (Chg.of_ex hb3)
    have s3 := Y3.out.size
    have Ew3 := zq (Ev3.out.chg Y3.out (by omega))
    clear hb3
    replace KX := zq (KX.out.chg Y3.out (by omega))
    obtain ⟨qX0, qX1, qX2, qX3, qX4, qX5, qX6, qX7, qX8, qX9, qX10⟩ := KX.out.c11
    have jX := KX.out.lt
    go_wp2
    go_ret
    exact ⟨rfl, Ew3.out⟩
  have HMO : Hid (MemOk m) := zq (memV_iff.1 hmv)
  rcases firstOf_cases (fun f : FrameD => !f.used) m.mach.table.frames with ⟨hfr, hall⟩ | ⟨i, f0, hfr, hf0, hu0, hall⟩
  · rw [freeOf_none (show freeF_ m.mach.table = -1 from hfr)] at CI CS
    rw [hmv] at CV
    dsimp only at CI CS
    have HUS : Hid (∀ (k : Nat) (f : FrameD), m.mach.table.frames[k]? = some f → f.used = true) := zq (fun k f h => by have := hall k f h; simpa using this)
    clear hmv hfr hall
    go_wp2_with fail
    refine name_calls ?_; intro v1 hv1
    have X1 : Hid (Chg (0) (0) w0 v1) := zx hv1
    have t1 := X1.out.size
    have Ev1 := zq (Ew0.out.chg X1.out (by omega))
    have KX : Hid (Blk v1 (w0.heap.size) 37 [.slice a.b m.mach.table.buckets.length a.bc, .slice a.f m.mach.table.frames.length a.fc, .slice a.l m.mach.cache.lines.length a.lc, .int .i64 m.mach.cache.hand, .int .i64 m.mach.tags.count, .int .i64 m.mach.tags.next, .int .i64 m.mach.tags.round, .slice a.o m.mach.tags.owns.length a.oc, .int .i64 m.mach.space, .slice K m.marks.length kc, .int .i64 m.hand]) := zk hv1
    have lX : w0.heap.size < v1.heap.size := KX.out.lt
    clear hv1
    refine (CI.out _ (HAS.out _ X1.out.ex_) (HV.out.ex Ev1.out)).mono ?_; rintro r w1 ⟨rfl, hb1⟩
    have Y1 := zq (Chg.of_ex hb1)
    have s1 := Y1.out.size
    have Ew1 := zq (Ev1.out.chg Y1.out (by omega))
    clear hb1
    replace KX := zq (KX.out.chg Y1.out (by omega))
    obtain ⟨qX0, qX1, qX2, qX3, qX4, qX5, qX6, qX7, qX8, qX9, qX10⟩ := KX.out.c11
    have jX := KX.out.lt
    go_wp2_with fail
    refine name_calls ?_; intro v2 hv2
    have X2 : Hid (Chg (0) (0) w1 v2) := zx hv2
    have t2 := X2.out.size
    have Ev2 := zq (Ew1.out.chg X2.out (by omega))
    clear qX0 qX1 qX2 qX3 qX4 qX5 qX6 qX7 qX8 qX9 qX10 jX
    replace KX := zq (KX.out.chg X2.out (by omega))
    clear hv2
    refine (CS.out _ (HAS.out _ (X1.out.ex_.trans (Y1.out.ex_.trans X2.out.ex_)))).mono ?_; rintro r w2 ⟨rfl, hb2⟩
    have Y2 := zq (Chg.of_ex hb2)
    have s2 := Y2.out.size
    have Ew2 := zq (Ev2.out.chg Y2.out (by omega))
    clear hb2
    replace KX := zq (KX.out.chg Y2.out (by omega))
    obtain ⟨qX0, qX1, qX2, qX3, qX4, qX5, qX6, qX7, qX8, qX9, qX10⟩ := KX.out.c11
    have jX := KX.out.lt
    go_wp2_with fail
    refine name_calls ?_; intro v3 hv3
    have X3 : Hid (Chg (0) (0) w2 v3) := zx hv3
    have t3 := X3.out.size
    have Ev3 := zq (Ew2.out.chg X3.out (by omega))
    clear qX0 qX1 qX2 qX3 qX4 qX5 qX6 qX7 qX8 qX9 qX10 jX
    replace KX := zq (KX.out.chg X3.out (by omega))
    clear hv3
    refine (CV.out _ (HAS.out _ (X1.out.ex_.trans (Y1.out.ex_.trans (X2.out.ex_.trans (Y2.out.ex_.trans X3.out.ex_))))) (HV.out.ex Ev3.out)).mono ?_; rintro r w3 ⟨rfl, hb3⟩
    have Y3 := zq (Chg.of_ex hb3)
    have s3 := Y3.out.size
    have Ew3 := zq (Ev3.out.chg Y3.out (by omega))
    clear hb3
    replace KX := zq (KX.out.chg Y3.out (by omega))
    obtain ⟨qX0, qX1, qX2, qX3, qX4, qX5, qX6, qX7, qX8, qX9, qX10⟩ := KX.out.c11
    have jX := KX.out.lt
    have HAS3 : Hid (∀ w', Ex w3 w' → HasE w' m a K) := zq (fun w' h => HAS.out _ (X1.out.ex_.trans (Y1.out.ex_.trans (X2.out.ex_.trans (Y2.out.ex_.trans (X3.out.ex_.trans (Y3.out.ex_.trans h)))))))
    have KXS := KX
    obtain ⟨nm, enm⟩ : ∃ n, n = m.marks.length := ⟨_, rfl⟩
    have HNM := zq enm
    have HNF : Hid (m.mach.table.frames.length = nm) := zq (by rw [enm]; exact HMO.out.2.1.symm)
    rw [← enm] at qX9
    have hnmb : nm ≤ 1048576 := by rw [enm]; exact HFW.out.k
    clear CI CS CV HAS enm
    clear qX0 qX1 qX2 qX3 qX4 qX5 qX6 qX7 qX8 qX9 qX10 jX
    clear KX
    go_wp2
    go_loopw [8] (fun q wr => ∃ k : Nat, k ≤ nm ∧ q = .int .i64 k ∧ Ex w3 wr) (fun q _ => nm - (intOf q).toNat)
    case atStart => exact ⟨0, Nat.zero_le _, rfl, Ex.refl _⟩
    case round =>
      obtain ⟨k, hk, rfl, hq⟩ := hrel
      have HQ := zq hq
      have KX := zq (KXS.out.ex hq)
      clear hq
      obtain ⟨q0, q1, q2, q3, q4, q5, q6, q7, q8, q9, q10⟩ := KX.out.c11
      have jX := KX.out.lt
      rw [← HNM.out] at q9
      by_cases hlt : k < nm
      · obtain ⟨b2, o2, f, hA2, hb2, hfk, d0, d1, d2, d3, d4⟩ := (HAS3.out _ HQ.out).m.f.frame (k := k) (by have := HNF.out; omega)
        rw [hA2] at q1
        have hkn : (k : Int) < (nm : Int) := by omega
        have hkf : (k : Int) < (m.mach.table.frames.length : Int) := by have := HNF.out; omega
        have hk0 : ¬ (k : Int) < 0 := by omega
        have hus := HUS.out k f hfk
        clear hA2 hfk d1 d2 d3 d4
        rw [hus] at d0
        clear hus
        go_wp2
        go_roundw
        case rel => exact ⟨k + 1, by omega, by go_num, HQ.out⟩
        case measure => simp [intOf]; omega
      · obtain rfl : k = nm := by omega
        go_wp2
        go_ret
        exact ⟨rfl, Ew3.out.trans HQ.out⟩
  rw [freeOf_at hmv (show freeF_ m.mach.table = (i : Int) from hfr)] at CI CS
  rw [hmv] at CV
  dsimp only at CI CS
  have HUS : Hid (∀ (k : Nat) (f : FrameD), m.mach.table.frames[k]? = some f → k < i → f.used = true) := zq (fun k f h hk => by have := hall k f hk h; simpa using this)
  have HIF : Hid (m.mach.table.frames[i]? = some f0 ∧ f0.used = false ∧ (m.marks[i]? = some true → False)) := zq ⟨hf0, by simpa using hu0, fun h => by
    have := HMO.out.2.2.2 i f0 h hf0
    rw [this] at hu0
    simp at hu0⟩
  clear hmv hfr hall hf0 hu0
  go_wp2_with fail
  refine name_calls ?_; intro v1 hv1
  have X1 : Hid (Chg (0) (0) w0 v1) := zx hv1
  have t1 := X1.out.size
  have Ev1 := zq (Ew0.out.chg X1.out (by omega))
  have KX : Hid (Blk v1 (w0.heap.size) 37 [.slice a.b m.mach.table.buckets.length a.bc, .slice a.f m.mach.table.frames.length a.fc, .slice a.l m.mach.cache.lines.length a.lc, .int .i64 m.mach.cache.hand, .int .i64 m.mach.tags.count, .int .i64 m.mach.tags.next, .int .i64 m.mach.tags.round, .slice a.o m.mach.tags.owns.length a.oc, .int .i64 m.mach.space, .slice K m.marks.length kc, .int .i64 m.hand]) := zk hv1
  have lX : w0.heap.size < v1.heap.size := KX.out.lt
  clear hv1
  refine (CI.out _ (HAS.out _ X1.out.ex_) (HV.out.ex Ev1.out)).mono ?_; rintro r w1 ⟨rfl, hb1⟩
  have Y1 := zq (Chg.of_ex hb1)
  have s1 := Y1.out.size
  have Ew1 := zq (Ev1.out.chg Y1.out (by omega))
  clear hb1
  replace KX := zq (KX.out.chg Y1.out (by omega))
  obtain ⟨qX0, qX1, qX2, qX3, qX4, qX5, qX6, qX7, qX8, qX9, qX10⟩ := KX.out.c11
  have jX := KX.out.lt
  go_wp2_with fail
  refine name_calls ?_; intro v2 hv2
  have X2 : Hid (Chg (0) (0) w1 v2) := zx hv2
  have t2 := X2.out.size
  have Ev2 := zq (Ew1.out.chg X2.out (by omega))
  clear qX0 qX1 qX2 qX3 qX4 qX5 qX6 qX7 qX8 qX9 qX10 jX
  replace KX := zq (KX.out.chg X2.out (by omega))
  clear hv2
  refine (CS.out _ (HAS.out _ (X1.out.ex_.trans (Y1.out.ex_.trans X2.out.ex_)))).mono ?_; rintro r w2 ⟨rfl, hb2⟩
  have Y2 := zq (Chg.of_ex hb2)
  have s2 := Y2.out.size
  have Ew2 := zq (Ev2.out.chg Y2.out (by omega))
  clear hb2
  replace KX := zq (KX.out.chg Y2.out (by omega))
  obtain ⟨qX0, qX1, qX2, qX3, qX4, qX5, qX6, qX7, qX8, qX9, qX10⟩ := KX.out.c11
  have jX := KX.out.lt
  go_wp2_with fail
  refine name_calls ?_; intro v3 hv3
  have X3 : Hid (Chg (0) (0) w2 v3) := zx hv3
  have t3 := X3.out.size
  have Ev3 := zq (Ew2.out.chg X3.out (by omega))
  clear qX0 qX1 qX2 qX3 qX4 qX5 qX6 qX7 qX8 qX9 qX10 jX
  replace KX := zq (KX.out.chg X3.out (by omega))
  clear hv3
  refine (CV.out _ (HAS.out _ (X1.out.ex_.trans (Y1.out.ex_.trans (X2.out.ex_.trans (Y2.out.ex_.trans X3.out.ex_))))) (HV.out.ex Ev3.out)).mono ?_; rintro r w3 ⟨rfl, hb3⟩
  have Y3 := zq (Chg.of_ex hb3)
  have s3 := Y3.out.size
  have Ew3 := zq (Ev3.out.chg Y3.out (by omega))
  clear hb3
  replace KX := zq (KX.out.chg Y3.out (by omega))
  obtain ⟨qX0, qX1, qX2, qX3, qX4, qX5, qX6, qX7, qX8, qX9, qX10⟩ := KX.out.c11
  have jX := KX.out.lt
  have HAS3 : Hid (∀ w', Ex w3 w' → HasE w' m a K) := zq (fun w' h => HAS.out _ (X1.out.ex_.trans (Y1.out.ex_.trans (X2.out.ex_.trans (Y2.out.ex_.trans (X3.out.ex_.trans (Y3.out.ex_.trans h)))))))
  have KXS := KX
  obtain ⟨nm, enm⟩ : ∃ n, n = m.marks.length := ⟨_, rfl⟩
  have HNM := zq enm
  have HNF : Hid (m.mach.table.frames.length = nm) := zq (by rw [enm]; exact HMO.out.2.1.symm)
  rw [← enm] at qX9
  have hnmb : nm ≤ 1048576 := by rw [enm]; exact HFW.out.k
  clear CI CS CV HAS enm
  clear qX0 qX1 qX2 qX3 qX4 qX5 qX6 qX7 qX8 qX9 qX10 jX
  clear KX
  go_wp2
  go_loopw [8] (fun q wr => ∃ k : Nat, k ≤ nm ∧ q = .int .i64 k ∧ Ex w3 wr) (fun q _ => nm - (intOf q).toNat)
  case atStart => exact ⟨0, Nat.zero_le _, rfl, Ex.refl _⟩
  case round =>
    obtain ⟨k, hk, rfl, hq⟩ := hrel
    have HQ := zq hq
    have KX := zq (KXS.out.ex hq)
    clear hq
    obtain ⟨q0, q1, q2, q3, q4, q5, q6, q7, q8, q9, q10⟩ := KX.out.c11
    have jX := KX.out.lt
    rw [← HNM.out] at q9
    by_cases hlt : k < nm
    · obtain ⟨b2, o2, f, hA2, hb2, hfk, d0, d1, d2, d3, d4⟩ := (HAS3.out _ HQ.out).m.f.frame (k := k) (by have := HNF.out; omega)
      rw [hA2] at q1
      have hkn : (k : Int) < (nm : Int) := by omega
      have hkf : (k : Int) < (m.mach.table.frames.length : Int) := by have := HNF.out; omega
      have hk0 : ¬ (k : Int) < 0 := by omega
      have hus := HUS.out k f hfk
      clear hA2 hfk d1 d2 d3 d4
      cases hu : f.used
      · have hik : ¬ (k : Int) < (i : Int) := by
          intro hc
          have := hus (by omega)
          rw [hu] at this
          cases this
        have hik2 : ¬ k < i := by omega
        have hik3 : i ≤ k := by omega
        rw [hu] at d0
        clear hu hus
        go_wp2
        go_roundw
        case rel => exact ⟨k + 1, by omega, by go_num, HQ.out⟩
        case measure => simp [intOf]; omega
      · rw [hu] at d0
        clear hu hus
        go_wp2
        go_roundw
        case rel => exact ⟨k + 1, by omega, by go_num, HQ.out⟩
        case measure => simp [intOf]; omega
    · obtain rfl : k = nm := by omega
      obtain ⟨b2, o2, f, hA2, hb2, hfk, d0, d1, d2, d3, d4⟩ := (HAS3.out _ HQ.out).m.f.frame (k := i) (getElem?_lt HIF.out.1)
      obtain rfl : f = f0 := by rw [HIF.out.1] at hfk; injection hfk with e; exact e.symm
      rw [hA2] at q1
      rw [HIF.out.2.1] at d0
      obtain ⟨b3, o3, v, hA3, hb3, hvk, e0⟩ := (HAS3.out _ HQ.out).k.bool (k := i) (by have := getElem?_lt HIF.out.1; have := HNF.out; have := HNM.out; omega)
      rw [hA3] at q9
      have hv0 : v = false := by
        cases v
        · rfl
        · have := HIF.out.2.2 hvk; cases this
      rw [hv0] at e0
      have hin : (i : Int) < (m.mach.table.frames.length : Int) := by have := getElem?_lt HIF.out.1; omega
      have hin2 : (i : Int) < (k : Int) := by have := getElem?_lt HIF.out.1; have := HNF.out; omega
      have hi0 : ¬ (i : Int) < 0 := by omega
      clear hA2 hA3 hfk hvk hv0 d1 d2 d3 d4
      go_wp2
      go_ret
      exact ⟨rfl, Ew3.out.trans HQ.out⟩
end Go.Proofs.YtbdlpbladpppjaaGreatDoor
namespace Go.Proofs.YtbdlpbladpppjaaGreatDoor
open Go.ChangeShapes Go.WideShapes Go.ChangeAt Go.WideMaps Go.WideElems Go.RowKit
open Rec (sz cs)
set_option linter.unusedVariables false
set_option maxRecDepth 100000

def laidL {H : Type} : List (String × DataW H) := [("loop.example/invertedpages/impl.free", Rows.laid_loop_example_invertedpages_impl_free)]
theorem gFree : Tryz.prog.globalNamed "loop.example/invertedpages/impl.free" = some 0 := by kernel_rfl
theorem tFree : (Tryz.prog.globals[0]?).map (·.type) = some 45 := by kernel_rfl

/-- The door's own heap meets the condition. -/
theorem door_met (os : Os) (args : Array Value) : laidMetH Tryz.prog laidL ((World.doorLaid Tryz.prog 14 os).forCall (fun _ _ => 0) ⟨#[], args, []⟩).memory :=
  laidMetH_of_parts3 (fuel := 8) (laidMet_of_run' 8 (by kernel_rfl) (by kernel_rfl)) (by kernel_rfl) (by kernel_rfl)

theorem fields_door {H : Type} {enc : TypeId × Value → H} {P : Program} {w : World} {base : Nat} {spare : Nat → Bool} {held : Bool} {t : TypeId} {fs : Array Field} {fuel : Nat} {cs : List Value} {x : DataW H × List MemPlace} (ht : P.underlying t = some (.struct fs)) (h : DataW.trod enc P w base spare held fuel t cs = some x) :
    ∃ xs : List (DataW H × List MemPlace), x.1 = .agg (xs.map (·.1)) ∧ cs.length = P.cellsOf t ∧ xs.length = fs.size ∧ ∃ n, ∀ (j : Nat) (f : Field), fs[j]? = some f → DataW.trod enc P w base spare held n f.type ((cs.drop f.offset).take (P.cellsOf f.type)) = xs[j]? := by
  obtain ⟨xs, n, _, e, hl, hlen, hf⟩ := DataW.trod_struct ht h
  exact ⟨xs, by rw [e], hl, hlen, n, hf⟩

theorem free_of_laid {W : World} (h : laidMetH Tryz.prog laidL W) : FreeV W := by
  rw [MakeChecks.laidMetH_plain _ _ _ (by kernel_rfl)] at h
  obtain ⟨ps, ⟨g0, t0, cs0, f0, p0, q0, hg0, ht0, hv0, hd0, _, _⟩, _, _⟩ := h
  obtain rfl := Option.some.inj (gFree.symm.trans hg0)
  obtain rfl := Option.some.inj (tFree.symm.trans ht0)
  obtain ⟨xs, hx, hl, hlen, n, hf⟩ := fields_door Tryz.underlying45 hd0
  have k1 : Tryz.prog.cellsOf 3 = 1 := by kernel_rfl
  have k2 : Tryz.prog.cellsOf 4 = 1 := by kernel_rfl
  have k3 : Tryz.prog.cellsOf 43 = 2 := by kernel_rfl
  have k4 : Tryz.prog.cellsOf 45 = 5 := by kernel_rfl
  rw [k4] at hl
  have hcell : ∀ j, W.cell? ⟨0, j, none⟩ = cs0[j]? := fun j => World.var?_cell hg0 hv0 j
  have hcl : ∀ j, cs0[j]? = cs0.toList[j]? := fun j => Array.getElem?_toList.symm
  match hcs : cs0.toList, hl, xs, hlen, hx, hf with
  | [v0, v1, v2, v3, v4], _, [x0, x1, x2, x3], _, hx, hf =>
    have h0 := hf 0 _ rfl
    have h1 := hf 1 _ rfl
    have h2 := hf 2 _ rfl
    have h3 := hf 3 _ rfl
    simp [k1, k2, k3] at h0 h1 h2 h3
    simp only [Rows.laid_loop_example_invertedpages_impl_free, List.map_cons, List.map_nil, DataW.agg.injEq, List.cons.injEq, and_true] at hx
    obtain ⟨e0, e1, e2, e3⟩ := hx
    obtain ⟨b0, c0, d0⟩ := DataW.trod_bool Tryz.underlying4 h0
    obtain ⟨n2, c2, d2, _⟩ := DataW.trod_int Tryz.underlying3 h2
    obtain ⟨n3, c3, d3, _⟩ := DataW.trod_int Tryz.underlying3 h3
    obtain ⟨ys, hy, hyl, hylen, m, hg⟩ := fields_door Tryz.underlying43 h1
    match ys, hylen, hy, hg with
    | [y0, y1], _, hy, hg =>
      have g0 := hg 0 _ rfl
      have g1 := hg 1 _ rfl
      simp [k1] at g0 g1
      obtain ⟨m0, c4, d4, _⟩ := DataW.trod_int Tryz.underlying3 g0
      obtain ⟨m1, c5, d5, _⟩ := DataW.trod_int Tryz.underlying3 g1
      rw [hy] at e1
      simp only [List.map_cons, List.map_nil, DataW.agg.injEq, List.cons.injEq, and_true] at e1
      rw [d0] at e0
      rw [d2] at e2
      rw [d3] at e3
      rw [d4, d5] at e1
      simp at e0 e1 e2 e3 c0 c2 c3 c4 c5
      have z0 : W.cell? ⟨0, 0, none⟩ = some (.bool false) := by rw [hcell, hcl, hcs]; simp_all
      refine ⟨block_lt_of_cell z0, z0, ?_, ?_, ?_, ?_⟩
      · rw [hcell, hcl, hcs]; first | (simp_all; done) | (simp_all; omega)
      · rw [hcell, hcl, hcs]; first | (simp_all; done) | (simp_all; omega)
      · rw [hcell, hcl, hcs]; first | (simp_all; done) | (simp_all; omega)
      · rw [hcell, hcl, hcs]; first | (simp_all; done) | (simp_all; omega)
end Go.Proofs.YtbdlpbladpppjaaGreatDoor
namespace Go.Proofs.YtbdlpbladpppjaaGreatDoor
open Go.ChangeShapes Go.WideShapes Go.ChangeAt Go.RowKit
open Rec (sz cs)
set_option linter.unusedVariables false
set_option maxRecDepth 100000
section
variable {H : Type} {enc : TypeId × Value → H} {w : World} {base b0 : Nat} {spare : Nat → Bool} {held : Bool} {r : Reach}
theorem byte_wf {n : Int} (h : (Lit.int .u8 n).wf = true) : 0 ≤ n ∧ n ≤ 255 := by
  have := bounds_u8 h
  omega
theorem open_bytes {v : Value} {d : DataW H} {p : List MemPlace} (hv : Value.okWide Tryz.prog w r b0 22 v) (h : DataW.Trod enc Tryz.prog w base spare held 22 v d p) :
    ∃ (A : Option Addr) (n c : Nat) (xs : List ByteD), v = .slice A n c ∧ Rd w A xs ∧ (Bytes xs ∧ xs.length = n ∧ n ≤ c ∧ c ≤ maxLen) := by
  obtain ⟨a0, len, cap, rfl⟩ := okWide_slice Tryz.underlying22 hv
  obtain ⟨fuel, hf⟩ := h
  rcases open_ints Tryz.underlying22 Tryz.underlying5 (by kernel_rfl) hf with ⟨hcs, _⟩ | ⟨x, l, c, zs, hcs, _, hl, hm, hz, _, hcell, hwz⟩
  · simp [Value.cells] at hcs
    obtain ⟨rfl, rfl, rfl⟩ := hcs
    exact ⟨none, 0, 0, [], rfl, Rd.nil _ _, by intro b hb; simp at hb, rfl, Nat.le_refl _, Nat.zero_le _⟩
  · simp [Value.cells] at hcs
    obtain ⟨rfl, rfl, rfl⟩ := hcs
    have hzl : len ≤ zs.length := by rw [hz]; split <;> omega
    obtain ⟨xs, hx, hr⟩ := rd_build (α := ByteD) (w := w) x len (fun i hi => ⟨⟨zs.getD i 0⟩, fun j u hu => by
      match j, hu with
      | 0, hu =>
        simp [cs] at hu
        subst hu
        have := hcell i (by omega)
        show w.cell? (x.add (i * 1 + 0)) = _
        rw [Nat.mul_one, Nat.add_zero]
        exact this
      | j + 1, hu => simp [cs] at hu⟩)
    refine ⟨some x, len, cap, xs, rfl, hr, ?_, hx, hl, hm⟩
    intro b hb
    obtain ⟨i, hi, rfl⟩ := List.getElem_of_mem hb
    obtain ⟨b', o', y, e, _, hy, hc⟩ := Rd.byte hr (k := i) hi
    injection e with e
    subst e
    have h2 := hcell i (by omega)
    have ha : (⟨b', o', none⟩ : Addr).add i = ⟨b', o' + i, none⟩ := by unfold Addr.add; split <;> simp_all
    rw [ha, hc] at h2
    injection h2 with h2
    injection h2 with _ h2
    rw [List.getElem?_eq_getElem hi] at hy
    injection hy with hy
    rw [hy, h2]
    have hmem : zs.getD i 0 ∈ zs := by
      rw [List.getD_eq_getElem?_getD, List.getElem?_eq_getElem (by omega)]
      exact List.getElem_mem _
    exact byte_wf (hwz _ hmem)
end
end Go.Proofs.YtbdlpbladpppjaaGreatDoor
/- Whatever the code, the law FnFreeFrame returns true, and its argument and the listed variable read as before; the variable starts as the program lays it (tied). -/
namespace Go.Proofs.YtbdlpbladpppjaaGreatDoor
open Go.ChangeShapes Go.WideShapes Go.ChangeAt Go.WideMaps Go.WideElems Go.RowKit
set_option linter.unusedVariables false

set_option maxRecDepth 100000 in
theorem lifted_FnFreeFrame (os : Os) (started : os.Started) (H : Type) (enc : TypeId × Value → H) :
    ReturnsInHanded {} Tryz.checked os 3 .any (fun w args => (Rows.fnFreeFrameSpec.pre enc Tryz.prog Tryz.f3 [] false w args ∧ laidMetH Tryz.prog laidL w) ∧ sizedMet enc Tryz.prog Tryz.f3 (OpenSpec.ofChange Rows.fnFreeFrameSpec) false w args)
      (Rows.fnFreeFrameSpec.post enc Tryz.prog Tryz.f3 false true false false) := by
  refine returnsInHanded_of_change_and (C := Tryz.checked) (X := fun w _ => laidMetH Tryz.prog laidL w) (fun _ _ _ hh h => h.of_heap hh) ownRow started (by kernel_rfl) Tryz.func3
    (ChangeSpec.witness_shaped (enc := enc) (C := Tryz.checked) (os := os) (X := fun w _ => laidMetH Tryz.prog laidL w) false (World.doorLaid Tryz.prog 14 os) #[.slice none 0 0] 8 rfl (World.shaped_of_RefB (by kernel_rfl) (by kernel_rfl)) (by kernel_rfl) (by kernel_rfl) (by kernel_rfl) (door_met os _)) ?_
  intro W base args ds gs before hval0 hW _ _ hL _
  have hFV := free_of_laid hL
  have hval : ∀ (j : Nat) t v, Tryz.f3.params[j]? = some t → args[j]? = some v → Value.okWide Tryz.prog W .any base t v := hval0
  have hW' := hW
  obtain ⟨p, q, hA0, hV, rfl, hfz, hnd⟩ := hW
  have hA : DataW.TrodAll enc Tryz.prog W 0 (fun _ => true) true Tryz.f3.params.toList args.toList ds p := hA0
  rw [Tryz.params3] at hA hval
  obtain ⟨v0, vs0, d0, ds0, p0, q0, hargs, rfl, rfl, h0, r0⟩ := trodAll_cons hA
  obtain ⟨rfl, rfl, rfl⟩ := trodAll_nil r0
  obtain rfl : args = #[v0] := by cases args; simp_all
  obtain ⟨g9, t9, cs9, fuel9, d9, p9, rfl, -, -, -, -, -⟩ := trodVars_one (show DataW.TrodVars enc Tryz.prog W (fun _ => true) ["loop.example/invertedpages/impl.free"] gs q from hV)
  have k0 := h0
  have lt0 : ∀ x ∈ p0, x.block < W.heap.size := by obtain ⟨m, hm⟩ := k0; exact DataW.trod_lt m _ _ _ hm
  obtain ⟨A0, n0, c0, xs0, rfl, hr0, hc0⟩ := open_bytes (hval 0 22 v0 rfl rfl) h0
  clear hA0 hval0
  refine (walk_FnFreeFrame A0 n0 c0 xs0 W hr0 hc0 hFV).mono fun e W' ⟨he, bel⟩ => ?_
  subst he
  exact ⟨_, rfl, _, _, _, [], _, _, hW', trodAll_mk1 (shut_bool Tryz.underlying4 _), (trodAll_cons_mk (Below.trod laidOutRow (by kernel_rfl) (of_decide_eq_true (by kernel_rfl)) k0 bel lt0) trodAll_mk0), Below.trodVars laidOutRow bel (by kernel_rfl) hV, Below.frame bel _, fun h => by cases h⟩

theorem name_FnFreeFrame : Tryz.checked.prog.funcNamed Rows.fnFreeFrameRow.func = some 3 := by kernel_rfl
theorem closed_FnFreeFrame : joinedFacts Tryz.checked.prog 3 Tryz.f3 Rows.fnFreeFrameSpec Rows.fnFreeFrameRow = true := by
  simp only [joinedFacts, Bool.and_eq_true]
  refine ⟨⟨⟨⟨⟨⟨⟨⟨⟨⟨⟨⟨⟨⟨⟨⟨⟨⟨⟨⟨⟨⟨⟨⟨⟨⟨⟨⟨⟨⟨⟨?_, laidOutRow⟩, progMaps⟩, ?_⟩, ?_⟩, ?_⟩, ?_⟩, ?_⟩, ?_⟩, ?_⟩, ?_⟩, ?_⟩, ?_⟩, ?_⟩, ?_⟩, ?_⟩, ?_⟩, ?_⟩, ?_⟩, ?_⟩, ?_⟩, ?_⟩, ?_⟩, ?_⟩, progHeard⟩, progEnter⟩, (beq_iff_eq.2 progFinal.symm)⟩, (beq_iff_eq.2 progMake)⟩, ?_⟩, ?_⟩, ?_⟩, ?_⟩
  all_goals as_aux_lemma => kernel_rfl
theorem over_FnFreeFrame : Rows.fnFreeFrameRow.holds Tryz.pinned (OpenSpec.ofChange Rows.fnFreeFrameSpec) :=
  OpenClaim.holds_of_wide 3 Tryz.f3 rfl rfl rfl rfl rfl rfl rfl ⟨rfl, rfl, rfl, rfl, rfl⟩ rfl rfl rfl rfl rfl name_FnFreeFrame Tryz.func3 closed_FnFreeFrame
    (of_decide_eq_true (by kernel_rfl)) (by unfold Func.isWrapper; first | (rw [if_pos (by decide +kernel)]; kernel_rfl) | (rw [if_neg (by decide +kernel)]; exact ⟨rfl, rfl⟩))
    (fun os started H enc _ => lifted_FnFreeFrame os started H enc)

theorem FnFreeFrame_proved : Rows.FnFreeFrameCardSaid :=
  Claim7.holds_tied_plain_at .later [] [.data] true (true, "0746fc808238edcdf8a8dd39f9a16ee733ae8353f140ad760e628fd274d32408") false
    over_FnFreeFrame (fun _ h => by cases h) (by kernel_rfl) (fun _ h => by cases h) fnFreeFrame_row_tie rfl ⟨rfl, rfl⟩ (by kernel_rfl) rfl
    (fun f fn hf hfn => by
      obtain rfl : f = 3 := Option.some.inj (name_FnFreeFrame.symm.trans hf) |>.symm
      obtain rfl : fn = Tryz.f3 := (Option.some.inj (Tryz.func3.symm.trans hfn)).symm
      exact ⟨by kernel_rfl, fun j t ht => by
        rw [Tryz.params3] at ht
        have hm : t ∈ [22] := by have := Array.mem_of_getElem? ht; simpa using this
        have hall : ([22].all fun u => !Tryz.prog.wantsStandIn u) = true := by kernel_rfl
        exact (show Tryz.prog.wantsStandIn t = false by simpa using List.all_eq_true.1 hall t hm)⟩)
    (by kernel_rfl)
#print axioms FnFreeFrame_proved
end Go.Proofs.YtbdlpbladpppjaaGreatDoor
