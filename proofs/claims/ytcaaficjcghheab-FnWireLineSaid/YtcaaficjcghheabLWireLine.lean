/- The law FnWireLine: the walk. -/
import Derived.Test.YtcaaficjcghheabDg
import Derived.Test.YtcaaficjcghheabLh
import Derived.Test.YtcaaficjcghheabCo
import Derived.Deep.RegionHeld3
import Derived.Deep.DeepCutAuto
namespace Go.Proofs.Ytcaaficjcghheab
open Go.ChangeShapes Go.WideShapes Go.ChangeAt Go.RowKit
open Rec (sz cs)
set_option linter.unusedVariables false
set_option maxRecDepth 100000

set_option maxHeartbeats 16000000 in
theorem walk_FnWireLine (A : Option Addr) (n c : Nat) (bs : List ByteD) (w : World) (hr : Rd w A bs) (hc : Bytes bs ∧ bs.length = n ∧ n ≤ c ∧ c ≤ maxLen) :
    Calls Try.prog 5 #[.slice A n c] w fun r w' => r = .returned (.bool true) ∧ Ex w w' := by
  obtain ⟨hb, rfl, hnc, hcm⟩ := hc
  by_cases hbig : 1048576 < bs.length
  · have hbig' : (1048576 : Int) < (bs.length : Int) := by omega
    unfold maxLen at hcm
    generalize bs.length = n at *
    go_enter Try.func5, Try.ntmps5
    go_wp2
    go_ret
    exact ⟨rfl, Ex.refl _⟩
  have hsm : ¬ (1048576 : Int) < (bs.length : Int) := by omega
  have C0 := Lib.hid (fun w' (h : Ex w w') => drawWireLine_c A c bs w' (hr.ex h) hb (by omega) hnc hcm)
  have hcm' := hcm
  unfold maxLen at hcm'
  generalize bs.length = n at *
  clear hr hb hcm
  go_enter Try.func5, Try.ntmps5
  go_wp2_with fail
  refine name_calls ?_; intro v0 hv0
  have X0 : Hid (Chg (0) (0) w v0) := Lib.hid (by rw [hv0]; repeat' (first | with_reducible exact Chg.refl _ _ _ | with_reducible refine Chg.alloc ?_ _ | with_reducible refine Chg.drew ?_ | with_reducible refine Chg.set ?_ (by omega) _))
  have t0 : w.heap.size ≤ v0.heap.size := X0.out.size
  have Ev0 : Hid (Ex w v0) := Lib.hid ((Ex.refl w).chg X0.out (by omega))
  clear hv0
  refine (C0.out _ Ev0.out).mono ?_; rintro r w0 ⟨t, p, b, A0, c0, rfl, hww, hf0, hb0⟩
  have Y0 : Hid (Chg 0 0 v0 w0) := Lib.hid (Chg.of_ex hb0)
  have s0 : v0.heap.size ≤ w0.heap.size := Y0.out.size
  have Ew0 : Hid (Ex w w0) := Lib.hid (Ev0.out.chg Y0.out (by omega))
  clear hb0
  have HF0 := Lib.hid hf0; clear hf0
  have WHF0 := Lib.hid HF0.out.row
  have hn : t.lines.length ≤ 1048576 := by have := hww.1; omega
  have HWW := Lib.hid hww
  have C1 := Lib.hid (wireI_c t p b)
  have C2 := Lib.hid (wireS_c t p b)
  have hfew := wire_few t p b hn
  have HOK : Hid (∀ u, wireLine t p b = (u, true) → ∃ (k : Nat) (x : LineD), p = (k : Int) ∧ Wired t k b u x) := Lib.hid (fun u h => wire_ok h)
  generalize wireLine t p b = q at C1 C2 hfew HOK
  obtain ⟨u, ok⟩ := q
  dsimp only at C1 C2 hfew
  clear hww C0
  cases ok
  · skip
    go_wp2_with fail
    refine name_calls ?_; intro v1 hv1
    have X1 : Hid (Chg (0) (0) w0 v1) := Lib.hid (by rw [hv1]; repeat' (first | with_reducible exact Chg.refl _ _ _ | with_reducible refine Chg.alloc ?_ _ | with_reducible refine Chg.drew ?_ | with_reducible refine Chg.set ?_ (by omega) _))
    have t1 : w0.heap.size ≤ v1.heap.size := X1.out.size
    have Ev1 : Hid (Ex w v1) := Lib.hid (Ew0.out.chg X1.out (by omega))
    replace HF0 := Lib.hid (HF0.out.chg X1.out WHF0.out (by omega))
    have KC : Hid (Blk v1 (w0.heap.size) 25 [.slice A0 t.lines.length c0, .int .i64 t.hand]) := Lib.hid (by rw [hv1]; repeat' (first | with_reducible exact Blk.new_at _ _ _ (by simp) | with_reducible refine Blk.alloc ?_ _ | with_reducible refine Blk.drew ?_ | with_reducible refine Blk.far ?_ (by simp; omega) _))
    have lC : w0.heap.size < v1.heap.size := KC.out.lt
    clear hv1
    refine (C1.out _ c0 _ HF0.out.rd hn HF0.out.le HF0.out.cap).mono ?_; rintro r w1 ⟨A1, c1, rfl, hf1, hb1⟩
    have Y1 : Hid (Chg 0 0 v1 w1) := Lib.hid (Chg.of_ex hb1)
    have s1 : v1.heap.size ≤ w1.heap.size := Y1.out.size
    have Ew1 : Hid (Ex w w1) := Lib.hid (Ev1.out.chg Y1.out (by omega))
    clear hb1
    replace KC : Hid (Blk w1 (w0.heap.size) 25 [.slice A0 t.lines.length c0, .int .i64 t.hand]) := Lib.hid (KC.out.chg Y1.out (by omega))
    replace HF0 := Lib.hid (HF0.out.chg Y1.out WHF0.out (by omega))
    have HF1 := Lib.hid hf1; clear hf1
    have WHF1 := Lib.hid HF1.out.row
    obtain ⟨qC0, qC1⟩ := KC.out.c2
    have jC := KC.out.lt
    go_wp2_with fail
    refine name_calls ?_; intro v2 hv2
    have X2 : Hid (Chg (0) (0) w1 v2) := Lib.hid (by rw [hv2]; repeat' (first | with_reducible exact Chg.refl _ _ _ | with_reducible refine Chg.alloc ?_ _ | with_reducible refine Chg.drew ?_ | with_reducible refine Chg.set ?_ (by omega) _))
    have t2 : w1.heap.size ≤ v2.heap.size := X2.out.size
    have Ev2 : Hid (Ex w v2) := Lib.hid (Ew1.out.chg X2.out (by omega))
    clear qC0 qC1 jC
    replace KC : Hid (Blk v2 (w0.heap.size) 25 [.slice A0 t.lines.length c0, .int .i64 t.hand]) := Lib.hid (KC.out.chg X2.out (by omega))
    replace HF0 := Lib.hid (HF0.out.chg X2.out WHF0.out (by omega))
    replace HF1 := Lib.hid (HF1.out.chg X2.out WHF1.out (by omega))
    have KD : Hid (Blk v2 (w1.heap.size) 25 [.slice A1 u.lines.length c1, .int .i64 u.hand]) := Lib.hid (by rw [hv2]; repeat' (first | with_reducible exact Blk.new_at _ _ _ (by simp) | with_reducible refine Blk.alloc ?_ _ | with_reducible refine Blk.drew ?_ | with_reducible refine Blk.far ?_ (by simp; omega) _))
    have lD : w1.heap.size < v2.heap.size := KD.out.lt
    clear hv2
    refine (C2.out _ c0 _ HF0.out.rd hn HF0.out.le HF0.out.cap).mono ?_; rintro r w2 ⟨A2, c2, rfl, hf2, hb2⟩
    have Y2 : Hid (Chg 0 0 v2 w2) := Lib.hid (Chg.of_ex hb2)
    have s2 : v2.heap.size ≤ w2.heap.size := Y2.out.size
    have Ew2 : Hid (Ex w w2) := Lib.hid (Ev2.out.chg Y2.out (by omega))
    clear hb2
    replace KC : Hid (Blk w2 (w0.heap.size) 25 [.slice A0 t.lines.length c0, .int .i64 t.hand]) := Lib.hid (KC.out.chg Y2.out (by omega))
    replace KD : Hid (Blk w2 (w1.heap.size) 25 [.slice A1 u.lines.length c1, .int .i64 u.hand]) := Lib.hid (KD.out.chg Y2.out (by omega))
    replace HF0 := Lib.hid (HF0.out.chg Y2.out WHF0.out (by omega))
    replace HF1 := Lib.hid (HF1.out.chg Y2.out WHF1.out (by omega))
    have HF2 := Lib.hid hf2; clear hf2
    have WHF2 := Lib.hid HF2.out.row
    obtain ⟨qC0, qC1⟩ := KC.out.c2
    have jC := KC.out.lt
    obtain ⟨qD0, qD1⟩ := KD.out.c2
    have jD := KD.out.lt
    go_wp2_with fail
    refine name_calls ?_; intro v3 hv3
    have X3 : Hid (Chg (0) (0) w2 v3) := Lib.hid (by rw [hv3]; repeat' (first | with_reducible exact Chg.refl _ _ _ | with_reducible refine Chg.alloc ?_ _ | with_reducible refine Chg.drew ?_ | with_reducible refine Chg.set ?_ (by omega) _))
    have t3 : w2.heap.size ≤ v3.heap.size := X3.out.size
    have Ev3 : Hid (Ex w v3) := Lib.hid (Ew2.out.chg X3.out (by omega))
    clear qC0 qC1 jC
    clear qD0 qD1 jD
    replace KC : Hid (Blk v3 (w0.heap.size) 25 [.slice A0 t.lines.length c0, .int .i64 t.hand]) := Lib.hid (KC.out.chg X3.out (by omega))
    replace KD : Hid (Blk v3 (w1.heap.size) 25 [.slice A1 u.lines.length c1, .int .i64 u.hand]) := Lib.hid (KD.out.chg X3.out (by omega))
    replace HF0 := Lib.hid (HF0.out.chg X3.out WHF0.out (by omega))
    replace HF1 := Lib.hid (HF1.out.chg X3.out WHF1.out (by omega))
    replace HF2 := Lib.hid (HF2.out.chg X3.out WHF2.out (by omega))
    have KW : Hid (Blk v3 (w2.heap.size) 25 [.slice A2 u.lines.length c2, .int .i64 u.hand]) := Lib.hid (by rw [hv3]; repeat' (first | with_reducible exact Blk.new_at _ _ _ (by simp) | with_reducible refine Blk.alloc ?_ _ | with_reducible refine Blk.drew ?_ | with_reducible refine Blk.far ?_ (by simp; omega) _))
    have lW : w2.heap.size < v3.heap.size := KW.out.lt
    clear hv3
    refine (cacheSameI_c u u _ _ _ _ _ HF1.out.rd HF2.out.rd hfew hfew).mono ?_; rintro r w3 ⟨rfl, hb3⟩
    have Y3 : Hid (Chg 0 0 v3 w3) := Lib.hid (Chg.of_ex hb3)
    have s3 : v3.heap.size ≤ w3.heap.size := Y3.out.size
    have Ew3 : Hid (Ex w w3) := Lib.hid (Ev3.out.chg Y3.out (by omega))
    clear hb3
    replace KC : Hid (Blk w3 (w0.heap.size) 25 [.slice A0 t.lines.length c0, .int .i64 t.hand]) := Lib.hid (KC.out.chg Y3.out (by omega))
    replace KD : Hid (Blk w3 (w1.heap.size) 25 [.slice A1 u.lines.length c1, .int .i64 u.hand]) := Lib.hid (KD.out.chg Y3.out (by omega))
    replace KW : Hid (Blk w3 (w2.heap.size) 25 [.slice A2 u.lines.length c2, .int .i64 u.hand]) := Lib.hid (KW.out.chg Y3.out (by omega))
    replace HF0 := Lib.hid (HF0.out.chg Y3.out WHF0.out (by omega))
    replace HF1 := Lib.hid (HF1.out.chg Y3.out WHF1.out (by omega))
    replace HF2 := Lib.hid (HF2.out.chg Y3.out WHF2.out (by omega))
    obtain ⟨qC0, qC1⟩ := KC.out.c2
    have jC := KC.out.lt
    obtain ⟨qD0, qD1⟩ := KD.out.c2
    have jD := KD.out.lt
    obtain ⟨qW0, qW1⟩ := KW.out.c2
    have jW := KW.out.lt
    rw [eqB_self]
    go_wp2_with fail
    refine name_calls ?_; intro v4 hv4
    have X4 : Hid (Chg (0) (0) w3 v4) := Lib.hid (by rw [hv4]; repeat' (first | with_reducible exact Chg.refl _ _ _ | with_reducible refine Chg.alloc ?_ _ | with_reducible refine Chg.drew ?_ | with_reducible refine Chg.set ?_ (by omega) _))
    have t4 : w3.heap.size ≤ v4.heap.size := X4.out.size
    have Ev4 : Hid (Ex w v4) := Lib.hid (Ew3.out.chg X4.out (by omega))
    clear qC0 qC1 jC
    clear qD0 qD1 jD
    clear qW0 qW1 jW
    replace KC : Hid (Blk v4 (w0.heap.size) 25 [.slice A0 t.lines.length c0, .int .i64 t.hand]) := Lib.hid (KC.out.chg X4.out (by omega))
    replace KD : Hid (Blk v4 (w1.heap.size) 25 [.slice A1 u.lines.length c1, .int .i64 u.hand]) := Lib.hid (KD.out.chg X4.out (by omega))
    replace KW : Hid (Blk v4 (w2.heap.size) 25 [.slice A2 u.lines.length c2, .int .i64 u.hand]) := Lib.hid (KW.out.chg X4.out (by omega))
    replace HF0 := Lib.hid (HF0.out.chg X4.out WHF0.out (by omega))
    replace HF1 := Lib.hid (HF1.out.chg X4.out WHF1.out (by omega))
    replace HF2 := Lib.hid (HF2.out.chg X4.out WHF2.out (by omega))
    clear hv4
    refine (cacheSameI_c u u _ _ _ _ _ HF1.out.rd HF2.out.rd hfew hfew).mono ?_; rintro r w4 ⟨rfl, hb4⟩
    have Y4 : Hid (Chg 0 0 v4 w4) := Lib.hid (Chg.of_ex hb4)
    have s4 : v4.heap.size ≤ w4.heap.size := Y4.out.size
    have Ew4 : Hid (Ex w w4) := Lib.hid (Ev4.out.chg Y4.out (by omega))
    clear hb4
    replace KC : Hid (Blk w4 (w0.heap.size) 25 [.slice A0 t.lines.length c0, .int .i64 t.hand]) := Lib.hid (KC.out.chg Y4.out (by omega))
    replace KD : Hid (Blk w4 (w1.heap.size) 25 [.slice A1 u.lines.length c1, .int .i64 u.hand]) := Lib.hid (KD.out.chg Y4.out (by omega))
    replace KW : Hid (Blk w4 (w2.heap.size) 25 [.slice A2 u.lines.length c2, .int .i64 u.hand]) := Lib.hid (KW.out.chg Y4.out (by omega))
    replace HF0 := Lib.hid (HF0.out.chg Y4.out WHF0.out (by omega))
    replace HF1 := Lib.hid (HF1.out.chg Y4.out WHF1.out (by omega))
    replace HF2 := Lib.hid (HF2.out.chg Y4.out WHF2.out (by omega))
    obtain ⟨qC0, qC1⟩ := KC.out.c2
    have jC := KC.out.lt
    obtain ⟨qD0, qD1⟩ := KD.out.c2
    have jD := KD.out.lt
    obtain ⟨qW0, qW1⟩ := KW.out.c2
    have jW := KW.out.lt
    rw [eqB_self]
    go_wp2
    go_ret
    exact ⟨rfl, (by repeat' (first | with_reducible exact Ew4.out | with_reducible refine Ex.alloc ?_ _ | with_reducible refine Ex.drew ?_ | with_reducible refine Ex.put ?_ (by omega) _))⟩
  obtain ⟨k, x, rfl, hwl⟩ := HOK.out u rfl

  have hkl := hwl.kl
  have HXK := Lib.hid hwl.xk
  have HCU := Lib.hid ((cv_iff u).2 hwl.cu)
  have CB := Lib.hid (wireI_c u (k : Int) x.wired)
  rw [hwl.back] at CB
  dsimp only at CB
  have C3 := Lib.hid (victimI_c u)
  rw [victimOf_eq hwl.cu] at C3
  dsimp only at C3
  have HVN : Hid (b = true → (victimAt u != (k : Int)) = true) := Lib.hid (fun e => by subst e; simpa using hwl.victim)
  generalize victimAt u = vv at C3 HVN
  clear hwl
  obtain ⟨a1, o1, hA, -, -⟩ := HF0.out.rd (by omega)
  subst hA

  go_wp2_with fail
  refine name_calls ?_; intro v1 hv1
  have X1 : Hid (Chg (0) (0) w0 v1) := Lib.hid (by rw [hv1]; repeat' (first | with_reducible exact Chg.refl _ _ _ | with_reducible refine Chg.alloc ?_ _ | with_reducible refine Chg.drew ?_ | with_reducible refine Chg.set ?_ (by omega) _))
  have t1 : w0.heap.size ≤ v1.heap.size := X1.out.size
  have Ev1 : Hid (Ex w v1) := Lib.hid (Ew0.out.chg X1.out (by omega))
  replace HF0 := Lib.hid (HF0.out.chg X1.out WHF0.out (by omega))
  have KC : Hid (Blk v1 (w0.heap.size) 25 [.slice (some ⟨a1, o1, none⟩) t.lines.length c0, .int .i64 t.hand]) := Lib.hid (by rw [hv1]; repeat' (first | with_reducible exact Blk.new_at _ _ _ (by simp) | with_reducible refine Blk.alloc ?_ _ | with_reducible refine Blk.drew ?_ | with_reducible refine Blk.far ?_ (by simp; omega) _))
  have lC : w0.heap.size < v1.heap.size := KC.out.lt
  clear hv1
  refine (C1.out _ c0 _ HF0.out.rd hn HF0.out.le HF0.out.cap).mono ?_; rintro r w1 ⟨A1, c1, rfl, hf1, hb1⟩
  have Y1 : Hid (Chg 0 0 v1 w1) := Lib.hid (Chg.of_ex hb1)
  have s1 : v1.heap.size ≤ w1.heap.size := Y1.out.size
  have Ew1 : Hid (Ex w w1) := Lib.hid (Ev1.out.chg Y1.out (by omega))
  clear hb1
  replace KC : Hid (Blk w1 (w0.heap.size) 25 [.slice (some ⟨a1, o1, none⟩) t.lines.length c0, .int .i64 t.hand]) := Lib.hid (KC.out.chg Y1.out (by omega))
  replace HF0 := Lib.hid (HF0.out.chg Y1.out WHF0.out (by omega))
  have HF1 := Lib.hid hf1; clear hf1
  have WHF1 := Lib.hid HF1.out.row
  obtain ⟨qC0, qC1⟩ := KC.out.c2
  have jC := KC.out.lt
  go_wp2_with fail
  refine name_calls ?_; intro v2 hv2
  have X2 : Hid (Chg (0) (0) w1 v2) := Lib.hid (by rw [hv2]; repeat' (first | with_reducible exact Chg.refl _ _ _ | with_reducible refine Chg.alloc ?_ _ | with_reducible refine Chg.drew ?_ | with_reducible refine Chg.set ?_ (by omega) _))
  have t2 : w1.heap.size ≤ v2.heap.size := X2.out.size
  have Ev2 : Hid (Ex w v2) := Lib.hid (Ew1.out.chg X2.out (by omega))
  clear qC0 qC1 jC
  replace KC : Hid (Blk v2 (w0.heap.size) 25 [.slice (some ⟨a1, o1, none⟩) t.lines.length c0, .int .i64 t.hand]) := Lib.hid (KC.out.chg X2.out (by omega))
  replace HF0 := Lib.hid (HF0.out.chg X2.out WHF0.out (by omega))
  replace HF1 := Lib.hid (HF1.out.chg X2.out WHF1.out (by omega))
  have KD : Hid (Blk v2 (w1.heap.size) 25 [.slice A1 u.lines.length c1, .int .i64 u.hand]) := Lib.hid (by rw [hv2]; repeat' (first | with_reducible exact Blk.new_at _ _ _ (by simp) | with_reducible refine Blk.alloc ?_ _ | with_reducible refine Blk.drew ?_ | with_reducible refine Blk.far ?_ (by simp; omega) _))
  have lD : w1.heap.size < v2.heap.size := KD.out.lt
  clear hv2
  refine (C2.out _ c0 _ HF0.out.rd hn HF0.out.le HF0.out.cap).mono ?_; rintro r w2 ⟨A2, c2, rfl, hf2, hb2⟩
  have Y2 : Hid (Chg 0 0 v2 w2) := Lib.hid (Chg.of_ex hb2)
  have s2 : v2.heap.size ≤ w2.heap.size := Y2.out.size
  have Ew2 : Hid (Ex w w2) := Lib.hid (Ev2.out.chg Y2.out (by omega))
  clear hb2
  replace KC : Hid (Blk w2 (w0.heap.size) 25 [.slice (some ⟨a1, o1, none⟩) t.lines.length c0, .int .i64 t.hand]) := Lib.hid (KC.out.chg Y2.out (by omega))
  replace KD : Hid (Blk w2 (w1.heap.size) 25 [.slice A1 u.lines.length c1, .int .i64 u.hand]) := Lib.hid (KD.out.chg Y2.out (by omega))
  replace HF0 := Lib.hid (HF0.out.chg Y2.out WHF0.out (by omega))
  replace HF1 := Lib.hid (HF1.out.chg Y2.out WHF1.out (by omega))
  have HF2 := Lib.hid hf2; clear hf2
  have WHF2 := Lib.hid HF2.out.row
  obtain ⟨qC0, qC1⟩ := KC.out.c2
  have jC := KC.out.lt
  obtain ⟨qD0, qD1⟩ := KD.out.c2
  have jD := KD.out.lt
  go_wp2_with fail
  refine name_calls ?_; intro v3 hv3
  have X3 : Hid (Chg (0) (0) w2 v3) := Lib.hid (by rw [hv3]; repeat' (first | with_reducible exact Chg.refl _ _ _ | with_reducible refine Chg.alloc ?_ _ | with_reducible refine Chg.drew ?_ | with_reducible refine Chg.set ?_ (by omega) _))
  have t3 : w2.heap.size ≤ v3.heap.size := X3.out.size
  have Ev3 : Hid (Ex w v3) := Lib.hid (Ew2.out.chg X3.out (by omega))
  clear qC0 qC1 jC
  clear qD0 qD1 jD
  replace KC : Hid (Blk v3 (w0.heap.size) 25 [.slice (some ⟨a1, o1, none⟩) t.lines.length c0, .int .i64 t.hand]) := Lib.hid (KC.out.chg X3.out (by omega))
  replace KD : Hid (Blk v3 (w1.heap.size) 25 [.slice A1 u.lines.length c1, .int .i64 u.hand]) := Lib.hid (KD.out.chg X3.out (by omega))
  replace HF0 := Lib.hid (HF0.out.chg X3.out WHF0.out (by omega))
  replace HF1 := Lib.hid (HF1.out.chg X3.out WHF1.out (by omega))
  replace HF2 := Lib.hid (HF2.out.chg X3.out WHF2.out (by omega))
  have KW : Hid (Blk v3 (w2.heap.size) 25 [.slice A2 u.lines.length c2, .int .i64 u.hand]) := Lib.hid (by rw [hv3]; repeat' (first | with_reducible exact Blk.new_at _ _ _ (by simp) | with_reducible refine Blk.alloc ?_ _ | with_reducible refine Blk.drew ?_ | with_reducible refine Blk.far ?_ (by simp; omega) _))
  have lW : w2.heap.size < v3.heap.size := KW.out.lt
  clear hv3
  refine (cacheSameI_c u u _ _ _ _ _ HF1.out.rd HF2.out.rd hfew hfew).mono ?_; rintro r w3 ⟨rfl, hb3⟩
  have Y3 : Hid (Chg 0 0 v3 w3) := Lib.hid (Chg.of_ex hb3)
  have s3 : v3.heap.size ≤ w3.heap.size := Y3.out.size
  have Ew3 : Hid (Ex w w3) := Lib.hid (Ev3.out.chg Y3.out (by omega))
  clear hb3
  replace KC : Hid (Blk w3 (w0.heap.size) 25 [.slice (some ⟨a1, o1, none⟩) t.lines.length c0, .int .i64 t.hand]) := Lib.hid (KC.out.chg Y3.out (by omega))
  replace KD : Hid (Blk w3 (w1.heap.size) 25 [.slice A1 u.lines.length c1, .int .i64 u.hand]) := Lib.hid (KD.out.chg Y3.out (by omega))
  replace KW : Hid (Blk w3 (w2.heap.size) 25 [.slice A2 u.lines.length c2, .int .i64 u.hand]) := Lib.hid (KW.out.chg Y3.out (by omega))
  replace HF0 := Lib.hid (HF0.out.chg Y3.out WHF0.out (by omega))
  replace HF1 := Lib.hid (HF1.out.chg Y3.out WHF1.out (by omega))
  replace HF2 := Lib.hid (HF2.out.chg Y3.out WHF2.out (by omega))
  obtain ⟨qC0, qC1⟩ := KC.out.c2
  have jC := KC.out.lt
  obtain ⟨qD0, qD1⟩ := KD.out.c2
  have jD := KD.out.lt
  obtain ⟨qW0, qW1⟩ := KW.out.c2
  have jW := KW.out.lt
  rw [eqB_self]
  clear qW0 qW1 jW
  clear KW
  clear HF2 WHF2

  go_wp2_with fail
  refine name_calls ?_; intro v4 hv4
  have X4 : Hid (Chg (0) (0) w3 v4) := Lib.hid (by rw [hv4]; repeat' (first | with_reducible exact Chg.refl _ _ _ | with_reducible refine Chg.alloc ?_ _ | with_reducible refine Chg.drew ?_ | with_reducible refine Chg.set ?_ (by omega) _))
  have t4 : w3.heap.size ≤ v4.heap.size := X4.out.size
  have Ev4 : Hid (Ex w v4) := Lib.hid (Ew3.out.chg X4.out (by omega))
  clear qC0 qC1 jC
  clear qD0 qD1 jD
  replace KC : Hid (Blk v4 (w0.heap.size) 25 [.slice (some ⟨a1, o1, none⟩) t.lines.length c0, .int .i64 t.hand]) := Lib.hid (KC.out.chg X4.out (by omega))
  replace KD : Hid (Blk v4 (w1.heap.size) 25 [.slice A1 u.lines.length c1, .int .i64 u.hand]) := Lib.hid (KD.out.chg X4.out (by omega))
  replace HF0 := Lib.hid (HF0.out.chg X4.out WHF0.out (by omega))
  replace HF1 := Lib.hid (HF1.out.chg X4.out WHF1.out (by omega))
  clear hv4
  refine (C3.out A1 c1 _ HF1.out.rd hfew HF1.out.le).mono ?_; rintro r w4 ⟨rfl, hb4⟩
  have Y4 : Hid (Chg 0 0 v4 w4) := Lib.hid (Chg.of_ex hb4)
  have s4 : v4.heap.size ≤ w4.heap.size := Y4.out.size
  have Ew4 : Hid (Ex w w4) := Lib.hid (Ev4.out.chg Y4.out (by omega))
  clear hb4
  replace KC : Hid (Blk w4 (w0.heap.size) 25 [.slice (some ⟨a1, o1, none⟩) t.lines.length c0, .int .i64 t.hand]) := Lib.hid (KC.out.chg Y4.out (by omega))
  replace KD : Hid (Blk w4 (w1.heap.size) 25 [.slice A1 u.lines.length c1, .int .i64 u.hand]) := Lib.hid (KD.out.chg Y4.out (by omega))
  replace HF0 := Lib.hid (HF0.out.chg Y4.out WHF0.out (by omega))
  replace HF1 := Lib.hid (HF1.out.chg Y4.out WHF1.out (by omega))
  obtain ⟨qC0, qC1⟩ := KC.out.c2
  have jC := KC.out.lt
  obtain ⟨qD0, qD1⟩ := KD.out.c2
  have jD := KD.out.lt
  obtain ⟨gC, hgC⟩ : ∃ gC, gC = w0.heap.size := ⟨_, rfl⟩
  obtain ⟨gD, hgD⟩ : ∃ gD, gD = w1.heap.size := ⟨_, rfl⟩
  obtain ⟨x', hb1, hx1, g0, g1, g2, g3, g4, g5⟩ := Rd.line_known HF0.out.rd (k := k) hkl
  obtain rfl : x = x' := by have := HXK.out; rw [hx1] at this; injection this with this; exact this.symm
  rw [← hgC] at KC qC0 qC1 jC ⊢
  rw [← hgD] at KD qD0 qD1 jD ⊢
  have HG5 := Lib.hid g5
  clear hgC hgD hx1 g0 g1 g2 g3 g4 g5
  have hk0 : ¬ ((k : Int) < 0) := by omega
  have hk1 : (k : Int) < (t.lines.length : Int) := by omega
  have HD1 := Lib.hid (HF1.out.rd)
  have HD0 := Lib.hid (HF0.out.rd)
  have hle1 := HF1.out.le
  have hca1 := HF1.out.cap
  have FK : Hid (∀ w', Ex w4 w' → (w'.cell? ⟨gD, 0, none⟩ = some (.slice A1 u.lines.length c1) ∧ w'.cell? ⟨gD, 1, none⟩ = some (.int .i64 u.hand) ∧ w'.cell? ⟨gC, 0, none⟩ = some (.slice (some ⟨a1, o1, none⟩) t.lines.length c0) ∧ w'.cell? ⟨a1, o1 + k * 6 + 5, none⟩ = some (.bool x.wired))) := Lib.hid (fun w' h => by
    obtain ⟨q0, q1⟩ := (KD.out.ex h).c2
    obtain ⟨q2, q3⟩ := (KC.out.ex h).c2
    exact ⟨q0, q1, q2, (h.cell hb1).trans HG5.out⟩)
  go_upto_region 9 with fail
  go_cut [12, 13] (fun s12 s13 wx => ∃ (gb : Nat) (A' : Option Addr) (c' : Nat), s12 = .pointer (some ⟨gb, 0, none⟩) ∧ s13 = .bool true ∧ Blk wx gb 25 [.slice A' t.lines.length c', .int .i64 t.hand] ∧ Rd wx A' t.lines ∧ Ex w4 wx)
  case first =>
    go_region_held3 (fun w' => (w'.cell? ⟨gD, 0, none⟩ = some (.slice A1 u.lines.length c1) ∧ w'.cell? ⟨gD, 1, none⟩ = some (.int .i64 u.hand) ∧ w'.cell? ⟨gC, 0, none⟩ = some (.slice (some ⟨a1, o1, none⟩) t.lines.length c0) ∧ w'.cell? ⟨a1, o1 + k * 6 + 5, none⟩ = some (.bool x.wired))) (first | exact FK.out _ (Ex.refl _) | exact FK.out _ (Ex.refl _).drew | exact FK.out _ ((Ex.refl _).drew.alloc _) | exact FK.out _ hE | exact FK.out _ (hE.alloc _) | exact FK.out _ ((hE.put (Nat.le_refl _) _).put (Nat.le_refl _) _) | go_keep) (first | (go_at_call 28; (with_reducible refine (CB.out _ c1 _ ?_ hfew hle1 hca1).mono ?_); (first | exact Rd.drew HD1.out | exact (Rd.drew HD1.out).alloc _); rintro r wa ⟨A', c', rfl, hfa, hba⟩; (first | (have hE : Ex w4 wa := (Ex.refl w4).drew.trans hba) | (have hE : Ex w4 wa := ((Ex.refl w4).drew.alloc _).trans hba; have hy : Blk wa w4.heap.size 25 [.slice none 0 0, .int .i64 0] := Blk.ex (Blk.new w4.drew 25 [.slice none 0 0, .int .i64 0]) hba; obtain ⟨hy0, hy1⟩ := hy.c2; have hyf := hy.frozen; have hyl := hy.lt))))
    all_goals (go_wp2_with fail; go_meet)
    · exact ⟨wa.heap.size, A', c', rfl, rfl, Blk.new _ _ _, hfa.rd.alloc _, hE.alloc _⟩
    · exact ⟨w4.heap.size, A', c', rfl, rfl, Blk.put2 hy, (Fr.set_below (Fr.set_below hfa (by simp) _) (by simp) _).rd, (hE.put (Nat.le_refl _) _).put (Nat.le_refl _) _⟩
  case rest =>
    obtain ⟨gb, A5, c5, rfl, rfl, hkb, hr5, hx5⟩ := hcut
    have KB := Lib.hid hkb
    have HR5 := Lib.hid hr5
    have Y5 := Lib.hid (Chg.of_ex hx5)
    clear hkb hr5 hx5 FK CB
    have s5 : w4.heap.size ≤ wc.heap.size := Y5.out.size
    have Ewc : Hid (Ex w wc) := Lib.hid (Ew4.out.chg Y5.out (by omega))
    clear qC0 qC1 jC
    clear qD0 qD1 jD
    replace KC : Hid (Blk wc (gC) 25 [.slice (some ⟨a1, o1, none⟩) t.lines.length c0, .int .i64 t.hand]) := Lib.hid (KC.out.chg Y5.out (by omega))
    replace KD : Hid (Blk wc (gD) 25 [.slice A1 u.lines.length c1, .int .i64 u.hand]) := Lib.hid (KD.out.chg Y5.out (by omega))
    replace HF0 := Lib.hid (HF0.out.chg Y5.out WHF0.out (by omega))
    replace HF1 := Lib.hid (HF1.out.chg Y5.out WHF1.out (by omega))
    obtain ⟨qC0, qC1⟩ := KC.out.c2
    have jC := KC.out.lt
    obtain ⟨qD0, qD1⟩ := KD.out.c2
    have jD := KD.out.lt
    obtain ⟨qB0, qB1⟩ := KB.out.c2
    have jB := KB.out.lt
    go_wp2_with fail
    refine name_calls ?_; intro v6 hv6
    have X6 : Hid (Chg (0) (0) wc v6) := Lib.hid (by rw [hv6]; repeat' (first | with_reducible exact Chg.refl _ _ _ | with_reducible refine Chg.alloc ?_ _ | with_reducible refine Chg.drew ?_ | with_reducible refine Chg.set ?_ (by omega) _))
    have t6 : wc.heap.size ≤ v6.heap.size := X6.out.size
    have Ev6 : Hid (Ex w v6) := Lib.hid (Ewc.out.chg X6.out (by omega))
    clear qC0 qC1 jC
    clear qD0 qD1 jD
    clear qB0 qB1 jB
    replace KC : Hid (Blk v6 (gC) 25 [.slice (some ⟨a1, o1, none⟩) t.lines.length c0, .int .i64 t.hand]) := Lib.hid (KC.out.chg X6.out (by omega))
    replace KD : Hid (Blk v6 (gD) 25 [.slice A1 u.lines.length c1, .int .i64 u.hand]) := Lib.hid (KD.out.chg X6.out (by omega))
    replace KB : Hid (Blk v6 (gb) 25 [.slice A5 t.lines.length c5, .int .i64 t.hand]) := Lib.hid (KB.out.chg X6.out (by omega))
    replace HF0 := Lib.hid (HF0.out.chg X6.out WHF0.out (by omega))
    replace HF1 := Lib.hid (HF1.out.chg X6.out WHF1.out (by omega))
    clear hv6
    refine (cacheValidI_c u _ c1 _ HF1.out.rd hfew hle1).mono ?_; rintro r w6 ⟨rfl, hb6⟩
    have Y6 : Hid (Chg 0 0 v6 w6) := Lib.hid (Chg.of_ex hb6)
    have s6 : v6.heap.size ≤ w6.heap.size := Y6.out.size
    have Ew6 : Hid (Ex w w6) := Lib.hid (Ev6.out.chg Y6.out (by omega))
    clear hb6
    replace KC : Hid (Blk w6 (gC) 25 [.slice (some ⟨a1, o1, none⟩) t.lines.length c0, .int .i64 t.hand]) := Lib.hid (KC.out.chg Y6.out (by omega))
    replace KD : Hid (Blk w6 (gD) 25 [.slice A1 u.lines.length c1, .int .i64 u.hand]) := Lib.hid (KD.out.chg Y6.out (by omega))
    replace KB : Hid (Blk w6 (gb) 25 [.slice A5 t.lines.length c5, .int .i64 t.hand]) := Lib.hid (KB.out.chg Y6.out (by omega))
    replace HF0 := Lib.hid (HF0.out.chg Y6.out WHF0.out (by omega))
    replace HF1 := Lib.hid (HF1.out.chg Y6.out WHF1.out (by omega))
    obtain ⟨qC0, qC1⟩ := KC.out.c2
    have jC := KC.out.lt
    obtain ⟨qD0, qD1⟩ := KD.out.c2
    have jD := KD.out.lt
    obtain ⟨qB0, qB1⟩ := KB.out.c2
    have jB := KB.out.lt
    rw [HCU.out]
    have HR6 : Hid (Rd w6 A5 t.lines) := Lib.hid ((HR5.out.ex X6.out.ex_).ex Y6.out.ex_)
    cases b
    · skip
      go_wp2_with fail
      refine name_calls ?_; intro v7 hv7
      have X7 : Hid (Chg (0) (0) w6 v7) := Lib.hid (by rw [hv7]; repeat' (first | with_reducible exact Chg.refl _ _ _ | with_reducible refine Chg.alloc ?_ _ | with_reducible refine Chg.drew ?_ | with_reducible refine Chg.set ?_ (by omega) _))
      have t7 : w6.heap.size ≤ v7.heap.size := X7.out.size
      have Ev7 : Hid (Ex w v7) := Lib.hid (Ew6.out.chg X7.out (by omega))
      clear qC0 qC1 jC
      clear qD0 qD1 jD
      clear qB0 qB1 jB
      replace KC : Hid (Blk v7 (gC) 25 [.slice (some ⟨a1, o1, none⟩) t.lines.length c0, .int .i64 t.hand]) := Lib.hid (KC.out.chg X7.out (by omega))
      replace KD : Hid (Blk v7 (gD) 25 [.slice A1 u.lines.length c1, .int .i64 u.hand]) := Lib.hid (KD.out.chg X7.out (by omega))
      replace KB : Hid (Blk v7 (gb) 25 [.slice A5 t.lines.length c5, .int .i64 t.hand]) := Lib.hid (KB.out.chg X7.out (by omega))
      replace HF0 := Lib.hid (HF0.out.chg X7.out WHF0.out (by omega))
      replace HF1 := Lib.hid (HF1.out.chg X7.out WHF1.out (by omega))
      clear hv7
      have HR7 : Hid (Rd v7 A5 t.lines) := Lib.hid (HR6.out.ex X7.out.ex_)
      refine (cacheSameI_c t t _ _ _ _ _ HR7.out HF0.out.rd hn hn).mono ?_
      rintro r w7 ⟨rfl, hb7⟩
      rw [eqB_self]
      go_wp2
      go_ret
      exact ⟨rfl, Ev7.out.trans hb7⟩
    · skip
      have hvn := HVN.out rfl
      go_wp2_with fail
      refine name_calls ?_; intro v7 hv7
      have X7 : Hid (Chg (0) (0) w6 v7) := Lib.hid (by rw [hv7]; repeat' (first | with_reducible exact Chg.refl _ _ _ | with_reducible refine Chg.alloc ?_ _ | with_reducible refine Chg.drew ?_ | with_reducible refine Chg.set ?_ (by omega) _))
      have t7 : w6.heap.size ≤ v7.heap.size := X7.out.size
      have Ev7 : Hid (Ex w v7) := Lib.hid (Ew6.out.chg X7.out (by omega))
      clear qC0 qC1 jC
      clear qD0 qD1 jD
      clear qB0 qB1 jB
      replace KC : Hid (Blk v7 (gC) 25 [.slice (some ⟨a1, o1, none⟩) t.lines.length c0, .int .i64 t.hand]) := Lib.hid (KC.out.chg X7.out (by omega))
      replace KD : Hid (Blk v7 (gD) 25 [.slice A1 u.lines.length c1, .int .i64 u.hand]) := Lib.hid (KD.out.chg X7.out (by omega))
      replace KB : Hid (Blk v7 (gb) 25 [.slice A5 t.lines.length c5, .int .i64 t.hand]) := Lib.hid (KB.out.chg X7.out (by omega))
      replace HF0 := Lib.hid (HF0.out.chg X7.out WHF0.out (by omega))
      replace HF1 := Lib.hid (HF1.out.chg X7.out WHF1.out (by omega))
      clear hv7
      have HR7 : Hid (Rd v7 A5 t.lines) := Lib.hid (HR6.out.ex X7.out.ex_)
      refine (cacheSameI_c t t _ _ _ _ _ HR7.out HF0.out.rd hn hn).mono ?_
      rintro r w7 ⟨rfl, hb7⟩
      rw [eqB_self]
      go_wp2
      go_ret
      exact ⟨rfl, Ev7.out.trans hb7⟩
end Go.Proofs.Ytcaaficjcghheab
