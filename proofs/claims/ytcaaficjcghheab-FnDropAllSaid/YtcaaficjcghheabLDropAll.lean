/- The law FnDropAll: the walk. -/
import Derived.Test.YtcaaficjcghheabDd
import Derived.Test.YtcaaficjcghheabCs
import Derived.Test.YtcaaficjcghheabCu
import Derived.Test.YtcaaficjcghheabLp
namespace Go.Proofs.Ytcaaficjcghheab
open Go.ChangeShapes Go.WideShapes Go.ChangeAt Go.RowKit
open Rec (sz cs)
set_option linter.unusedVariables false
set_option maxRecDepth 100000

/-- What holds at the head of the law's loop. -/
def AllLoop (t u : CacheD) (gX gD : Nat) (A1 : Option Addr) (c1 B1 : Nat) (w : World) (i : Value) (wr : World) : Prop := ∃ (k : Nat) (A : Option Addr) (c : Nat), i = .int .i64 ((k : Int) - 1) ∧ k ≤ 9 ∧ Ex w wr ∧ Blk wr gD 25 [.slice A1 u.lines.length c1, .int .i64 u.hand] ∧ Fr 31 wr B1 A1 c1 u.lines ∧
  Blk wr gX 25 [.slice A (upTo t k).lines.length c, .int .i64 (upTo t k).hand] ∧ Fr 31 wr w.heap.size A c (upTo t k).lines ∧ (∀ b, rowOf A c = some b → b ≠ gX)

set_option maxHeartbeats 16000000 in
theorem walk_FnDropAll (A : Option Addr) (n c : Nat) (bs : List ByteD) (w : World) (hr : Rd w A bs) (hc : Bytes bs ∧ bs.length = n ∧ n ≤ c ∧ c ≤ maxLen) :
    Calls Try.prog 6 #[.slice A n c] w fun r w' => r = .returned (.bool true) ∧ Ex w w' := by
  obtain ⟨hb, rfl, hnc, hcm⟩ := hc
  by_cases hbig : 1048576 < bs.length
  · have hbig' : (1048576 : Int) < (bs.length : Int) := by omega
    unfold maxLen at hcm
    generalize bs.length = n at *
    go_enter Try.func6, Try.ntmps6
    go_wp2
    go_ret
    exact ⟨rfl, Ex.refl _⟩
  have hsm : ¬ (1048576 : Int) < (bs.length : Int) := by omega
  have C0 := Lib.hid (fun w' (h : Ex w w') => drawDropAll_c A c bs w' (hr.ex h) hb (by omega) hnc hcm)
  have hcm' := hcm
  unfold maxLen at hcm'
  generalize bs.length = n at *
  clear hr hb hcm
  go_enter Try.func6, Try.ntmps6
  go_wp2_with fail
  refine name_calls ?_; intro v0 hv0
  have X0 : Hid (Chg (0) (0) w v0) := Lib.hid (by rw [hv0]; repeat' (first | with_reducible exact Chg.refl _ _ _ | with_reducible refine Chg.alloc ?_ _ | with_reducible refine Chg.drew ?_ | with_reducible refine Chg.set ?_ (by omega) _))
  have t0 : w.heap.size ≤ v0.heap.size := X0.out.size
  have Ev0 : Hid (Ex w v0) := Lib.hid ((Ex.refl w).chg X0.out (by omega))
  clear hv0
  refine (C0.out _ Ev0.out).mono ?_; rintro r w0 ⟨t, A0, c0, rfl, hww, hf0, hb0⟩
  have Y0 : Hid (Chg 0 0 v0 w0) := Lib.hid (Chg.of_ex hb0)
  have s0 : v0.heap.size ≤ w0.heap.size := Y0.out.size
  have Ew0 : Hid (Ex w w0) := Lib.hid (Ev0.out.chg Y0.out (by omega))
  clear hb0
  have HF0 := Lib.hid hf0; clear hf0
  have WHF0 := Lib.hid HF0.out.row
  have hn : t.lines.length ≤ 1048576 := by have := hww.1; omega
  have C1 := Lib.hid (dropAllI_c t)
  have C2 := Lib.hid (dropAllS_c t)
  clear hww C0
  cases hv : cacheV t
  · have e : dropAll t = (noCache, false) := by unfold dropAll; rw [hv]; rfl
    rw [e] at C1 C2
    dsimp only at C1 C2
    have hfew : noCache.lines.length ≤ 1048576 := by simp [noCache]
    clear e
    go_wp2_with fail
    refine name_calls ?_; intro v1 hv1
    have X1 : Hid (Chg (0) (0) w0 v1) := Lib.hid (by rw [hv1]; repeat' (first | with_reducible exact Chg.refl _ _ _ | with_reducible refine Chg.alloc ?_ _ | with_reducible refine Chg.drew ?_ | with_reducible refine Chg.set ?_ (by omega) _))
    have t1 : w0.heap.size ≤ v1.heap.size := X1.out.size
    have Ev1 : Hid (Ex w v1) := Lib.hid (Ew0.out.chg X1.out (by omega))
    replace HF0 := Lib.hid (HF0.out.chg X1.out WHF0.out (by omega))
    have KC : Hid (Blk v1 (w0.heap.size) 25 [.slice A0 t.lines.length c0, .int .i64 t.hand]) := Lib.hid (by rw [hv1]; repeat' (first | with_reducible exact Blk.new_at _ _ _ (by simp) | with_reducible refine Blk.alloc ?_ _ | with_reducible refine Blk.drew ?_ | with_reducible refine Blk.far ?_ (by simp; omega) _))
    have lC : w0.heap.size < v1.heap.size := KC.out.lt
    clear hv1
    refine (C1.out A0 c0 _ HF0.out.rd hn HF0.out.le HF0.out.cap).mono ?_; rintro r w1 ⟨A1, c1, rfl, hf1, hb1⟩
    have Y1 : Hid (Chg 0 0 v1 w1) := Lib.hid (Chg.of_ex hb1)
    have s1 : v1.heap.size ≤ w1.heap.size := Y1.out.size
    have Ew1 : Hid (Ex w w1) := Lib.hid (Ev1.out.chg Y1.out (by omega))
    clear hb1
    replace KC : Hid (Blk w1 (w0.heap.size) 25 [.slice A0 t.lines.length c0, .int .i64 t.hand]) := Lib.hid (KC.out.chg Y1.out (by omega))
    replace HF0 := Lib.hid (HF0.out.chg Y1.out WHF0.out (by omega))
    have HF1 := Lib.hid hf1; clear hf1
    have WHF1 := Lib.hid HF1.out.row
    obtain ⟨qC0, qC1⟩ := KC.out.c2
    have jC := KC.out.lt
    go_wp2_with fail
    refine name_calls ?_; intro v2 hv2
    have X2 : Hid (Chg (0) (0) w1 v2) := Lib.hid (by rw [hv2]; repeat' (first | with_reducible exact Chg.refl _ _ _ | with_reducible refine Chg.alloc ?_ _ | with_reducible refine Chg.drew ?_ | with_reducible refine Chg.set ?_ (by omega) _))
    have t2 : w1.heap.size ≤ v2.heap.size := X2.out.size
    have Ev2 : Hid (Ex w v2) := Lib.hid (Ew1.out.chg X2.out (by omega))
    clear qC0 qC1 jC
    replace KC : Hid (Blk v2 (w0.heap.size) 25 [.slice A0 t.lines.length c0, .int .i64 t.hand]) := Lib.hid (KC.out.chg X2.out (by omega))
    replace HF0 := Lib.hid (HF0.out.chg X2.out WHF0.out (by omega))
    replace HF1 := Lib.hid (HF1.out.chg X2.out WHF1.out (by omega))
    have KD : Hid (Blk v2 (w1.heap.size) 25 [.slice A1 noCache.lines.length c1, .int .i64 noCache.hand]) := Lib.hid (by rw [hv2]; repeat' (first | with_reducible exact Blk.new_at _ _ _ (by simp) | with_reducible refine Blk.alloc ?_ _ | with_reducible refine Blk.drew ?_ | with_reducible refine Blk.far ?_ (by simp; omega) _))
    have lD : w1.heap.size < v2.heap.size := KD.out.lt
    clear hv2
    refine (C2.out A0 c0 _ HF0.out.rd hn HF0.out.le HF0.out.cap).mono ?_; rintro r w2 ⟨A2, c2, rfl, hf2, hb2⟩
    have Y2 : Hid (Chg 0 0 v2 w2) := Lib.hid (Chg.of_ex hb2)
    have s2 : v2.heap.size ≤ w2.heap.size := Y2.out.size
    have Ew2 : Hid (Ex w w2) := Lib.hid (Ev2.out.chg Y2.out (by omega))
    clear hb2
    replace KC : Hid (Blk w2 (w0.heap.size) 25 [.slice A0 t.lines.length c0, .int .i64 t.hand]) := Lib.hid (KC.out.chg Y2.out (by omega))
    replace KD : Hid (Blk w2 (w1.heap.size) 25 [.slice A1 noCache.lines.length c1, .int .i64 noCache.hand]) := Lib.hid (KD.out.chg Y2.out (by omega))
    replace HF0 := Lib.hid (HF0.out.chg Y2.out WHF0.out (by omega))
    replace HF1 := Lib.hid (HF1.out.chg Y2.out WHF1.out (by omega))
    have HF2 := Lib.hid hf2; clear hf2
    have WHF2 := Lib.hid HF2.out.row
    obtain ⟨qC0, qC1⟩ := KC.out.c2
    have jC := KC.out.lt
    obtain ⟨qD0, qD1⟩ := KD.out.c2
    have jD := KD.out.lt
    go_wp2_with fail
    refine name_calls ?_; intro v3 hv3
    have X3 : Hid (Chg (0) (0) w2 v3) := Lib.hid (by rw [hv3]; repeat' (first | with_reducible exact Chg.refl _ _ _ | with_reducible refine Chg.alloc ?_ _ | with_reducible refine Chg.drew ?_ | with_reducible refine Chg.set ?_ (by omega) _))
    have t3 : w2.heap.size ≤ v3.heap.size := X3.out.size
    have Ev3 : Hid (Ex w v3) := Lib.hid (Ew2.out.chg X3.out (by omega))
    clear qC0 qC1 jC
    clear qD0 qD1 jD
    replace KC : Hid (Blk v3 (w0.heap.size) 25 [.slice A0 t.lines.length c0, .int .i64 t.hand]) := Lib.hid (KC.out.chg X3.out (by omega))
    replace KD : Hid (Blk v3 (w1.heap.size) 25 [.slice A1 noCache.lines.length c1, .int .i64 noCache.hand]) := Lib.hid (KD.out.chg X3.out (by omega))
    replace HF0 := Lib.hid (HF0.out.chg X3.out WHF0.out (by omega))
    replace HF1 := Lib.hid (HF1.out.chg X3.out WHF1.out (by omega))
    replace HF2 := Lib.hid (HF2.out.chg X3.out WHF2.out (by omega))
    have KW : Hid (Blk v3 (w2.heap.size) 25 [.slice A2 noCache.lines.length c2, .int .i64 noCache.hand]) := Lib.hid (by rw [hv3]; repeat' (first | with_reducible exact Blk.new_at _ _ _ (by simp) | with_reducible refine Blk.alloc ?_ _ | with_reducible refine Blk.drew ?_ | with_reducible refine Blk.far ?_ (by simp; omega) _))
    have lW : w2.heap.size < v3.heap.size := KW.out.lt
    clear hv3
    refine (cacheSameI_c noCache noCache _ _ _ _ _ HF1.out.rd HF2.out.rd hfew hfew).mono ?_; rintro r w3 ⟨rfl, hb3⟩
    have Y3 : Hid (Chg 0 0 v3 w3) := Lib.hid (Chg.of_ex hb3)
    have s3 : v3.heap.size ≤ w3.heap.size := Y3.out.size
    have Ew3 : Hid (Ex w w3) := Lib.hid (Ev3.out.chg Y3.out (by omega))
    clear hb3
    replace KC : Hid (Blk w3 (w0.heap.size) 25 [.slice A0 t.lines.length c0, .int .i64 t.hand]) := Lib.hid (KC.out.chg Y3.out (by omega))
    replace KD : Hid (Blk w3 (w1.heap.size) 25 [.slice A1 noCache.lines.length c1, .int .i64 noCache.hand]) := Lib.hid (KD.out.chg Y3.out (by omega))
    replace KW : Hid (Blk w3 (w2.heap.size) 25 [.slice A2 noCache.lines.length c2, .int .i64 noCache.hand]) := Lib.hid (KW.out.chg Y3.out (by omega))
    replace HF0 := Lib.hid (HF0.out.chg Y3.out WHF0.out (by omega))
    replace HF1 := Lib.hid (HF1.out.chg Y3.out WHF1.out (by omega))
    replace HF2 := Lib.hid (HF2.out.chg Y3.out WHF2.out (by omega))
    obtain ⟨qC0, qC1⟩ := KC.out.c2
    have jC := KC.out.lt
    obtain ⟨qD0, qD1⟩ := KD.out.c2
    have jD := KD.out.lt
    obtain ⟨qW0, qW1⟩ := KW.out.c2
    have jW := KW.out.lt
    rw [eqB_self]
    go_wp2_with fail
    refine name_calls ?_; intro v4 hv4
    have X4 : Hid (Chg (0) (0) w3 v4) := Lib.hid (by rw [hv4]; repeat' (first | with_reducible exact Chg.refl _ _ _ | with_reducible refine Chg.alloc ?_ _ | with_reducible refine Chg.drew ?_ | with_reducible refine Chg.set ?_ (by omega) _))
    have t4 : w3.heap.size ≤ v4.heap.size := X4.out.size
    have Ev4 : Hid (Ex w v4) := Lib.hid (Ew3.out.chg X4.out (by omega))
    clear qC0 qC1 jC
    clear qD0 qD1 jD
    clear qW0 qW1 jW
    replace KC : Hid (Blk v4 (w0.heap.size) 25 [.slice A0 t.lines.length c0, .int .i64 t.hand]) := Lib.hid (KC.out.chg X4.out (by omega))
    replace KD : Hid (Blk v4 (w1.heap.size) 25 [.slice A1 noCache.lines.length c1, .int .i64 noCache.hand]) := Lib.hid (KD.out.chg X4.out (by omega))
    replace KW : Hid (Blk v4 (w2.heap.size) 25 [.slice A2 noCache.lines.length c2, .int .i64 noCache.hand]) := Lib.hid (KW.out.chg X4.out (by omega))
    replace HF0 := Lib.hid (HF0.out.chg X4.out WHF0.out (by omega))
    replace HF1 := Lib.hid (HF1.out.chg X4.out WHF1.out (by omega))
    replace HF2 := Lib.hid (HF2.out.chg X4.out WHF2.out (by omega))
    clear hv4
    refine (cacheSameI_c noCache noCache _ _ _ _ _ HF1.out.rd HF2.out.rd hfew hfew).mono ?_; rintro r w4 ⟨rfl, hb4⟩
    have Y4 : Hid (Chg 0 0 v4 w4) := Lib.hid (Chg.of_ex hb4)
    have s4 : v4.heap.size ≤ w4.heap.size := Y4.out.size
    have Ew4 : Hid (Ex w w4) := Lib.hid (Ev4.out.chg Y4.out (by omega))
    clear hb4
    replace KC : Hid (Blk w4 (w0.heap.size) 25 [.slice A0 t.lines.length c0, .int .i64 t.hand]) := Lib.hid (KC.out.chg Y4.out (by omega))
    replace KD : Hid (Blk w4 (w1.heap.size) 25 [.slice A1 noCache.lines.length c1, .int .i64 noCache.hand]) := Lib.hid (KD.out.chg Y4.out (by omega))
    replace KW : Hid (Blk w4 (w2.heap.size) 25 [.slice A2 noCache.lines.length c2, .int .i64 noCache.hand]) := Lib.hid (KW.out.chg Y4.out (by omega))
    replace HF0 := Lib.hid (HF0.out.chg Y4.out WHF0.out (by omega))
    replace HF1 := Lib.hid (HF1.out.chg Y4.out WHF1.out (by omega))
    replace HF2 := Lib.hid (HF2.out.chg Y4.out WHF2.out (by omega))
    obtain ⟨qC0, qC1⟩ := KC.out.c2
    have jC := KC.out.lt
    obtain ⟨qD0, qD1⟩ := KD.out.c2
    have jD := KD.out.lt
    obtain ⟨qW0, qW1⟩ := KW.out.c2
    have jW := KW.out.lt
    rw [eqB_self]
    go_wp2
    go_ret
    exact ⟨rfl, Ew4.out⟩
  have hcv := (cv_iff t).1 hv
  rw [dropAll_eq hcv] at C1 C2
  have HCV := Lib.hid hcv
  have CDV := Lib.hid (dropIf_cv hcv (fun _ => true))
  have HEND := Lib.hid (upTo_end hcv)
  have hfew : (dropIf t (fun _ => true)).lines.length ≤ 1048576 := by simp [dropIf]; exact hn
  clear hcv hv
  generalize dropIf t (fun _ => true) = u at C1 C2 CDV HEND hfew
  dsimp only at C1 C2
  go_wp2_with fail
  refine name_calls ?_; intro v1 hv1
  have X1 : Hid (Chg (0) (0) w0 v1) := Lib.hid (by rw [hv1]; repeat' (first | with_reducible exact Chg.refl _ _ _ | with_reducible refine Chg.alloc ?_ _ | with_reducible refine Chg.drew ?_ | with_reducible refine Chg.set ?_ (by omega) _))
  have t1 : w0.heap.size ≤ v1.heap.size := X1.out.size
  have Ev1 : Hid (Ex w v1) := Lib.hid (Ew0.out.chg X1.out (by omega))
  replace HF0 := Lib.hid (HF0.out.chg X1.out WHF0.out (by omega))
  have KC : Hid (Blk v1 (w0.heap.size) 25 [.slice A0 t.lines.length c0, .int .i64 t.hand]) := Lib.hid (by rw [hv1]; repeat' (first | with_reducible exact Blk.new_at _ _ _ (by simp) | with_reducible refine Blk.alloc ?_ _ | with_reducible refine Blk.drew ?_ | with_reducible refine Blk.far ?_ (by simp; omega) _))
  have lC : w0.heap.size < v1.heap.size := KC.out.lt
  clear hv1
  refine (C1.out A0 c0 _ HF0.out.rd hn HF0.out.le HF0.out.cap).mono ?_; rintro r w1 ⟨A1, c1, rfl, hf1, hb1⟩
  have Y1 : Hid (Chg 0 0 v1 w1) := Lib.hid (Chg.of_ex hb1)
  have s1 : v1.heap.size ≤ w1.heap.size := Y1.out.size
  have Ew1 : Hid (Ex w w1) := Lib.hid (Ev1.out.chg Y1.out (by omega))
  clear hb1
  replace KC : Hid (Blk w1 (w0.heap.size) 25 [.slice A0 t.lines.length c0, .int .i64 t.hand]) := Lib.hid (KC.out.chg Y1.out (by omega))
  replace HF0 := Lib.hid (HF0.out.chg Y1.out WHF0.out (by omega))
  have HF1 := Lib.hid hf1; clear hf1
  have WHF1 := Lib.hid HF1.out.row
  obtain ⟨qC0, qC1⟩ := KC.out.c2
  have jC := KC.out.lt
  go_wp2_with fail
  refine name_calls ?_; intro v2 hv2
  have X2 : Hid (Chg (0) (0) w1 v2) := Lib.hid (by rw [hv2]; repeat' (first | with_reducible exact Chg.refl _ _ _ | with_reducible refine Chg.alloc ?_ _ | with_reducible refine Chg.drew ?_ | with_reducible refine Chg.set ?_ (by omega) _))
  have t2 : w1.heap.size ≤ v2.heap.size := X2.out.size
  have Ev2 : Hid (Ex w v2) := Lib.hid (Ew1.out.chg X2.out (by omega))
  clear qC0 qC1 jC
  replace KC : Hid (Blk v2 (w0.heap.size) 25 [.slice A0 t.lines.length c0, .int .i64 t.hand]) := Lib.hid (KC.out.chg X2.out (by omega))
  replace HF0 := Lib.hid (HF0.out.chg X2.out WHF0.out (by omega))
  replace HF1 := Lib.hid (HF1.out.chg X2.out WHF1.out (by omega))
  have KD : Hid (Blk v2 (w1.heap.size) 25 [.slice A1 u.lines.length c1, .int .i64 u.hand]) := Lib.hid (by rw [hv2]; repeat' (first | with_reducible exact Blk.new_at _ _ _ (by simp) | with_reducible refine Blk.alloc ?_ _ | with_reducible refine Blk.drew ?_ | with_reducible refine Blk.far ?_ (by simp; omega) _))
  have lD : w1.heap.size < v2.heap.size := KD.out.lt
  clear hv2
  refine (C2.out A0 c0 _ HF0.out.rd hn HF0.out.le HF0.out.cap).mono ?_; rintro r w2 ⟨A2, c2, rfl, hf2, hb2⟩
  have Y2 : Hid (Chg 0 0 v2 w2) := Lib.hid (Chg.of_ex hb2)
  have s2 : v2.heap.size ≤ w2.heap.size := Y2.out.size
  have Ew2 : Hid (Ex w w2) := Lib.hid (Ev2.out.chg Y2.out (by omega))
  clear hb2
  replace KC : Hid (Blk w2 (w0.heap.size) 25 [.slice A0 t.lines.length c0, .int .i64 t.hand]) := Lib.hid (KC.out.chg Y2.out (by omega))
  replace KD : Hid (Blk w2 (w1.heap.size) 25 [.slice A1 u.lines.length c1, .int .i64 u.hand]) := Lib.hid (KD.out.chg Y2.out (by omega))
  replace HF0 := Lib.hid (HF0.out.chg Y2.out WHF0.out (by omega))
  replace HF1 := Lib.hid (HF1.out.chg Y2.out WHF1.out (by omega))
  have HF2 := Lib.hid hf2; clear hf2
  have WHF2 := Lib.hid HF2.out.row
  obtain ⟨qC0, qC1⟩ := KC.out.c2
  have jC := KC.out.lt
  obtain ⟨qD0, qD1⟩ := KD.out.c2
  have jD := KD.out.lt
  go_wp2_with fail
  refine name_calls ?_; intro v3 hv3
  have X3 : Hid (Chg (0) (0) w2 v3) := Lib.hid (by rw [hv3]; repeat' (first | with_reducible exact Chg.refl _ _ _ | with_reducible refine Chg.alloc ?_ _ | with_reducible refine Chg.drew ?_ | with_reducible refine Chg.set ?_ (by omega) _))
  have t3 : w2.heap.size ≤ v3.heap.size := X3.out.size
  have Ev3 : Hid (Ex w v3) := Lib.hid (Ew2.out.chg X3.out (by omega))
  clear qC0 qC1 jC
  clear qD0 qD1 jD
  replace KC : Hid (Blk v3 (w0.heap.size) 25 [.slice A0 t.lines.length c0, .int .i64 t.hand]) := Lib.hid (KC.out.chg X3.out (by omega))
  replace KD : Hid (Blk v3 (w1.heap.size) 25 [.slice A1 u.lines.length c1, .int .i64 u.hand]) := Lib.hid (KD.out.chg X3.out (by omega))
  replace HF0 := Lib.hid (HF0.out.chg X3.out WHF0.out (by omega))
  replace HF1 := Lib.hid (HF1.out.chg X3.out WHF1.out (by omega))
  replace HF2 := Lib.hid (HF2.out.chg X3.out WHF2.out (by omega))
  have KW : Hid (Blk v3 (w2.heap.size) 25 [.slice A2 u.lines.length c2, .int .i64 u.hand]) := Lib.hid (by rw [hv3]; repeat' (first | with_reducible exact Blk.new_at _ _ _ (by simp) | with_reducible refine Blk.alloc ?_ _ | with_reducible refine Blk.drew ?_ | with_reducible refine Blk.far ?_ (by simp; omega) _))
  have lW : w2.heap.size < v3.heap.size := KW.out.lt
  clear hv3
  refine (cacheSameI_c u u _ _ _ _ _ HF1.out.rd HF2.out.rd hfew hfew).mono ?_; rintro r w3 ⟨rfl, hb3⟩
  have Y3 : Hid (Chg 0 0 v3 w3) := Lib.hid (Chg.of_ex hb3)
  have s3 : v3.heap.size ≤ w3.heap.size := Y3.out.size
  have Ew3 : Hid (Ex w w3) := Lib.hid (Ev3.out.chg Y3.out (by omega))
  clear hb3
  replace KC : Hid (Blk w3 (w0.heap.size) 25 [.slice A0 t.lines.length c0, .int .i64 t.hand]) := Lib.hid (KC.out.chg Y3.out (by omega))
  replace KD : Hid (Blk w3 (w1.heap.size) 25 [.slice A1 u.lines.length c1, .int .i64 u.hand]) := Lib.hid (KD.out.chg Y3.out (by omega))
  replace KW : Hid (Blk w3 (w2.heap.size) 25 [.slice A2 u.lines.length c2, .int .i64 u.hand]) := Lib.hid (KW.out.chg Y3.out (by omega))
  replace HF0 := Lib.hid (HF0.out.chg Y3.out WHF0.out (by omega))
  replace HF1 := Lib.hid (HF1.out.chg Y3.out WHF1.out (by omega))
  replace HF2 := Lib.hid (HF2.out.chg Y3.out WHF2.out (by omega))
  obtain ⟨qC0, qC1⟩ := KC.out.c2
  have jC := KC.out.lt
  obtain ⟨qD0, qD1⟩ := KD.out.c2
  have jD := KD.out.lt
  obtain ⟨qW0, qW1⟩ := KW.out.c2
  have jW := KW.out.lt
  rw [eqB_self]
  clear qW0 qW1 jW
  clear KW
  clear HF2 WHF2
  go_wp2
  obtain ⟨wE, hwE⟩ : ∃ wE : World, wE = w3.alloc (.cells #[.slice A0 t.lines.length c0, .int .i64 t.hand] 25) := ⟨_, rfl⟩
  obtain ⟨gX, hgX⟩ : ∃ gX, gX = w3.heap.size := ⟨_, rfl⟩
  obtain ⟨gD, hgD⟩ : ∃ gD, gD = w1.heap.size := ⟨_, rfl⟩
  have HST : Hid (AllLoop t u gX gD A1 c1 v1.heap.size w (.int .i64 (-1)) wE) := Lib.hid ⟨0, A0, c0, rfl, Nat.zero_le _, by rw [hwE]; exact Ew3.out.alloc _, by rw [hwE, hgD]; exact KD.out.alloc _, by rw [hwE]; exact HF1.out.alloc _, by rw [hwE, hgX, upTo_zero HCV.out]; exact Blk.new _ _ _, by rw [hwE, upTo_zero HCV.out]; exact (HF0.out.alloc _).mono (by omega), fun b hb => by have := WHF0.out b hb; omega⟩
  have hgXD : gD < gX := by omega
  have hwX : w.heap.size ≤ gD := by omega
  have hX1 : v1.heap.size ≤ gX := by omega
  have WX1 : Hid (∀ b, rowOf A1 c1 = some b → b ≠ gX) := Lib.hid (fun b hb => by have := WHF1.out b hb; omega)
  have hgd1 : w1.heap.size ≤ gX := by omega
  rw [← hwE, ← hgX, ← hgD]
  clear hwE hgX hgD
  clear qC0 qC1 jC
  clear KC
  clear qD0 qD1 jD
  clear KD
  clear HF0 WHF0
  clear HF1 WHF1
  go_loopw [9] (fun i wr => AllLoop t u gX gD A1 c1 v1.heap.size w i wr) (fun i _ => (8 - intOf i).toNat)
  case atStart => exact HST.out
  case round =>
    clear HST
    obtain ⟨k, A, c, rfl, hk, hex, hkd, hf1, hkx, hfx, hrx⟩ := hrel
    have Ewr := Lib.hid hex
    have KD := Lib.hid hkd
    have KX := Lib.hid hkx
    have HF1 := Lib.hid hf1
    have HFX := Lib.hid hfx
    have WHF1 := Lib.hid hf1.row
    have WHFX := Lib.hid hfx.row
    have HRX := Lib.hid hrx
    have hnx : (upTo t k).lines.length ≤ 1048576 := by simp [upTo, dropIf]; exact hn
    have C4 := Lib.hid (dropTagI_c (upTo t k) ((k : Int) - 1))
    clear hex hkd hf1 hkx hfx hrx
    obtain ⟨qD0, qD1⟩ := KD.out.c2
    have jD := KD.out.lt
    obtain ⟨qX0, qX1⟩ := KX.out.c2
    have jX := KX.out.lt
    have hsz := Ewr.out.size
    have hgXr := KX.out.lt
    by_cases hlt : k < 9
    · have hlt' : (k : Int) - 1 < 8 := by omega
      rw [upTo_step HCV.out hlt] at C4
      dsimp only at C4
      go_wp2_with fail
      refine name_calls ?_; intro v4 hv4
      have X4 : Hid (Chg (0) (0) wr v4) := Lib.hid (by rw [hv4]; repeat' (first | with_reducible exact Chg.refl _ _ _ | with_reducible refine Chg.alloc ?_ _ | with_reducible refine Chg.drew ?_ | with_reducible refine Chg.set ?_ (by omega) _))
      have t4 : wr.heap.size ≤ v4.heap.size := X4.out.size
      have Ev4 : Hid (Ex w v4) := Lib.hid (Ewr.out.chg X4.out (by omega))
      clear qD0 qD1 jD
      clear qX0 qX1 jX
      replace KD : Hid (Blk v4 (gD) 25 [.slice A1 u.lines.length c1, .int .i64 u.hand]) := Lib.hid (KD.out.chg X4.out (by omega))
      replace KX : Hid (Blk v4 (gX) 25 [.slice A (upTo t k).lines.length c, .int .i64 (upTo t k).hand]) := Lib.hid (KX.out.chg X4.out (by omega))
      replace HF1 := Lib.hid (HF1.out.chg X4.out WHF1.out (by omega))
      replace HFX := Lib.hid (HFX.out.chg X4.out WHFX.out (by omega))
      clear hv4
      refine (C4.out A c _ HFX.out.rd hnx HFX.out.le HFX.out.cap).mono ?_; rintro r w4 ⟨A4, c4, rfl, hf4, hb4⟩
      have Y4 : Hid (Chg 0 0 v4 w4) := Lib.hid (Chg.of_ex hb4)
      have s4 : v4.heap.size ≤ w4.heap.size := Y4.out.size
      have Ew4 : Hid (Ex w w4) := Lib.hid (Ev4.out.chg Y4.out (by omega))
      clear hb4
      replace KD : Hid (Blk w4 (gD) 25 [.slice A1 u.lines.length c1, .int .i64 u.hand]) := Lib.hid (KD.out.chg Y4.out (by omega))
      replace KX : Hid (Blk w4 (gX) 25 [.slice A (upTo t k).lines.length c, .int .i64 (upTo t k).hand]) := Lib.hid (KX.out.chg Y4.out (by omega))
      replace HF1 := Lib.hid (HF1.out.chg Y4.out WHF1.out (by omega))
      replace HFX := Lib.hid (HFX.out.chg Y4.out WHFX.out (by omega))
      have HF4 := Lib.hid hf4; clear hf4
      have WHF4 := Lib.hid HF4.out.row
      obtain ⟨qD0, qD1⟩ := KD.out.c2
      have jD := KD.out.lt
      obtain ⟨qX0, qX1⟩ := KX.out.c2
      have jX := KX.out.lt
      have zX := KX.out.frozen
      have hn4 : ¬ gX = w4.heap.size := by omega
      have hd4 : ¬ gD = gX := by omega
      have HK1 : Hid ((k : Int) = ((k + 1 : Nat) : Int) - 1) := Lib.hid (by omega)
      go_wp2
      go_roundw
      case rel => exact ⟨k + 1, A4, c4, congrArg (Value.int .i64) HK1.out, by omega, (by repeat' (first | with_reducible exact Ew4.out | with_reducible refine Ex.alloc ?_ _ | with_reducible refine Ex.drew ?_ | with_reducible refine Ex.put ?_ (by omega) _)), by repeat' (first | with_reducible exact KD.out | with_reducible refine Blk.alloc ?_ _ | with_reducible refine Blk.far ?_ (by simp; omega) _), by repeat' (first | with_reducible exact HF1.out | with_reducible refine Fr.alloc ?_ _ | with_reducible refine Fr.put ?_ WX1.out _), by repeat' (first | with_reducible refine Blk.alloc ?_ _ | with_reducible exact Blk.put2 KX.out), Fr.mono (B := v4.heap.size) (by repeat' (first | with_reducible exact HF4.out | with_reducible refine Fr.alloc ?_ _ | with_reducible refine Fr.drew ?_ | with_reducible refine Fr.set_below ?_ (by first | (simp; done) | (simp; omega)) _)) (by omega), fun b hb => by have := WHF4.out b hb; omega⟩
      case measure => simp [intOf]; omega
    · obtain rfl : k = 9 := by omega
      rw [HEND.out] at KX HFX qX0 qX1
      go_wp2_with fail
      refine name_calls ?_; intro v5 hv5
      have X5 : Hid (Chg (0) (0) wr v5) := Lib.hid (by rw [hv5]; repeat' (first | with_reducible exact Chg.refl _ _ _ | with_reducible refine Chg.alloc ?_ _ | with_reducible refine Chg.drew ?_ | with_reducible refine Chg.set ?_ (by omega) _))
      have t5 : wr.heap.size ≤ v5.heap.size := X5.out.size
      have Ev5 : Hid (Ex w v5) := Lib.hid (Ewr.out.chg X5.out (by omega))
      clear qD0 qD1 jD
      clear qX0 qX1 jX
      replace KD : Hid (Blk v5 (gD) 25 [.slice A1 u.lines.length c1, .int .i64 u.hand]) := Lib.hid (KD.out.chg X5.out (by omega))
      replace KX : Hid (Blk v5 (gX) 25 [.slice A u.lines.length c, .int .i64 u.hand]) := Lib.hid (KX.out.chg X5.out (by omega))
      replace HF1 := Lib.hid (HF1.out.chg X5.out WHF1.out (by omega))
      replace HFX := Lib.hid (HFX.out.chg X5.out WHFX.out (by omega))
      clear hv5
      refine (cacheValidI_c u A1 c1 _ HF1.out.rd hfew HF1.out.le).mono ?_; rintro r w5 ⟨rfl, hb5⟩
      have Y5 : Hid (Chg 0 0 v5 w5) := Lib.hid (Chg.of_ex hb5)
      have s5 : v5.heap.size ≤ w5.heap.size := Y5.out.size
      have Ew5 : Hid (Ex w w5) := Lib.hid (Ev5.out.chg Y5.out (by omega))
      clear hb5
      replace KD : Hid (Blk w5 (gD) 25 [.slice A1 u.lines.length c1, .int .i64 u.hand]) := Lib.hid (KD.out.chg Y5.out (by omega))
      replace KX : Hid (Blk w5 (gX) 25 [.slice A u.lines.length c, .int .i64 u.hand]) := Lib.hid (KX.out.chg Y5.out (by omega))
      replace HF1 := Lib.hid (HF1.out.chg Y5.out WHF1.out (by omega))
      replace HFX := Lib.hid (HFX.out.chg Y5.out WHFX.out (by omega))
      obtain ⟨qD0, qD1⟩ := KD.out.c2
      have jD := KD.out.lt
      obtain ⟨qX0, qX1⟩ := KX.out.c2
      have jX := KX.out.lt
      rw [(cv_iff u).2 CDV.out]
      go_wp2_with fail
      refine name_calls ?_; intro v6 hv6
      have X6 : Hid (Chg (0) (0) w5 v6) := Lib.hid (by rw [hv6]; repeat' (first | with_reducible exact Chg.refl _ _ _ | with_reducible refine Chg.alloc ?_ _ | with_reducible refine Chg.drew ?_ | with_reducible refine Chg.set ?_ (by omega) _))
      have t6 : w5.heap.size ≤ v6.heap.size := X6.out.size
      have Ev6 : Hid (Ex w v6) := Lib.hid (Ew5.out.chg X6.out (by omega))
      clear qD0 qD1 jD
      clear qX0 qX1 jX
      replace KD : Hid (Blk v6 (gD) 25 [.slice A1 u.lines.length c1, .int .i64 u.hand]) := Lib.hid (KD.out.chg X6.out (by omega))
      replace KX : Hid (Blk v6 (gX) 25 [.slice A u.lines.length c, .int .i64 u.hand]) := Lib.hid (KX.out.chg X6.out (by omega))
      replace HF1 := Lib.hid (HF1.out.chg X6.out WHF1.out (by omega))
      replace HFX := Lib.hid (HFX.out.chg X6.out WHFX.out (by omega))
      clear hv6
      refine (cacheSameI_c u u _ _ _ _ _ HFX.out.rd HF1.out.rd hfew hfew).mono ?_; rintro r w6 ⟨rfl, hb6⟩
      have Y6 : Hid (Chg 0 0 v6 w6) := Lib.hid (Chg.of_ex hb6)
      have s6 : v6.heap.size ≤ w6.heap.size := Y6.out.size
      have Ew6 : Hid (Ex w w6) := Lib.hid (Ev6.out.chg Y6.out (by omega))
      clear hb6
      replace KD : Hid (Blk w6 (gD) 25 [.slice A1 u.lines.length c1, .int .i64 u.hand]) := Lib.hid (KD.out.chg Y6.out (by omega))
      replace KX : Hid (Blk w6 (gX) 25 [.slice A u.lines.length c, .int .i64 u.hand]) := Lib.hid (KX.out.chg Y6.out (by omega))
      replace HF1 := Lib.hid (HF1.out.chg Y6.out WHF1.out (by omega))
      replace HFX := Lib.hid (HFX.out.chg Y6.out WHFX.out (by omega))
      obtain ⟨qD0, qD1⟩ := KD.out.c2
      have jD := KD.out.lt
      obtain ⟨qX0, qX1⟩ := KX.out.c2
      have jX := KX.out.lt
      rw [eqB_self]
      go_wp2
      go_ret
      exact ⟨rfl, Ew6.out⟩
end Go.Proofs.Ytcaaficjcghheab
