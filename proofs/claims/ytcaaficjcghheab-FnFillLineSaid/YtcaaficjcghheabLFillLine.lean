/- The law FnFillLine: the walk. -/
import Derived.Test.YtcaaficjcghheabDf
import Derived.Test.YtcaaficjcghheabCg
import Derived.Test.YtcaaficjcghheabLg
import Derived.Deep.RegionHeld3
namespace Go.Proofs.Ytcaaficjcghheab
open Go.ChangeShapes Go.WideShapes Go.ChangeAt Go.RowKit
open Rec (sz cs)
set_option linter.unusedVariables false
set_option maxRecDepth 100000

/-- What holds at the head of the law's loop. -/
def FillRound (t u : CacheD) (gC gD a1 o1 c0 b1 o2 c1 : Nat) (x : LineD) (w : World) (i : Value) (wr : World) : Prop := ∃ k : Nat, k ≤ t.lines.length ∧ i = .int .i64 k ∧ Ex w wr ∧ Blk wr gC 25 [.slice (some ⟨a1, o1, none⟩) t.lines.length c0, .int .i64 t.hand] ∧
  Blk wr (gC + 1) 31 [.bool x.valid, .int .i64 x.tag, .int .i64 x.page, .int .i64 x.frame, .int .i64 x.rights, .bool x.wired] ∧ Blk wr gD 25 [.slice (some ⟨b1, o2, none⟩) u.lines.length c1, .int .i64 u.hand] ∧ Rd wr (some ⟨a1, o1, none⟩) t.lines ∧ Rd wr (some ⟨b1, o2, none⟩) u.lines

set_option maxHeartbeats 16000000 in
theorem walk_FnFillLine (A : Option Addr) (n c : Nat) (bs : List ByteD) (w : World) (hr : Rd w A bs) (hc : Bytes bs ∧ bs.length = n ∧ n ≤ c ∧ c ≤ maxLen) :
    Calls Try.prog 10 #[.slice A n c] w fun r w' => r = .returned (.bool true) ∧ Ex w w' := by
  obtain ⟨hb, rfl, hnc, hcm⟩ := hc
  by_cases hbig : 1048576 < bs.length
  · have hbig' : (1048576 : Int) < (bs.length : Int) := by omega
    unfold maxLen at hcm
    generalize bs.length = n at *
    go_enter Try.func10, Try.ntmps10
    go_wp2
    go_ret
    exact ⟨rfl, Ex.refl _⟩
  have hsm : ¬ (1048576 : Int) < (bs.length : Int) := by omega
  have C0 := Lib.hid (fun w' (h : Ex w w') => drawFillLine_c A c bs w' (hr.ex h) hb (by omega) hnc hcm)
  have hcm' := hcm
  unfold maxLen at hcm'
  generalize bs.length = n at *
  clear hr hb hcm
  go_enter Try.func10, Try.ntmps10
  go_wp2_with fail
  refine name_calls ?_; intro v0 hv0
  have X0 : Hid (Chg (0) (0) w v0) := Lib.hid (by rw [hv0]; repeat' (first | with_reducible exact Chg.refl _ _ _ | with_reducible refine Chg.alloc ?_ _ | with_reducible refine Chg.drew ?_ | with_reducible refine Chg.set ?_ (by omega) _))
  have t0 : w.heap.size ≤ v0.heap.size := X0.out.size
  have Ev0 : Hid (Ex w v0) := Lib.hid ((Ex.refl w).chg X0.out (by omega))
  clear hv0
  refine (C0.out _ Ev0.out).mono ?_; rintro r w0 ⟨t, x, A0, c0, rfl, hww, hf0, hb0⟩
  have Y0 : Hid (Chg 0 0 v0 w0) := Lib.hid (Chg.of_ex hb0)
  have s0 : v0.heap.size ≤ w0.heap.size := Y0.out.size
  have Ew0 : Hid (Ex w w0) := Lib.hid (Ev0.out.chg Y0.out (by omega))
  clear hb0
  have HF0 := Lib.hid hf0; clear hf0
  have WHF0 := Lib.hid HF0.out.row
  have hn : t.lines.length ≤ 1048576 := by have := hww.1; omega
  have C1 := Lib.hid (fillLineI_c t x)
  have C2 := Lib.hid (fillLineS_c t x)
  have hfew := fillLine_few t x hn
  obtain ⟨xv, xt, xp, xf, xr, xw⟩ := x
  have HOK : Hid (∀ u a, fillLine t ⟨xv, xt, xp, xf, xr, xw⟩ = (u, a, true) → ∃ v : Nat, a = (v : Int) ∧ Filled t ⟨xv, xt, xp, xf, xr, xw⟩ u v) := Lib.hid (fun u a h => fill_ok h)
  generalize fillLine t ⟨xv, xt, xp, xf, xr, xw⟩ = q at C1 C2 hfew HOK
  obtain ⟨u, a, ok⟩ := q
  dsimp only at C1 C2 hfew
  clear hww C0
  cases ok
  · have hv0 : (a != a) = false := by simp
    have hv1 : (a == a) = true := by simp
    go_wp2_with fail
    refine name_calls ?_; intro v1 hv1
    have X1 : Hid (Chg (0) (0) w0 v1) := Lib.hid (by rw [hv1]; repeat' (first | with_reducible exact Chg.refl _ _ _ | with_reducible refine Chg.alloc ?_ _ | with_reducible refine Chg.drew ?_ | with_reducible refine Chg.set ?_ (by omega) _))
    have t1 : w0.heap.size ≤ v1.heap.size := X1.out.size
    have Ev1 : Hid (Ex w v1) := Lib.hid (Ew0.out.chg X1.out (by omega))
    replace HF0 := Lib.hid (HF0.out.chg X1.out WHF0.out (by omega))
    have KC : Hid (Blk v1 (w0.heap.size) 25 [.slice A0 t.lines.length c0, .int .i64 t.hand]) := Lib.hid (by rw [hv1]; repeat' (first | with_reducible exact Blk.new_at _ _ _ (by simp) | with_reducible refine Blk.alloc ?_ _ | with_reducible refine Blk.drew ?_ | with_reducible refine Blk.far ?_ (by simp; omega) _))
    have lC : w0.heap.size < v1.heap.size := KC.out.lt
    have KX : Hid (Blk v1 (w0.heap.size + 1) 31 [.bool xv, .int .i64 xt, .int .i64 xp, .int .i64 xf, .int .i64 xr, .bool xw]) := Lib.hid (by rw [hv1]; repeat' (first | with_reducible exact Blk.new_at _ _ _ (by simp) | with_reducible refine Blk.alloc ?_ _ | with_reducible refine Blk.drew ?_ | with_reducible refine Blk.far ?_ (by simp; omega) _))
    have lX : w0.heap.size + 1 < v1.heap.size := KX.out.lt
    clear hv1
    refine (C1.out _ c0 _ HF0.out.rd hn HF0.out.le HF0.out.cap).mono ?_; rintro r w1 ⟨A1, c1, rfl, hf1, hb1⟩
    have Y1 : Hid (Chg 0 0 v1 w1) := Lib.hid (Chg.of_ex hb1)
    have s1 : v1.heap.size ≤ w1.heap.size := Y1.out.size
    have Ew1 : Hid (Ex w w1) := Lib.hid (Ev1.out.chg Y1.out (by omega))
    clear hb1
    replace KC : Hid (Blk w1 (w0.heap.size) 25 [.slice A0 t.lines.length c0, .int .i64 t.hand]) := Lib.hid (KC.out.chg Y1.out (by omega))
    replace KX : Hid (Blk w1 (w0.heap.size + 1) 31 [.bool xv, .int .i64 xt, .int .i64 xp, .int .i64 xf, .int .i64 xr, .bool xw]) := Lib.hid (KX.out.chg Y1.out (by omega))
    replace HF0 := Lib.hid (HF0.out.chg Y1.out WHF0.out (by omega))
    have HF1 := Lib.hid hf1; clear hf1
    have WHF1 := Lib.hid HF1.out.row
    obtain ⟨qC0, qC1⟩ := KC.out.c2
    have jC := KC.out.lt
    obtain ⟨qX0, qX1, qX2, qX3, qX4, qX5⟩ := KX.out.c6
    have jX := KX.out.lt
    go_wp2_with fail
    refine name_calls ?_; intro v2 hv2
    have X2 : Hid (Chg (0) (0) w1 v2) := Lib.hid (by rw [hv2]; repeat' (first | with_reducible exact Chg.refl _ _ _ | with_reducible refine Chg.alloc ?_ _ | with_reducible refine Chg.drew ?_ | with_reducible refine Chg.set ?_ (by omega) _))
    have t2 : w1.heap.size ≤ v2.heap.size := X2.out.size
    have Ev2 : Hid (Ex w v2) := Lib.hid (Ew1.out.chg X2.out (by omega))
    clear qC0 qC1 jC
    clear qX0 qX1 qX2 qX3 qX4 qX5 jX
    replace KC : Hid (Blk v2 (w0.heap.size) 25 [.slice A0 t.lines.length c0, .int .i64 t.hand]) := Lib.hid (KC.out.chg X2.out (by omega))
    replace KX : Hid (Blk v2 (w0.heap.size + 1) 31 [.bool xv, .int .i64 xt, .int .i64 xp, .int .i64 xf, .int .i64 xr, .bool xw]) := Lib.hid (KX.out.chg X2.out (by omega))
    replace HF0 := Lib.hid (HF0.out.chg X2.out WHF0.out (by omega))
    replace HF1 := Lib.hid (HF1.out.chg X2.out WHF1.out (by omega))
    have KD : Hid (Blk v2 (w1.heap.size) 25 [.slice A1 u.lines.length c1, .int .i64 u.hand]) := Lib.hid (by rw [hv2]; repeat' (first | with_reducible exact Blk.new_at _ _ _ (by simp) | with_reducible refine Blk.alloc ?_ _ | with_reducible refine Blk.drew ?_ | with_reducible refine Blk.far ?_ (by simp; omega) _))
    have lD : w1.heap.size < v2.heap.size := KD.out.lt
    clear hv2
    refine (C2.out _ c0 _ HF0.out.rd hn HF0.out.le HF0.out.cap).mono ?_; rintro r w2 ⟨A2, c2, rfl, hf2, hb2⟩
    have Y2 : Hid (Chg 0 0 v2 w2) := Lib.hid (Chg.of_ex hb2)
    have s2 : v2.heap.size ≤ w2.heap.size := Y2.out.size
    have Ew2 : Hid (Ex w w2) := Lib.hid (Ev2.out.chg Y2.out (by omega))
    clear hb2
    replace KC : Hid (Blk w2 (w0.heap.size) 25 [.slice A0 t.lines.length c0, .int .i64 t.hand]) := Lib.hid (KC.out.chg Y2.out (by omega))
    replace KX : Hid (Blk w2 (w0.heap.size + 1) 31 [.bool xv, .int .i64 xt, .int .i64 xp, .int .i64 xf, .int .i64 xr, .bool xw]) := Lib.hid (KX.out.chg Y2.out (by omega))
    replace KD : Hid (Blk w2 (w1.heap.size) 25 [.slice A1 u.lines.length c1, .int .i64 u.hand]) := Lib.hid (KD.out.chg Y2.out (by omega))
    replace HF0 := Lib.hid (HF0.out.chg Y2.out WHF0.out (by omega))
    replace HF1 := Lib.hid (HF1.out.chg Y2.out WHF1.out (by omega))
    have HF2 := Lib.hid hf2; clear hf2
    have WHF2 := Lib.hid HF2.out.row
    obtain ⟨qC0, qC1⟩ := KC.out.c2
    have jC := KC.out.lt
    obtain ⟨qX0, qX1, qX2, qX3, qX4, qX5⟩ := KX.out.c6
    have jX := KX.out.lt
    obtain ⟨qD0, qD1⟩ := KD.out.c2
    have jD := KD.out.lt
    go_wp2_with fail
    refine name_calls ?_; intro v3 hv3
    have X3 : Hid (Chg (0) (0) w2 v3) := Lib.hid (by rw [hv3]; repeat' (first | with_reducible exact Chg.refl _ _ _ | with_reducible refine Chg.alloc ?_ _ | with_reducible refine Chg.drew ?_ | with_reducible refine Chg.set ?_ (by omega) _))
    have t3 : w2.heap.size ≤ v3.heap.size := X3.out.size
    have Ev3 : Hid (Ex w v3) := Lib.hid (Ew2.out.chg X3.out (by omega))
    clear qC0 qC1 jC
    clear qX0 qX1 qX2 qX3 qX4 qX5 jX
    clear qD0 qD1 jD
    replace KC : Hid (Blk v3 (w0.heap.size) 25 [.slice A0 t.lines.length c0, .int .i64 t.hand]) := Lib.hid (KC.out.chg X3.out (by omega))
    replace KX : Hid (Blk v3 (w0.heap.size + 1) 31 [.bool xv, .int .i64 xt, .int .i64 xp, .int .i64 xf, .int .i64 xr, .bool xw]) := Lib.hid (KX.out.chg X3.out (by omega))
    replace KD : Hid (Blk v3 (w1.heap.size) 25 [.slice A1 u.lines.length c1, .int .i64 u.hand]) := Lib.hid (KD.out.chg X3.out (by omega))
    replace HF0 := Lib.hid (HF0.out.chg X3.out WHF0.out (by omega))
    replace HF1 := Lib.hid (HF1.out.chg X3.out WHF1.out (by omega))
    replace HF2 := Lib.hid (HF2.out.chg X3.out WHF2.out (by omega))
    have KW : Hid (Blk v3 (w2.heap.size) 25 [.slice A2 u.lines.length c2, .int .i64 u.hand]) := Lib.hid (by rw [hv3]; repeat' (first | with_reducible exact Blk.new_at _ _ _ (by simp) | with_reducible refine Blk.alloc ?_ _ | with_reducible refine Blk.drew ?_ | with_reducible refine Blk.far ?_ (by simp; omega) _))
    have lW : w2.heap.size < v3.heap.size := KW.out.lt
    clear hv3
    refine (cacheSameI_c u u _ _ _ _ _ HF1.out.rd HF2.out.rd hfew hfew).mono ?_; rintro r w3 ⟨rfl, hb3⟩
    have Y3 : Hid (Chg 0 0 v3 w3) := Lib.hid (Chg.of_ex hb3)
    have s3 : v3.heap.size ≤ w3.heap.size := Y3.out.size
    have Ew3 : Hid (Ex w w3) := Lib.hid (Ev3.out.chg Y3.out (by omega))
    clear hb3
    replace KC : Hid (Blk w3 (w0.heap.size) 25 [.slice A0 t.lines.length c0, .int .i64 t.hand]) := Lib.hid (KC.out.chg Y3.out (by omega))
    replace KX : Hid (Blk w3 (w0.heap.size + 1) 31 [.bool xv, .int .i64 xt, .int .i64 xp, .int .i64 xf, .int .i64 xr, .bool xw]) := Lib.hid (KX.out.chg Y3.out (by omega))
    replace KD : Hid (Blk w3 (w1.heap.size) 25 [.slice A1 u.lines.length c1, .int .i64 u.hand]) := Lib.hid (KD.out.chg Y3.out (by omega))
    replace KW : Hid (Blk w3 (w2.heap.size) 25 [.slice A2 u.lines.length c2, .int .i64 u.hand]) := Lib.hid (KW.out.chg Y3.out (by omega))
    replace HF0 := Lib.hid (HF0.out.chg Y3.out WHF0.out (by omega))
    replace HF1 := Lib.hid (HF1.out.chg Y3.out WHF1.out (by omega))
    replace HF2 := Lib.hid (HF2.out.chg Y3.out WHF2.out (by omega))
    obtain ⟨qC0, qC1⟩ := KC.out.c2
    have jC := KC.out.lt
    obtain ⟨qX0, qX1, qX2, qX3, qX4, qX5⟩ := KX.out.c6
    have jX := KX.out.lt
    obtain ⟨qD0, qD1⟩ := KD.out.c2
    have jD := KD.out.lt
    obtain ⟨qW0, qW1⟩ := KW.out.c2
    have jW := KW.out.lt
    rw [eqB_self]
    go_wp2_with fail
    refine name_calls ?_; intro v4 hv4
    have X4 : Hid (Chg (0) (0) w3 v4) := Lib.hid (by rw [hv4]; repeat' (first | with_reducible exact Chg.refl _ _ _ | with_reducible refine Chg.alloc ?_ _ | with_reducible refine Chg.drew ?_ | with_reducible refine Chg.set ?_ (by omega) _))
    have t4 : w3.heap.size ≤ v4.heap.size := X4.out.size
    have Ev4 : Hid (Ex w v4) := Lib.hid (Ew3.out.chg X4.out (by omega))
    clear qC0 qC1 jC
    clear qX0 qX1 qX2 qX3 qX4 qX5 jX
    clear qD0 qD1 jD
    clear qW0 qW1 jW
    replace KC : Hid (Blk v4 (w0.heap.size) 25 [.slice A0 t.lines.length c0, .int .i64 t.hand]) := Lib.hid (KC.out.chg X4.out (by omega))
    replace KX : Hid (Blk v4 (w0.heap.size + 1) 31 [.bool xv, .int .i64 xt, .int .i64 xp, .int .i64 xf, .int .i64 xr, .bool xw]) := Lib.hid (KX.out.chg X4.out (by omega))
    replace KD : Hid (Blk v4 (w1.heap.size) 25 [.slice A1 u.lines.length c1, .int .i64 u.hand]) := Lib.hid (KD.out.chg X4.out (by omega))
    replace KW : Hid (Blk v4 (w2.heap.size) 25 [.slice A2 u.lines.length c2, .int .i64 u.hand]) := Lib.hid (KW.out.chg X4.out (by omega))
    replace HF0 := Lib.hid (HF0.out.chg X4.out WHF0.out (by omega))
    replace HF1 := Lib.hid (HF1.out.chg X4.out WHF1.out (by omega))
    replace HF2 := Lib.hid (HF2.out.chg X4.out WHF2.out (by omega))
    clear hv4
    refine (cacheSameI_c u u _ _ _ _ _ HF1.out.rd HF2.out.rd hfew hfew).mono ?_; rintro r w4 ⟨rfl, hb4⟩
    have Y4 : Hid (Chg 0 0 v4 w4) := Lib.hid (Chg.of_ex hb4)
    have s4 : v4.heap.size ≤ w4.heap.size := Y4.out.size
    have Ew4 : Hid (Ex w w4) := Lib.hid (Ev4.out.chg Y4.out (by omega))
    clear hb4
    replace KC : Hid (Blk w4 (w0.heap.size) 25 [.slice A0 t.lines.length c0, .int .i64 t.hand]) := Lib.hid (KC.out.chg Y4.out (by omega))
    replace KX : Hid (Blk w4 (w0.heap.size + 1) 31 [.bool xv, .int .i64 xt, .int .i64 xp, .int .i64 xf, .int .i64 xr, .bool xw]) := Lib.hid (KX.out.chg Y4.out (by omega))
    replace KD : Hid (Blk w4 (w1.heap.size) 25 [.slice A1 u.lines.length c1, .int .i64 u.hand]) := Lib.hid (KD.out.chg Y4.out (by omega))
    replace KW : Hid (Blk w4 (w2.heap.size) 25 [.slice A2 u.lines.length c2, .int .i64 u.hand]) := Lib.hid (KW.out.chg Y4.out (by omega))
    replace HF0 := Lib.hid (HF0.out.chg Y4.out WHF0.out (by omega))
    replace HF1 := Lib.hid (HF1.out.chg Y4.out WHF1.out (by omega))
    replace HF2 := Lib.hid (HF2.out.chg Y4.out WHF2.out (by omega))
    obtain ⟨qC0, qC1⟩ := KC.out.c2
    have jC := KC.out.lt
    obtain ⟨qX0, qX1, qX2, qX3, qX4, qX5⟩ := KX.out.c6
    have jX := KX.out.lt
    obtain ⟨qD0, qD1⟩ := KD.out.c2
    have jD := KD.out.lt
    obtain ⟨qW0, qW1⟩ := KW.out.c2
    have jW := KW.out.lt
    rw [eqB_self]
    go_wp2
    go_ret
    exact ⟨rfl, Ew4.out⟩
  obtain ⟨v, rfl, hfl⟩ := HOK.out u a rfl
  have HFL := Lib.hid hfl
  have hxv := hfl.xv
  simp only at hxv
  subst hxv
  have C4 := Lib.hid (victimI_c t)
  rw [victimOf_eq hfl.ct, hfl.va] at C4
  have C5 := Lib.hid (findLineI_c u xt xp)
  have hfd := hfl.find
  simp only at hfd
  rw [hfd] at C5
  dsimp only at C4 C5
  have hvl := hfl.vl
  obtain ⟨y, hy, hyw⟩ := hfl.vw
  have HY := Lib.hid hy
  have HYW := Lib.hid hyw
  have HUV : Hid (cacheV u = true) := Lib.hid ((cv_iff u).2 hfl.cu)
  have hul : u.lines.length = t.lines.length := by rw [hfl.ul, List.length_set]
  have HUL := Lib.hid hul
  have HOT : Hid (∀ i : Nat, i ≠ v → u.lines[i]? = t.lines[i]?) := Lib.hid (fun i hi => hfl.others hi)
  have HAT := Lib.hid hfl.at_
  have hvu : v < u.lines.length := by omega
  clear hfl hfd hy hyw hul
  obtain ⟨a1, o1, hA, -, -⟩ := HF0.out.rd (by omega)
  subst hA
  have hv0 : ((v : Int) != (v : Int)) = false := by simp
  go_wp2_with fail
  refine name_calls ?_; intro v1 hv1
  have X1 : Hid (Chg (0) (0) w0 v1) := Lib.hid (by rw [hv1]; repeat' (first | with_reducible exact Chg.refl _ _ _ | with_reducible refine Chg.alloc ?_ _ | with_reducible refine Chg.drew ?_ | with_reducible refine Chg.set ?_ (by omega) _))
  have t1 : w0.heap.size ≤ v1.heap.size := X1.out.size
  have Ev1 : Hid (Ex w v1) := Lib.hid (Ew0.out.chg X1.out (by omega))
  replace HF0 := Lib.hid (HF0.out.chg X1.out WHF0.out (by omega))
  have KC : Hid (Blk v1 (w0.heap.size) 25 [.slice (some ⟨a1, o1, none⟩) t.lines.length c0, .int .i64 t.hand]) := Lib.hid (by rw [hv1]; repeat' (first | with_reducible exact Blk.new_at _ _ _ (by simp) | with_reducible refine Blk.alloc ?_ _ | with_reducible refine Blk.drew ?_ | with_reducible refine Blk.far ?_ (by simp; omega) _))
  have lC : w0.heap.size < v1.heap.size := KC.out.lt
  have KX : Hid (Blk v1 (w0.heap.size + 1) 31 [.bool true, .int .i64 xt, .int .i64 xp, .int .i64 xf, .int .i64 xr, .bool xw]) := Lib.hid (by rw [hv1]; repeat' (first | with_reducible exact Blk.new_at _ _ _ (by simp) | with_reducible refine Blk.alloc ?_ _ | with_reducible refine Blk.drew ?_ | with_reducible refine Blk.far ?_ (by simp; omega) _))
  have lX : w0.heap.size + 1 < v1.heap.size := KX.out.lt
  clear hv1
  refine (C1.out _ c0 _ HF0.out.rd hn HF0.out.le HF0.out.cap).mono ?_; rintro r w1 ⟨A1, c1, rfl, hf1, hb1⟩
  have Y1 : Hid (Chg 0 0 v1 w1) := Lib.hid (Chg.of_ex hb1)
  have s1 : v1.heap.size ≤ w1.heap.size := Y1.out.size
  have Ew1 : Hid (Ex w w1) := Lib.hid (Ev1.out.chg Y1.out (by omega))
  clear hb1
  replace KC : Hid (Blk w1 (w0.heap.size) 25 [.slice (some ⟨a1, o1, none⟩) t.lines.length c0, .int .i64 t.hand]) := Lib.hid (KC.out.chg Y1.out (by omega))
  replace KX : Hid (Blk w1 (w0.heap.size + 1) 31 [.bool true, .int .i64 xt, .int .i64 xp, .int .i64 xf, .int .i64 xr, .bool xw]) := Lib.hid (KX.out.chg Y1.out (by omega))
  replace HF0 := Lib.hid (HF0.out.chg Y1.out WHF0.out (by omega))
  have HF1 := Lib.hid hf1; clear hf1
  have WHF1 := Lib.hid HF1.out.row
  obtain ⟨qC0, qC1⟩ := KC.out.c2
  have jC := KC.out.lt
  obtain ⟨qX0, qX1, qX2, qX3, qX4, qX5⟩ := KX.out.c6
  have jX := KX.out.lt
  go_wp2_with fail
  refine name_calls ?_; intro v2 hv2
  have X2 : Hid (Chg (0) (0) w1 v2) := Lib.hid (by rw [hv2]; repeat' (first | with_reducible exact Chg.refl _ _ _ | with_reducible refine Chg.alloc ?_ _ | with_reducible refine Chg.drew ?_ | with_reducible refine Chg.set ?_ (by omega) _))
  have t2 : w1.heap.size ≤ v2.heap.size := X2.out.size
  have Ev2 : Hid (Ex w v2) := Lib.hid (Ew1.out.chg X2.out (by omega))
  clear qC0 qC1 jC
  clear qX0 qX1 qX2 qX3 qX4 qX5 jX
  replace KC : Hid (Blk v2 (w0.heap.size) 25 [.slice (some ⟨a1, o1, none⟩) t.lines.length c0, .int .i64 t.hand]) := Lib.hid (KC.out.chg X2.out (by omega))
  replace KX : Hid (Blk v2 (w0.heap.size + 1) 31 [.bool true, .int .i64 xt, .int .i64 xp, .int .i64 xf, .int .i64 xr, .bool xw]) := Lib.hid (KX.out.chg X2.out (by omega))
  replace HF0 := Lib.hid (HF0.out.chg X2.out WHF0.out (by omega))
  replace HF1 := Lib.hid (HF1.out.chg X2.out WHF1.out (by omega))
  have KD : Hid (Blk v2 (w1.heap.size) 25 [.slice A1 u.lines.length c1, .int .i64 u.hand]) := Lib.hid (by rw [hv2]; repeat' (first | with_reducible exact Blk.new_at _ _ _ (by simp) | with_reducible refine Blk.alloc ?_ _ | with_reducible refine Blk.drew ?_ | with_reducible refine Blk.far ?_ (by simp; omega) _))
  have lD : w1.heap.size < v2.heap.size := KD.out.lt
  clear hv2
  refine (C2.out _ c0 _ HF0.out.rd hn HF0.out.le HF0.out.cap).mono ?_; rintro r w2 ⟨A2, c2, rfl, hf2, hb2⟩
  have Y2 : Hid (Chg 0 0 v2 w2) := Lib.hid (Chg.of_ex hb2)
  have s2 : v2.heap.size ≤ w2.heap.size := Y2.out.size
  have Ew2 : Hid (Ex w w2) := Lib.hid (Ev2.out.chg Y2.out (by omega))
  clear hb2
  replace KC : Hid (Blk w2 (w0.heap.size) 25 [.slice (some ⟨a1, o1, none⟩) t.lines.length c0, .int .i64 t.hand]) := Lib.hid (KC.out.chg Y2.out (by omega))
  replace KX : Hid (Blk w2 (w0.heap.size + 1) 31 [.bool true, .int .i64 xt, .int .i64 xp, .int .i64 xf, .int .i64 xr, .bool xw]) := Lib.hid (KX.out.chg Y2.out (by omega))
  replace KD : Hid (Blk w2 (w1.heap.size) 25 [.slice A1 u.lines.length c1, .int .i64 u.hand]) := Lib.hid (KD.out.chg Y2.out (by omega))
  replace HF0 := Lib.hid (HF0.out.chg Y2.out WHF0.out (by omega))
  replace HF1 := Lib.hid (HF1.out.chg Y2.out WHF1.out (by omega))
  have HF2 := Lib.hid hf2; clear hf2
  have WHF2 := Lib.hid HF2.out.row
  obtain ⟨qC0, qC1⟩ := KC.out.c2
  have jC := KC.out.lt
  obtain ⟨qX0, qX1, qX2, qX3, qX4, qX5⟩ := KX.out.c6
  have jX := KX.out.lt
  obtain ⟨qD0, qD1⟩ := KD.out.c2
  have jD := KD.out.lt
  go_wp2_with fail
  refine name_calls ?_; intro v3 hv3
  have X3 : Hid (Chg (0) (0) w2 v3) := Lib.hid (by rw [hv3]; repeat' (first | with_reducible exact Chg.refl _ _ _ | with_reducible refine Chg.alloc ?_ _ | with_reducible refine Chg.drew ?_ | with_reducible refine Chg.set ?_ (by omega) _))
  have t3 : w2.heap.size ≤ v3.heap.size := X3.out.size
  have Ev3 : Hid (Ex w v3) := Lib.hid (Ew2.out.chg X3.out (by omega))
  clear qC0 qC1 jC
  clear qX0 qX1 qX2 qX3 qX4 qX5 jX
  clear qD0 qD1 jD
  replace KC : Hid (Blk v3 (w0.heap.size) 25 [.slice (some ⟨a1, o1, none⟩) t.lines.length c0, .int .i64 t.hand]) := Lib.hid (KC.out.chg X3.out (by omega))
  replace KX : Hid (Blk v3 (w0.heap.size + 1) 31 [.bool true, .int .i64 xt, .int .i64 xp, .int .i64 xf, .int .i64 xr, .bool xw]) := Lib.hid (KX.out.chg X3.out (by omega))
  replace KD : Hid (Blk v3 (w1.heap.size) 25 [.slice A1 u.lines.length c1, .int .i64 u.hand]) := Lib.hid (KD.out.chg X3.out (by omega))
  replace HF0 := Lib.hid (HF0.out.chg X3.out WHF0.out (by omega))
  replace HF1 := Lib.hid (HF1.out.chg X3.out WHF1.out (by omega))
  replace HF2 := Lib.hid (HF2.out.chg X3.out WHF2.out (by omega))
  have KW : Hid (Blk v3 (w2.heap.size) 25 [.slice A2 u.lines.length c2, .int .i64 u.hand]) := Lib.hid (by rw [hv3]; repeat' (first | with_reducible exact Blk.new_at _ _ _ (by simp) | with_reducible refine Blk.alloc ?_ _ | with_reducible refine Blk.drew ?_ | with_reducible refine Blk.far ?_ (by simp; omega) _))
  have lW : w2.heap.size < v3.heap.size := KW.out.lt
  clear hv3
  refine (cacheSameI_c u u _ _ _ _ _ HF1.out.rd HF2.out.rd hfew hfew).mono ?_; rintro r w3 ⟨rfl, hb3⟩
  have Y3 : Hid (Chg 0 0 v3 w3) := Lib.hid (Chg.of_ex hb3)
  have s3 : v3.heap.size ≤ w3.heap.size := Y3.out.size
  have Ew3 : Hid (Ex w w3) := Lib.hid (Ev3.out.chg Y3.out (by omega))
  clear hb3
  replace KC : Hid (Blk w3 (w0.heap.size) 25 [.slice (some ⟨a1, o1, none⟩) t.lines.length c0, .int .i64 t.hand]) := Lib.hid (KC.out.chg Y3.out (by omega))
  replace KX : Hid (Blk w3 (w0.heap.size + 1) 31 [.bool true, .int .i64 xt, .int .i64 xp, .int .i64 xf, .int .i64 xr, .bool xw]) := Lib.hid (KX.out.chg Y3.out (by omega))
  replace KD : Hid (Blk w3 (w1.heap.size) 25 [.slice A1 u.lines.length c1, .int .i64 u.hand]) := Lib.hid (KD.out.chg Y3.out (by omega))
  replace KW : Hid (Blk w3 (w2.heap.size) 25 [.slice A2 u.lines.length c2, .int .i64 u.hand]) := Lib.hid (KW.out.chg Y3.out (by omega))
  replace HF0 := Lib.hid (HF0.out.chg Y3.out WHF0.out (by omega))
  replace HF1 := Lib.hid (HF1.out.chg Y3.out WHF1.out (by omega))
  replace HF2 := Lib.hid (HF2.out.chg Y3.out WHF2.out (by omega))
  obtain ⟨qC0, qC1⟩ := KC.out.c2
  have jC := KC.out.lt
  obtain ⟨qX0, qX1, qX2, qX3, qX4, qX5⟩ := KX.out.c6
  have jX := KX.out.lt
  obtain ⟨qD0, qD1⟩ := KD.out.c2
  have jD := KD.out.lt
  obtain ⟨qW0, qW1⟩ := KW.out.c2
  have jW := KW.out.lt
  rw [eqB_self]
  clear qW0 qW1 jW
  clear KW
  clear HF2 WHF2

  go_wp2_with fail
  refine name_calls ?_; intro v4 hv4
  have X4 : Hid (Chg (0) (0) w3 v4) := Lib.hid (by rw [hv4]; repeat' (first | with_reducible exact Chg.refl _ _ _ | with_reducible refine Chg.alloc ?_ _ | with_reducible refine Chg.drew ?_ | with_reducible refine Chg.set ?_ (by omega) _))
  have t4 : w3.heap.size ≤ v4.heap.size := X4.out.size
  have Ev4 : Hid (Ex w v4) := Lib.hid (Ew3.out.chg X4.out (by omega))
  clear qC0 qC1 jC
  clear qX0 qX1 qX2 qX3 qX4 qX5 jX
  clear qD0 qD1 jD
  replace KC : Hid (Blk v4 (w0.heap.size) 25 [.slice (some ⟨a1, o1, none⟩) t.lines.length c0, .int .i64 t.hand]) := Lib.hid (KC.out.chg X4.out (by omega))
  replace KX : Hid (Blk v4 (w0.heap.size + 1) 31 [.bool true, .int .i64 xt, .int .i64 xp, .int .i64 xf, .int .i64 xr, .bool xw]) := Lib.hid (KX.out.chg X4.out (by omega))
  replace KD : Hid (Blk v4 (w1.heap.size) 25 [.slice A1 u.lines.length c1, .int .i64 u.hand]) := Lib.hid (KD.out.chg X4.out (by omega))
  replace HF0 := Lib.hid (HF0.out.chg X4.out WHF0.out (by omega))
  replace HF1 := Lib.hid (HF1.out.chg X4.out WHF1.out (by omega))
  clear hv4
  refine (C4.out _ c0 _ HF0.out.rd hn HF0.out.le).mono ?_; rintro r w4 ⟨rfl, hb4⟩
  have Y4 : Hid (Chg 0 0 v4 w4) := Lib.hid (Chg.of_ex hb4)
  have s4 : v4.heap.size ≤ w4.heap.size := Y4.out.size
  have Ew4 : Hid (Ex w w4) := Lib.hid (Ev4.out.chg Y4.out (by omega))
  clear hb4
  replace KC : Hid (Blk w4 (w0.heap.size) 25 [.slice (some ⟨a1, o1, none⟩) t.lines.length c0, .int .i64 t.hand]) := Lib.hid (KC.out.chg Y4.out (by omega))
  replace KX : Hid (Blk w4 (w0.heap.size + 1) 31 [.bool true, .int .i64 xt, .int .i64 xp, .int .i64 xf, .int .i64 xr, .bool xw]) := Lib.hid (KX.out.chg Y4.out (by omega))
  replace KD : Hid (Blk w4 (w1.heap.size) 25 [.slice A1 u.lines.length c1, .int .i64 u.hand]) := Lib.hid (KD.out.chg Y4.out (by omega))
  replace HF0 := Lib.hid (HF0.out.chg Y4.out WHF0.out (by omega))
  replace HF1 := Lib.hid (HF1.out.chg Y4.out WHF1.out (by omega))
  obtain ⟨qC0, qC1⟩ := KC.out.c2
  have jC := KC.out.lt
  obtain ⟨qX0, qX1, qX2, qX3, qX4, qX5⟩ := KX.out.c6
  have jX := KX.out.lt
  obtain ⟨qD0, qD1⟩ := KD.out.c2
  have jD := KD.out.lt
  go_wp2_with fail
  refine name_calls ?_; intro v5 hv5
  have X5 : Hid (Chg (0) (0) w4 v5) := Lib.hid (by rw [hv5]; repeat' (first | with_reducible exact Chg.refl _ _ _ | with_reducible refine Chg.alloc ?_ _ | with_reducible refine Chg.drew ?_ | with_reducible refine Chg.set ?_ (by omega) _))
  have t5 : w4.heap.size ≤ v5.heap.size := X5.out.size
  have Ev5 : Hid (Ex w v5) := Lib.hid (Ew4.out.chg X5.out (by omega))
  clear qC0 qC1 jC
  clear qX0 qX1 qX2 qX3 qX4 qX5 jX
  clear qD0 qD1 jD
  replace KC : Hid (Blk v5 (w0.heap.size) 25 [.slice (some ⟨a1, o1, none⟩) t.lines.length c0, .int .i64 t.hand]) := Lib.hid (KC.out.chg X5.out (by omega))
  replace KX : Hid (Blk v5 (w0.heap.size + 1) 31 [.bool true, .int .i64 xt, .int .i64 xp, .int .i64 xf, .int .i64 xr, .bool xw]) := Lib.hid (KX.out.chg X5.out (by omega))
  replace KD : Hid (Blk v5 (w1.heap.size) 25 [.slice A1 u.lines.length c1, .int .i64 u.hand]) := Lib.hid (KD.out.chg X5.out (by omega))
  replace HF0 := Lib.hid (HF0.out.chg X5.out WHF0.out (by omega))
  replace HF1 := Lib.hid (HF1.out.chg X5.out WHF1.out (by omega))
  clear hv5
  refine (C5.out A1 c1 _ HF1.out.rd hfew HF1.out.le).mono ?_; rintro r w5 ⟨rfl, hb5⟩
  have Y5 : Hid (Chg 0 0 v5 w5) := Lib.hid (Chg.of_ex hb5)
  have s5 : v5.heap.size ≤ w5.heap.size := Y5.out.size
  have Ew5 : Hid (Ex w w5) := Lib.hid (Ev5.out.chg Y5.out (by omega))
  clear hb5
  replace KC : Hid (Blk w5 (w0.heap.size) 25 [.slice (some ⟨a1, o1, none⟩) t.lines.length c0, .int .i64 t.hand]) := Lib.hid (KC.out.chg Y5.out (by omega))
  replace KX : Hid (Blk w5 (w0.heap.size + 1) 31 [.bool true, .int .i64 xt, .int .i64 xp, .int .i64 xf, .int .i64 xr, .bool xw]) := Lib.hid (KX.out.chg Y5.out (by omega))
  replace KD : Hid (Blk w5 (w1.heap.size) 25 [.slice A1 u.lines.length c1, .int .i64 u.hand]) := Lib.hid (KD.out.chg Y5.out (by omega))
  replace HF0 := Lib.hid (HF0.out.chg Y5.out WHF0.out (by omega))
  replace HF1 := Lib.hid (HF1.out.chg Y5.out WHF1.out (by omega))
  obtain ⟨qC0, qC1⟩ := KC.out.c2
  have jC := KC.out.lt
  obtain ⟨qX0, qX1, qX2, qX3, qX4, qX5⟩ := KX.out.c6
  have jX := KX.out.lt
  obtain ⟨qD0, qD1⟩ := KD.out.c2
  have jD := KD.out.lt
  have hcle := HF1.out.le
  obtain ⟨b1, o2, hA1, -, -⟩ := HF1.out.rd (by omega)
  subst hA1
  obtain ⟨gC, hgC⟩ : ∃ gC, gC = w0.heap.size := ⟨_, rfl⟩
  obtain ⟨gD, hgD⟩ : ∃ gD, gD = w1.heap.size := ⟨_, rfl⟩
  rw [← hgC] at KC qC0 qC1 jC KX qX0 qX1 qX2 qX3 qX4 qX5 jX ⊢
  rw [← hgD] at KD qD0 qD1 jD ⊢
  clear hgC hgD
  have HST : Hid (FillRound t u gC gD a1 o1 c0 b1 o2 c1 ⟨true, xt, xp, xf, xr, xw⟩ w (.int .i64 0) w5) := Lib.hid ⟨0, Nat.zero_le _, rfl, Ew5.out, KC.out, KX.out, KD.out, HF0.out.rd, HF1.out.rd⟩
  go_wp2
  clear qC0 qC1 jC qX0 qX1 qX2 qX3 qX4 qX5 jX qD0 qD1 jD KC KX KD HF0 HF1 WHF0 WHF1
  go_loopw [15] (fun i wr => FillRound t u gC gD a1 o1 c0 b1 o2 c1 ⟨true, xt, xp, xf, xr, xw⟩ w i wr) (fun i _ => t.lines.length - (intOf i).toNat)
  case atStart => exact HST.out
  case round =>
    clear HST
    obtain ⟨k, hk, rfl, hex, hkc, hkx, hkd, hr0, hr1⟩ := hrel
    have Ewr := Lib.hid hex
    have KC := Lib.hid hkc
    have KX := Lib.hid hkx
    have KD := Lib.hid hkd
    have HR0 := Lib.hid hr0
    have HR1 := Lib.hid hr1
    clear hex hkc hkx hkd hr0 hr1
    obtain ⟨qC0, qC1⟩ := KC.out.c2
    have jC := KC.out.lt
    obtain ⟨qX0, qX1, qX2, qX3, qX4, qX5⟩ := KX.out.c6
    have jX := KX.out.lt
    obtain ⟨qD0, qD1⟩ := KD.out.c2
    have jD := KD.out.lt
    by_cases hlt : k < t.lines.length
    · have hltu : k < u.lines.length := by rw [HUL.out]; exact hlt
      have hk0 : ¬ ((k : Int) < 0) := by omega
      have hk1 : (k : Int) < (t.lines.length : Int) := by omega
      have hk2 : (k : Int) < (u.lines.length : Int) := by omega
      obtain ⟨x1, hb1, hx1, g0, g1, g2, g3, g4, g5⟩ := Rd.line_known HR0.out (k := k) hlt
      obtain ⟨x2, hb2, hx2, e0, e1, e2, e3, e4, e5⟩ := Rd.line_known HR1.out (k := k) hltu
      have HX1 := Lib.hid hx1
      have HX2 := Lib.hid hx2
      clear hx1 hx2
      by_cases hkv : k = v
      · have hkv' : ((k : Int) != (v : Int)) = false := by simp [hkv]
        clear hkv
        go_wp2_with fail
        go_quiet (fail)
        go_wp2
        go_roundw
        case rel => exact ⟨k + 1, by omega, by go_num, Ewr.out.drewN _, KC.out.drewN _, KX.out.drewN _, KD.out.drewN _, HR0.out.drewN _, HR1.out.drewN _⟩
        case measure => simp [intOf]; omega
      · have hkv' : ((k : Int) != (v : Int)) = true := by simp; omega
        obtain rfl : x1 = x2 := by
          have q := HOT.out k hkv
          rw [HX1.out, HX2.out] at q
          injection q with q
          exact q.symm
        clear hkv
        have hneq := neq_line x1 x1
        rw [eqB_self] at hneq
        simp only [Bool.not_true] at hneq
        have hgd := guardLine
        go_wp2_with fail
        go_quiet (fail)
        clear hneq hgd
        go_wp2
        go_roundw
        case rel => exact ⟨k + 1, by omega, by go_num, Ewr.out.drewN _, KC.out.drewN _, KX.out.drewN _, KD.out.drewN _, HR0.out.drewN _, HR1.out.drewN _⟩
        case measure => simp [intOf]; omega
    · obtain rfl : k = t.lines.length := by omega
      have hge : ¬ ((t.lines.length : Nat) : Int) < (t.lines.length : Int) := by omega
      obtain ⟨x1, hb1, hx1, g0, g1, g2, g3, g4, g5⟩ := Rd.line_known HR0.out (k := v) hvl
      obtain ⟨x2, hb2, hx2, e0, e1, e2, e3, e4, e5⟩ := Rd.line_known HR1.out (k := v) hvu
      obtain rfl : y = x1 := by have := HY.out; rw [hx1] at this; injection this with this; exact this.symm
      obtain rfl : (⟨true, xt, xp, xf, xr, xw⟩ : LineD) = x2 := by have := HAT.out; rw [hx2] at this; injection this with this; exact this.symm
      rw [HYW.out] at g5
      simp only at e0 e1 e2 e3 e4 e5
      have hv00 : ¬ ((v : Int) < 0) := by omega
      have hv01 : (v : Int) < (t.lines.length : Int) := by omega
      have hv02 : (v : Int) < (u.lines.length : Int) := by omega
      have hvv1 : ((v : Int) == (v : Int)) = true := by simp
      have heql := eql_line (⟨true, xt, xp, xf, xr, xw⟩ : LineD) ⟨true, xt, xp, xf, xr, xw⟩
      rw [eqB_self] at heql
      dsimp only at heql
      have hgd := guardLine
      have CVU : Hid (∀ w', Rd w' (some ⟨b1, o2, none⟩) u.lines → Calls Try.prog 31 #[.agg #[.slice (some ⟨b1, o2, none⟩) u.lines.length c1, .int .i64 u.hand]] w' fun r w'' => r = .returned (.bool true) ∧ Ex w' w'') := Lib.hid (fun w' hr => by
        have := cacheValidI_c u _ c1 w' hr hfew hcle
        rwa [HUV.out] at this)
      have HE0 := Lib.hid e0
      have HE1 := Lib.hid e1
      have HE2 := Lib.hid e2
      have HE3 := Lib.hid e3
      have HE4 := Lib.hid e4
      have HE5 := Lib.hid e5
      have HG5 := Lib.hid g5
      have FK : Hid (∀ w', Ex wr w' → (w'.cell? ⟨gD, 0, none⟩ = some (.slice (some ⟨b1, o2, none⟩) u.lines.length c1) ∧ w'.cell? ⟨gD, 1, none⟩ = some (.int .i64 u.hand) ∧ w'.cell? ⟨gC, 0, none⟩ = some (.slice (some ⟨a1, o1, none⟩) t.lines.length c0) ∧ w'.cell? ⟨gC + 1, 0, none⟩ = some (.bool true) ∧ w'.cell? ⟨gC + 1, 1, none⟩ = some (.int .i64 xt) ∧ w'.cell? ⟨gC + 1, 2, none⟩ = some (.int .i64 xp) ∧ w'.cell? ⟨gC + 1, 3, none⟩ = some (.int .i64 xf) ∧ w'.cell? ⟨gC + 1, 4, none⟩ = some (.int .i64 xr) ∧ w'.cell? ⟨gC + 1, 5, none⟩ = some (.bool xw) ∧ w'.cell? ⟨b1, o2 + v * 6, none⟩ = some (.bool true) ∧ w'.cell? ⟨b1, o2 + v * 6 + 1, none⟩ = some (.int .i64 xt) ∧ w'.cell? ⟨b1, o2 + v * 6 + 2, none⟩ = some (.int .i64 xp) ∧ w'.cell? ⟨b1, o2 + v * 6 + 3, none⟩ = some (.int .i64 xf) ∧ w'.cell? ⟨b1, o2 + v * 6 + 4, none⟩ = some (.int .i64 xr) ∧ w'.cell? ⟨b1, o2 + v * 6 + 5, none⟩ = some (.bool xw) ∧ w'.cell? ⟨a1, o1 + v * 6 + 5, none⟩ = some (.bool false))) := Lib.hid (fun w' h => by
        obtain ⟨q0, q1⟩ := (KD.out.ex h).c2
        obtain ⟨q2, q3⟩ := (KC.out.ex h).c2
        obtain ⟨r0, r1, r2, r3, r4, r5⟩ := (KX.out.ex h).c6
        exact ⟨q0, q1, q2, r0, r1, r2, r3, r4, r5, (h.cell hb2).trans HE0.out, (h.cell hb2).trans HE1.out, (h.cell hb2).trans HE2.out, (h.cell hb2).trans HE3.out, (h.cell hb2).trans HE4.out, (h.cell hb2).trans HE5.out, (h.cell hb1).trans HG5.out⟩)
      clear g0 g1 g2 g3 g4
      go_wp2_with fail
      go_region_held3 (fun w' => (w'.cell? ⟨gD, 0, none⟩ = some (.slice (some ⟨b1, o2, none⟩) u.lines.length c1) ∧ w'.cell? ⟨gD, 1, none⟩ = some (.int .i64 u.hand) ∧ w'.cell? ⟨gC, 0, none⟩ = some (.slice (some ⟨a1, o1, none⟩) t.lines.length c0) ∧ w'.cell? ⟨gC + 1, 0, none⟩ = some (.bool true) ∧ w'.cell? ⟨gC + 1, 1, none⟩ = some (.int .i64 xt) ∧ w'.cell? ⟨gC + 1, 2, none⟩ = some (.int .i64 xp) ∧ w'.cell? ⟨gC + 1, 3, none⟩ = some (.int .i64 xf) ∧ w'.cell? ⟨gC + 1, 4, none⟩ = some (.int .i64 xr) ∧ w'.cell? ⟨gC + 1, 5, none⟩ = some (.bool xw) ∧ w'.cell? ⟨b1, o2 + v * 6, none⟩ = some (.bool true) ∧ w'.cell? ⟨b1, o2 + v * 6 + 1, none⟩ = some (.int .i64 xt) ∧ w'.cell? ⟨b1, o2 + v * 6 + 2, none⟩ = some (.int .i64 xp) ∧ w'.cell? ⟨b1, o2 + v * 6 + 3, none⟩ = some (.int .i64 xf) ∧ w'.cell? ⟨b1, o2 + v * 6 + 4, none⟩ = some (.int .i64 xr) ∧ w'.cell? ⟨b1, o2 + v * 6 + 5, none⟩ = some (.bool xw) ∧ w'.cell? ⟨a1, o1 + v * 6 + 5, none⟩ = some (.bool false))) (first | exact FK.out _ (Ex.refl _) | exact FK.out _ (Ex.refl _).drew | exact FK.out _ ((Ex.refl _).drew.trans hb6)) (first | (go_at_call 31; (with_reducible refine (CVU.out _ ?_).mono ?_); (exact Rd.drew HR1.out); rintro r w6 ⟨rfl, hb6⟩))
      rename_i hHeld
      clear hHeld heql hgd
      go_wp2
      go_ret
      exact ⟨rfl, (Ewr.out.drew).trans hb6⟩
end Go.Proofs.Ytcaaficjcghheab
