/- Drawn caches: the arguments of FillLine. -/
import Derived.Test.YtcaaficjcghheabDc
import Derived.RegionTactic
import Derived.ChangeAlike
namespace Go.Proofs.Ytcaaficjcghheab
open Go.ChangeShapes Go.WideShapes Go.ChangeAt Go.RowKit
open Rec (sz cs)
set_option linter.unusedVariables false
set_option maxRecDepth 100000

def SomeFill (w : World) (e : Ending) (w' : World) : Prop := ∃ (t : CacheD) (x : LineD) (A : Option Addr) (c : Nat), e = .returned (.tuple #[.agg #[.slice A t.lines.length c, .int .i64 t.hand], .agg #[.bool x.valid, .int .i64 x.tag, .int .i64 x.page, .int .i64 x.frame, .int .i64 x.rights, .bool x.wired]]) ∧ Few t ∧ Fr 31 w' w.heap.size A c t.lines ∧ Ex w w'

set_option maxHeartbeats 16000000 in
theorem drawFillLine_c (A : Option Addr) (c : Nat) (bs : List ByteD) (w : World) (hx : Rd w A bs) (hb : Bytes bs) (hn : bs.length ≤ 1048576) (hc : bs.length ≤ c) (hcm : c ≤ maxLen) :
    Calls Try.prog 33 #[.slice A bs.length c] w (SomeFill w) := by
  have C0 := Lib.hid (fun w' (h : Ex w w') => l12Open_c A c bs w' (hx.ex h) hb hn hc hcm)
  generalize bs.length = n at C0 hn hc
  clear hx hb hn hc hcm
  go_enter Try.func33, Try.ntmps33
  go_wp2_with fail
  refine name_calls ?_; intro v1 hv1
  have X1 : Hid (Chg (0) (0) w v1) := Lib.hid (by rw [hv1]; repeat' (first | with_reducible exact Chg.refl _ _ _ | with_reducible refine Chg.alloc ?_ _ | with_reducible refine Chg.drew ?_ | with_reducible refine Chg.set ?_ (by omega) _))
  have t1 : w.heap.size ≤ v1.heap.size := X1.out.size
  have Ev1 : Hid (Ex w v1) := Lib.hid ((Ex.refl w).chg X1.out (by omega))
  have KR : Hid (Blk v1 (w.heap.size) 25 [.slice none 0 0, .int .i64 0]) := Lib.hid (by rw [hv1]; repeat' (first | with_reducible exact Blk.new_at _ _ _ (by simp) | with_reducible refine Blk.alloc ?_ _ | with_reducible refine Blk.drew ?_ | with_reducible refine Blk.far ?_ (by simp; omega) _))
  have lR : w.heap.size < v1.heap.size := KR.out.lt
  have KS : Hid (Blk v1 (w.heap.size + 1) 31 [.bool false, .int .i64 0, .int .i64 0, .int .i64 0, .int .i64 0, .bool false]) := Lib.hid (by rw [hv1]; repeat' (first | with_reducible exact Blk.new_at _ _ _ (by simp) | with_reducible refine Blk.alloc ?_ _ | with_reducible refine Blk.drew ?_ | with_reducible refine Blk.far ?_ (by simp; omega) _))
  have lS : w.heap.size + 1 < v1.heap.size := KS.out.lt
  clear hv1
  refine (C0.out _ Ev1.out).mono ?_; rintro r w1 ⟨g, rfl, hrd1, hg1, hb1⟩
  have Y1 : Hid (Chg 0 0 v1 w1) := Lib.hid (Chg.of_ex hb1)
  have s1 : v1.heap.size ≤ w1.heap.size := Y1.out.size
  have Ew1 : Hid (Ex w w1) := Lib.hid (Ev1.out.chg Y1.out (by omega))
  clear hb1
  replace KR : Hid (Blk w1 (w.heap.size) 25 [.slice none 0 0, .int .i64 0]) := Lib.hid (KR.out.chg Y1.out (by omega))
  replace KS : Hid (Blk w1 (w.heap.size + 1) 31 [.bool false, .int .i64 0, .int .i64 0, .int .i64 0, .int .i64 0, .bool false]) := Lib.hid (KS.out.chg Y1.out (by omega))
  have HRD1 := Lib.hid hrd1; clear hrd1
  obtain ⟨qR0, qR1⟩ := KR.out.c2
  have jR := KR.out.lt
  have zR := KR.out.frozen
  obtain ⟨qS0, qS1, qS2, qS3, qS4, qS5⟩ := KS.out.c6
  have jS := KS.out.lt
  have zS := KS.out.frozen
  have lg : g < w1.heap.size := HRD1.out.lt
  go_wp2_with fail
  refine name_calls ?_; intro v2 hv2
  have X2 : Hid (Chg (0) (0) w1 v2) := Lib.hid (by rw [hv2]; repeat' (first | with_reducible exact Chg.refl _ _ _ | with_reducible refine Chg.alloc ?_ _ | with_reducible refine Chg.drew ?_ | with_reducible refine Chg.set ?_ (by omega) _))
  have t2 : w1.heap.size ≤ v2.heap.size := X2.out.size
  have Ev2 : Hid (Ex w v2) := Lib.hid (Ew1.out.chg X2.out (by omega))
  clear qR0 qR1 jR zR
  clear qS0 qS1 qS2 qS3 qS4 qS5 jS zS
  replace KR : Hid (Blk v2 (w.heap.size) 25 [.slice none 0 0, .int .i64 0]) := Lib.hid (KR.out.chg X2.out (by omega))
  replace KS : Hid (Blk v2 (w.heap.size + 1) 31 [.bool false, .int .i64 0, .int .i64 0, .int .i64 0, .int .i64 0, .bool false]) := Lib.hid (KS.out.chg X2.out (by omega))
  replace HRD1 := Lib.hid (HRD1.out.chg X2.out (by omega))
  clear hv2
  refine (l4Draw_c g 0 _ HRD1.out (by omega)).mono ?_; rintro r w2 ⟨t, A2, c2, p2, rfl, hd, hf2, hrd2, hp2, hb2⟩
  have Y2 : Hid (Chg (g) (g + 1) v2 w2) := Lib.hid (Chg.of_grown hb2 (fun b hb => by injection hb with hb; omega))
  have s2 : v2.heap.size ≤ w2.heap.size := Y2.out.size
  have Ew2 : Hid (Ex w w2) := Lib.hid (Ev2.out.chg Y2.out (by omega))
  clear hb2
  replace KR : Hid (Blk w2 (w.heap.size) 25 [.slice none 0 0, .int .i64 0]) := Lib.hid (KR.out.chg Y2.out (by omega))
  replace KS : Hid (Blk w2 (w.heap.size + 1) 31 [.bool false, .int .i64 0, .int .i64 0, .int .i64 0, .int .i64 0, .bool false]) := Lib.hid (KS.out.chg Y2.out (by omega))
  clear HRD1
  have HF2 := Lib.hid hf2; clear hf2
  have WHF2 := Lib.hid HF2.out.row
  have HRD2 := Lib.hid hrd2; clear hrd2
  obtain ⟨qR0, qR1⟩ := KR.out.c2
  have jR := KR.out.lt
  have zR := KR.out.frozen
  obtain ⟨qS0, qS1, qS2, qS3, qS4, qS5⟩ := KS.out.c6
  have jS := KS.out.lt
  have zS := KS.out.frozen
  go_wp2_with fail
  refine name_calls ?_; intro v3 hv3
  have X3 : Hid (Chg (0) (0) w2 v3) := Lib.hid (by rw [hv3]; repeat' (first | with_reducible exact Chg.refl _ _ _ | with_reducible refine Chg.alloc ?_ _ | with_reducible refine Chg.drew ?_ | with_reducible refine Chg.set ?_ (by omega) _))
  have t3 : w2.heap.size ≤ v3.heap.size := X3.out.size
  have Ev3 : Hid (Ex w v3) := Lib.hid (Ew2.out.chg X3.out (by omega))
  clear qR0 qR1 jR zR
  clear qS0 qS1 qS2 qS3 qS4 qS5 jS zS
  replace KR : Hid (Blk v3 (w.heap.size) 25 [.slice none 0 0, .int .i64 0]) := Lib.hid (KR.out.chg X3.out (by omega))
  replace KS : Hid (Blk v3 (w.heap.size + 1) 31 [.bool false, .int .i64 0, .int .i64 0, .int .i64 0, .int .i64 0, .bool false]) := Lib.hid (KS.out.chg X3.out (by omega))
  replace HF2 := Lib.hid (HF2.out.chg X3.out WHF2.out (by omega))
  replace HRD2 := Lib.hid (HRD2.out.chg X3.out (by omega))
  clear hv3
  refine (l4Wrong_c g p2 t A2 c2 _ HRD2.out (by omega) hd.few HF2.out.rd HF2.out.le HF2.out.cap).mono ?_; rintro r w3 ⟨u, A3, c3, p3, rfl, hww, hf3, hrd3, hp3, hb3⟩
  have Y3 : Hid (Chg (g) (g + 1) v3 w3) := Lib.hid (Chg.of_grown hb3 (fun b hb => by injection hb with hb; omega))
  have s3 : v3.heap.size ≤ w3.heap.size := Y3.out.size
  have Ew3 : Hid (Ex w w3) := Lib.hid (Ev3.out.chg Y3.out (by omega))
  clear hb3
  replace KR : Hid (Blk w3 (w.heap.size) 25 [.slice none 0 0, .int .i64 0]) := Lib.hid (KR.out.chg Y3.out (by omega))
  replace KS : Hid (Blk w3 (w.heap.size + 1) 31 [.bool false, .int .i64 0, .int .i64 0, .int .i64 0, .int .i64 0, .bool false]) := Lib.hid (KS.out.chg Y3.out (by omega))
  replace HF2 := Lib.hid (HF2.out.chg Y3.out WHF2.out (by omega))
  clear HRD2
  have HF3 := Lib.hid hf3; clear hf3
  have WHF3 := Lib.hid HF3.out.row
  have HRD3 := Lib.hid hrd3; clear hrd3
  obtain ⟨qR0, qR1⟩ := KR.out.c2
  have jR := KR.out.lt
  have zR := KR.out.frozen
  obtain ⟨qS0, qS1, qS2, qS3, qS4, qS5⟩ := KS.out.c6
  have jS := KS.out.lt
  have zS := KS.out.frozen
  have HWW := Lib.hid hww
  clear hww hd
  clear HF2 WHF2
  go_wp2_with fail
  refine name_calls ?_; intro v4 hv4
  have X4 : Hid (Chg (0) (0) w3 v4) := Lib.hid (by rw [hv4]; repeat' (first | with_reducible exact Chg.refl _ _ _ | with_reducible refine Chg.alloc ?_ _ | with_reducible refine Chg.drew ?_ | with_reducible refine Chg.set ?_ (by omega) _))
  have t4 : w3.heap.size ≤ v4.heap.size := X4.out.size
  have Ev4 : Hid (Ex w v4) := Lib.hid (Ew3.out.chg X4.out (by omega))
  clear qR0 qR1 jR zR
  clear qS0 qS1 qS2 qS3 qS4 qS5 jS zS
  replace KR : Hid (Blk v4 (w.heap.size) 25 [.slice none 0 0, .int .i64 0]) := Lib.hid (KR.out.chg X4.out (by omega))
  replace KS : Hid (Blk v4 (w.heap.size + 1) 31 [.bool false, .int .i64 0, .int .i64 0, .int .i64 0, .int .i64 0, .bool false]) := Lib.hid (KS.out.chg X4.out (by omega))
  replace HF3 := Lib.hid (HF3.out.chg X4.out WHF3.out (by omega))
  replace HRD3 := Lib.hid (HRD3.out.chg X4.out (by omega))
  have KC : Hid (Blk v4 (w3.heap.size) 25 [.slice A3 u.lines.length c3, .int .i64 u.hand]) := Lib.hid (by rw [hv4]; repeat' (first | with_reducible exact Blk.new_at _ _ _ (by simp) | with_reducible refine Blk.alloc ?_ _ | with_reducible refine Blk.drew ?_ | with_reducible refine Blk.far ?_ (by simp; omega) _))
  have lC : w3.heap.size < v4.heap.size := KC.out.lt
  clear hv4
  refine (l4New_c g p3 _ HRD3.out (by omega)).mono ?_; rintro r w4 ⟨x, rfl, hnl, hrd4, hb4⟩
  have Y4 : Hid (Chg (g) (g + 1) v4 w4) := Lib.hid (Chg.of_grown hb4 (fun b hb => by injection hb with hb; omega))
  have s4 : v4.heap.size ≤ w4.heap.size := Y4.out.size
  have Ew4 : Hid (Ex w w4) := Lib.hid (Ev4.out.chg Y4.out (by omega))
  clear hb4
  replace KR : Hid (Blk w4 (w.heap.size) 25 [.slice none 0 0, .int .i64 0]) := Lib.hid (KR.out.chg Y4.out (by omega))
  replace KS : Hid (Blk w4 (w.heap.size + 1) 31 [.bool false, .int .i64 0, .int .i64 0, .int .i64 0, .int .i64 0, .bool false]) := Lib.hid (KS.out.chg Y4.out (by omega))
  replace KC : Hid (Blk w4 (w3.heap.size) 25 [.slice A3 u.lines.length c3, .int .i64 u.hand]) := Lib.hid (KC.out.chg Y4.out (by omega))
  replace HF3 := Lib.hid (HF3.out.chg Y4.out WHF3.out (by omega))
  clear HRD3
  have HRD4 := Lib.hid hrd4; clear hrd4
  obtain ⟨qR0, qR1⟩ := KR.out.c2
  have jR := KR.out.lt
  have zR := KR.out.frozen
  obtain ⟨qS0, qS1, qS2, qS3, qS4, qS5⟩ := KS.out.c6
  have jS := KS.out.lt
  have zS := KS.out.frozen
  obtain ⟨qC0, qC1⟩ := KC.out.c2
  have jC := KC.out.lt
  obtain ⟨xv, xt, xp, xf, xr, xw⟩ := x
  clear hnl
  go_wp2_with fail
  refine name_calls ?_; intro v5 hv5
  have X5 : Hid (Chg (0) (0) w4 v5) := Lib.hid (by rw [hv5]; repeat' (first | with_reducible exact Chg.refl _ _ _ | with_reducible refine Chg.alloc ?_ _ | with_reducible refine Chg.drew ?_ | with_reducible refine Chg.set ?_ (by omega) _))
  have t5 : w4.heap.size ≤ v5.heap.size := X5.out.size
  have Ev5 : Hid (Ex w v5) := Lib.hid (Ew4.out.chg X5.out (by omega))
  clear qR0 qR1 jR zR
  clear qS0 qS1 qS2 qS3 qS4 qS5 jS zS
  clear qC0 qC1 jC
  replace KR : Hid (Blk v5 (w.heap.size) 25 [.slice none 0 0, .int .i64 0]) := Lib.hid (KR.out.chg X5.out (by omega))
  replace KS : Hid (Blk v5 (w.heap.size + 1) 31 [.bool false, .int .i64 0, .int .i64 0, .int .i64 0, .int .i64 0, .bool false]) := Lib.hid (KS.out.chg X5.out (by omega))
  replace KC : Hid (Blk v5 (w3.heap.size) 25 [.slice A3 u.lines.length c3, .int .i64 u.hand]) := Lib.hid (KC.out.chg X5.out (by omega))
  replace HF3 := Lib.hid (HF3.out.chg X5.out WHF3.out (by omega))
  replace HRD4 := Lib.hid (HRD4.out.chg X5.out (by omega))
  have KX : Hid (Blk v5 (w4.heap.size) 31 [.bool xv, .int .i64 xt, .int .i64 xp, .int .i64 xf, .int .i64 xr, .bool xw]) := Lib.hid (by rw [hv5]; repeat' (first | with_reducible exact Blk.new_at _ _ _ (by simp) | with_reducible refine Blk.alloc ?_ _ | with_reducible refine Blk.drew ?_ | with_reducible refine Blk.far ?_ (by simp; omega) _))
  have lX : w4.heap.size < v5.heap.size := KX.out.lt
  clear hv5
  refine (pick_c g (p3 + 4) 6 _ HRD4.out (by omega) (by omega)).mono ?_; rintro r w5 ⟨z5, rfl, hh5, hrd5, hb5⟩
  have Y5 : Hid (Chg (g) (g + 1) v5 w5) := Lib.hid (Chg.of_grown hb5 (fun b hb => by injection hb with hb; omega))
  have s5 : v5.heap.size ≤ w5.heap.size := Y5.out.size
  have Ew5 : Hid (Ex w w5) := Lib.hid (Ev5.out.chg Y5.out (by omega))
  clear hb5
  replace KR : Hid (Blk w5 (w.heap.size) 25 [.slice none 0 0, .int .i64 0]) := Lib.hid (KR.out.chg Y5.out (by omega))
  replace KS : Hid (Blk w5 (w.heap.size + 1) 31 [.bool false, .int .i64 0, .int .i64 0, .int .i64 0, .int .i64 0, .bool false]) := Lib.hid (KS.out.chg Y5.out (by omega))
  replace KC : Hid (Blk w5 (w3.heap.size) 25 [.slice A3 u.lines.length c3, .int .i64 u.hand]) := Lib.hid (KC.out.chg Y5.out (by omega))
  replace KX : Hid (Blk w5 (w4.heap.size) 31 [.bool xv, .int .i64 xt, .int .i64 xp, .int .i64 xf, .int .i64 xr, .bool xw]) := Lib.hid (KX.out.chg Y5.out (by omega))
  replace HF3 := Lib.hid (HF3.out.chg Y5.out WHF3.out (by omega))
  clear HRD4
  have HRD5 := Lib.hid hrd5; clear hrd5
  have HH5 := Lib.hid hh5; clear hh5
  obtain ⟨qR0, qR1⟩ := KR.out.c2
  have jR := KR.out.lt
  have zR := KR.out.frozen
  obtain ⟨qS0, qS1, qS2, qS3, qS4, qS5⟩ := KS.out.c6
  have jS := KS.out.lt
  have zS := KS.out.frozen
  obtain ⟨qC0, qC1⟩ := KC.out.c2
  have jC := KC.out.lt
  obtain ⟨qX0, qX1, qX2, qX3, qX4, qX5⟩ := KX.out.c6
  have jX := KX.out.lt
  have zX := KX.out.frozen
  go_wp2_with fail
  refine name_calls ?_; intro v6 hv6
  have X6 : Hid (Chg (w4.heap.size) (w4.heap.size + 1) w5 v6) := Lib.hid (by rw [hv6]; repeat' (first | with_reducible exact Chg.refl _ _ _ | with_reducible refine Chg.alloc ?_ _ | with_reducible refine Chg.drew ?_ | with_reducible refine Chg.set ?_ (by omega) _))
  have t6 : w5.heap.size ≤ v6.heap.size := X6.out.size
  have Ev6 : Hid (Ex w v6) := Lib.hid (Ew5.out.chg X6.out (by omega))
  clear qR0 qR1 jR zR
  clear qS0 qS1 qS2 qS3 qS4 qS5 jS zS
  clear qC0 qC1 jC
  clear qX0 qX1 qX2 qX3 qX4 qX5 jX
  replace KX : Hid (Blk v6 (w4.heap.size) 31 [.bool xv, .int .i64 xt, .int .i64 xp, .int .i64 xf, .int .i64 xr, .bool (z5 == 0)]) := Lib.hid (by rw [hv6]; exact KX.out.set 5 _)
  replace KR : Hid (Blk v6 (w.heap.size) 25 [.slice none 0 0, .int .i64 0]) := Lib.hid (KR.out.chg X6.out (by omega))
  replace KS : Hid (Blk v6 (w.heap.size + 1) 31 [.bool false, .int .i64 0, .int .i64 0, .int .i64 0, .int .i64 0, .bool false]) := Lib.hid (KS.out.chg X6.out (by omega))
  replace KC : Hid (Blk v6 (w3.heap.size) 25 [.slice A3 u.lines.length c3, .int .i64 u.hand]) := Lib.hid (KC.out.chg X6.out (by omega))
  replace HF3 := Lib.hid (HF3.out.chg X6.out WHF3.out (by omega))
  replace HRD5 := Lib.hid (HRD5.out.chg X6.out (by omega))
  clear hv6
  refine (pick_c g (p3 + 4 + 1) 16 _ HRD5.out (by omega) (by omega)).mono ?_; rintro r w6 ⟨z6, rfl, hh6, hrd6, hb6⟩
  have Y6 : Hid (Chg (g) (g + 1) v6 w6) := Lib.hid (Chg.of_grown hb6 (fun b hb => by injection hb with hb; omega))
  have s6 : v6.heap.size ≤ w6.heap.size := Y6.out.size
  have Ew6 : Hid (Ex w w6) := Lib.hid (Ev6.out.chg Y6.out (by omega))
  clear hb6
  replace KR : Hid (Blk w6 (w.heap.size) 25 [.slice none 0 0, .int .i64 0]) := Lib.hid (KR.out.chg Y6.out (by omega))
  replace KS : Hid (Blk w6 (w.heap.size + 1) 31 [.bool false, .int .i64 0, .int .i64 0, .int .i64 0, .int .i64 0, .bool false]) := Lib.hid (KS.out.chg Y6.out (by omega))
  replace KC : Hid (Blk w6 (w3.heap.size) 25 [.slice A3 u.lines.length c3, .int .i64 u.hand]) := Lib.hid (KC.out.chg Y6.out (by omega))
  replace KX : Hid (Blk w6 (w4.heap.size) 31 [.bool xv, .int .i64 xt, .int .i64 xp, .int .i64 xf, .int .i64 xr, .bool (z5 == 0)]) := Lib.hid (KX.out.chg Y6.out (by omega))
  replace HF3 := Lib.hid (HF3.out.chg Y6.out WHF3.out (by omega))
  clear HRD5
  have HRD6 := Lib.hid hrd6; clear hrd6
  have HH6 := Lib.hid hh6; clear hh6
  obtain ⟨qR0, qR1⟩ := KR.out.c2
  have jR := KR.out.lt
  have zR := KR.out.frozen
  obtain ⟨qS0, qS1, qS2, qS3, qS4, qS5⟩ := KS.out.c6
  have jS := KS.out.lt
  have zS := KS.out.frozen
  obtain ⟨qC0, qC1⟩ := KC.out.c2
  have jC := KC.out.lt
  obtain ⟨qX0, qX1, qX2, qX3, qX4, qX5⟩ := KX.out.c6
  have jX := KX.out.lt
  have zX := KX.out.frozen
  by_cases hz6 : z6 = 0
  · have hz6' : (z6 == 0) = true := by simp [hz6]
    clear hz6
    go_wp2_with fail
    refine name_calls ?_; intro v7 hv7
    have X7 : Hid (Chg (0) (0) w6 v7) := Lib.hid (by rw [hv7]; repeat' (first | with_reducible exact Chg.refl _ _ _ | with_reducible refine Chg.alloc ?_ _ | with_reducible refine Chg.drew ?_ | with_reducible refine Chg.set ?_ (by omega) _))
    have t7 : w6.heap.size ≤ v7.heap.size := X7.out.size
    have Ev7 : Hid (Ex w v7) := Lib.hid (Ew6.out.chg X7.out (by omega))
    clear qR0 qR1 jR zR
    clear qS0 qS1 qS2 qS3 qS4 qS5 jS zS
    clear qC0 qC1 jC
    clear qX0 qX1 qX2 qX3 qX4 qX5 jX
    replace KR : Hid (Blk v7 (w.heap.size) 25 [.slice none 0 0, .int .i64 0]) := Lib.hid (KR.out.chg X7.out (by omega))
    replace KS : Hid (Blk v7 (w.heap.size + 1) 31 [.bool false, .int .i64 0, .int .i64 0, .int .i64 0, .int .i64 0, .bool false]) := Lib.hid (KS.out.chg X7.out (by omega))
    replace KC : Hid (Blk v7 (w3.heap.size) 25 [.slice A3 u.lines.length c3, .int .i64 u.hand]) := Lib.hid (KC.out.chg X7.out (by omega))
    replace KX : Hid (Blk v7 (w4.heap.size) 31 [.bool xv, .int .i64 xt, .int .i64 xp, .int .i64 xf, .int .i64 xr, .bool (z5 == 0)]) := Lib.hid (KX.out.chg X7.out (by omega))
    replace HF3 := Lib.hid (HF3.out.chg X7.out WHF3.out (by omega))
    replace HRD6 := Lib.hid (HRD6.out.chg X7.out (by omega))
    have L7 : Hid (Rd v7 (some ⟨w6.heap.size, 0, none⟩) ([16, -1] : List Int)) := Lib.hid (by rw [hv7]; repeat' (first | exact Rd.lits _ _ _ | exact Rd.lits_at _ _ _ (by simp) | with_reducible refine Rd.alloc ?_ _))
    clear hv7
    refine (num_c g (p3 + 4 + 1 + 1) _ 0 _ [16, -1] _ HRD6.out L7.out (by simp) (by simp) (by omega) (by omega)).mono ?_; rintro r w7 ⟨f7, rfl, hh7, hrd7, hb7⟩
    have Y7 : Hid (Chg (g) (g + 1) v7 w7) := Lib.hid (Chg.of_grown hb7 (fun b hb => by injection hb with hb; omega))
    have s7 : v7.heap.size ≤ w7.heap.size := Y7.out.size
    have Ew7 : Hid (Ex w w7) := Lib.hid (Ev7.out.chg Y7.out (by omega))
    clear hb7
    replace KR : Hid (Blk w7 (w.heap.size) 25 [.slice none 0 0, .int .i64 0]) := Lib.hid (KR.out.chg Y7.out (by omega))
    replace KS : Hid (Blk w7 (w.heap.size + 1) 31 [.bool false, .int .i64 0, .int .i64 0, .int .i64 0, .int .i64 0, .bool false]) := Lib.hid (KS.out.chg Y7.out (by omega))
    replace KC : Hid (Blk w7 (w3.heap.size) 25 [.slice A3 u.lines.length c3, .int .i64 u.hand]) := Lib.hid (KC.out.chg Y7.out (by omega))
    replace KX : Hid (Blk w7 (w4.heap.size) 31 [.bool xv, .int .i64 xt, .int .i64 xp, .int .i64 xf, .int .i64 xr, .bool (z5 == 0)]) := Lib.hid (KX.out.chg Y7.out (by omega))
    replace HF3 := Lib.hid (HF3.out.chg Y7.out WHF3.out (by omega))
    clear HRD6
    have HRD7 := Lib.hid hrd7; clear hrd7
    have HH7 := Lib.hid hh7; clear hh7
    obtain ⟨qR0, qR1⟩ := KR.out.c2
    have jR := KR.out.lt
    have zR := KR.out.frozen
    obtain ⟨qS0, qS1, qS2, qS3, qS4, qS5⟩ := KS.out.c6
    have jS := KS.out.lt
    have zS := KS.out.frozen
    obtain ⟨qC0, qC1⟩ := KC.out.c2
    have jC := KC.out.lt
    obtain ⟨qX0, qX1, qX2, qX3, qX4, qX5⟩ := KX.out.c6
    have jX := KX.out.lt
    have zX := KX.out.frozen
    have hRX : ¬ w.heap.size = w4.heap.size := by omega
    have hSX : ¬ w.heap.size + 1 = w4.heap.size := by omega
    have hRC : ¬ w.heap.size = w3.heap.size := by omega
    have hSC : ¬ w.heap.size + 1 = w3.heap.size := by omega
    go_wp2_with fail
    go_region
    go_wp2
    exact bodyPost_ret (v := .tuple #[.agg #[.slice A3 u.lines.length c3, .int .i64 u.hand], .agg #[.bool xv, .int .i64 xt, .int .i64 xp, .int .i64 f7, .int .i64 xr, .bool (z5 == 0)]]) (by first | (simp [results, Try.results33, go_sem, qR0, qR1]; done) | (simp [results, Try.results33, go_sem, qR0, qR1, qS0, qS1, qS2, qS3, qS4, qS5, jR, jS]; done)) rfl
      ⟨u, ⟨xv, xt, xp, f7, xr, z5 == 0⟩, A3, c3, rfl, HWW.out, Fr.mono (B := v3.heap.size) (by repeat' (first | with_reducible exact HF3.out | with_reducible refine Fr.drew ?_ | with_reducible refine Fr.alloc ?_ _ | with_reducible refine Fr.put ?_ (fun b hb => by have := WHF3.out b hb; omega) _)) (by omega), (by repeat' (first | with_reducible exact Ew7.out | with_reducible refine Ex.alloc ?_ _ | with_reducible refine Ex.drew ?_ | with_reducible refine Ex.put ?_ (by omega) _))⟩
  have hz6' : (z6 == 0) = false := by simp [hz6]
  clear hz6
  have hRX : ¬ w.heap.size = w4.heap.size := by omega
  have hSX : ¬ w.heap.size + 1 = w4.heap.size := by omega
  have hRC : ¬ w.heap.size = w3.heap.size := by omega
  have hSC : ¬ w.heap.size + 1 = w3.heap.size := by omega
  go_wp2_with fail
  go_region
  go_wp2
  exact bodyPost_ret (v := .tuple #[.agg #[.slice A3 u.lines.length c3, .int .i64 u.hand], .agg #[.bool xv, .int .i64 xt, .int .i64 xp, .int .i64 xf, .int .i64 xr, .bool (z5 == 0)]]) (by first | (simp [results, Try.results33, go_sem, qR0, qR1]; done) | (simp [results, Try.results33, go_sem, qR0, qR1, qS0, qS1, qS2, qS3, qS4, qS5, jR, jS]; done)) rfl
    ⟨u, ⟨xv, xt, xp, xf, xr, z5 == 0⟩, A3, c3, rfl, HWW.out, Fr.mono (B := v3.heap.size) (by repeat' (first | with_reducible exact HF3.out | with_reducible refine Fr.drew ?_ | with_reducible refine Fr.alloc ?_ _ | with_reducible refine Fr.put ?_ (fun b hb => by have := WHF3.out b hb; omega) _)) (by omega), (by repeat' (first | with_reducible exact Ew6.out | with_reducible refine Ex.alloc ?_ _ | with_reducible refine Ex.drew ?_ | with_reducible refine Ex.put ?_ (by omega) _))⟩
end Go.Proofs.Ytcaaficjcghheab
