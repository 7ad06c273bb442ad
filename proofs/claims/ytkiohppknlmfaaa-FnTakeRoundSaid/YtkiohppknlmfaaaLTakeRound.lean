/- The law FnTakeRound: the walk. -/
import Derived.Test.YtkiohppknlmfaaaSf
import Derived.Test.YtkiohppknlmfaaaTt
import Derived.Test.YtkiohppknlmfaaaTu
import Derived.Test.YtkiohppknlmfaaaTl
import Derived.Test.YtkiohppknlmfaaaTk
import Derived.Test.YtkiohppknlmfaaaTy
import Derived.Test.YtkiohppknlmfaaaTz
import Derived.Test.YtkiohppknlmfaaaTw
import Derived.Test.YtkiohppknlmfaaaTd
import Derived.Test.YtkiohppknlmfaaaTq
namespace Go.Proofs.Ytkiohppknlmfaaa
open Go.ChangeShapes Go.WideShapes Go.ChangeAt Go.RowKit
open Rec (sz cs)
set_option linter.unusedVariables false
set_option maxRecDepth 100000

def RoundLaw (t : TagsD) (s : Int) (u : TagsD) (fr : Bool) : Prop := 0 ≤ t.round ∧ t.round ≤ 1000000 ∧ (∀ i, i ≠ s → (fr = true → (tagOf u i).2 = false) ∧ (fr = false → tagOf u i = tagOf t i)) ∧ (fr = true → u.round = t.round + 1) ∧ (fr = false → u.round = t.round)
theorem take_from {t : TagsD} {s : Int} (h : (takeTag t s).2.2.2 = true) : tagsV t = true := by
  rcases takeTag_or t s with e | ⟨k, x, hv, hb, hx, hs, e⟩ | ⟨hv, hb, hf, hn, e⟩ | ⟨hv, hb, hf, hn, hr, e⟩
  · rw [e] at h; cases h
  all_goals exact hv
theorem round_all {t u : TagsD} {s g : Int} {fr : Bool} (h : takeTag t s = (u, g, fr, true)) : RoundLaw t s u fr := by
  have hh := tv_head (take_from (t := t) (s := s) (by rw [h]))
  unfold TagsHead at hh
  exact ⟨hh.2.2.2.2.1, hh.2.2.2.2.2, (round_law h).1, (round_law h).2.1, (round_law h).2.2⟩

set_option maxHeartbeats 16000000 in
theorem walk_FnTakeRound (A : Option Addr) (n c : Nat) (bs : List ByteD) (w : World) (hr : Rd w A bs) (hc : Bytes bs ∧ bs.length = n ∧ n ≤ c ∧ c ≤ maxLen) :
    Calls Try.prog 15 #[.slice A n c] w fun r w' => r = .returned (.bool true) ∧ Ex w w' := by
  obtain ⟨hb, rfl, hnc, hcm⟩ := hc
  by_cases hbig : 1048576 < bs.length
  · have hbig' : (1048576 : Int) < (bs.length : Int) := by omega
    unfold maxLen at hcm
    generalize bs.length = n at *
    go_enter Try.func15, Try.ntmps15
    go_wp2
    go_ret
    exact ⟨rfl, Ex.refl _⟩
  have hsm : ¬ (1048576 : Int) < (bs.length : Int) := by omega
  have C0 := Lib.hid (fun w' (h : Ex w w') => drawTakeTag_c A c bs w' (hr.ex h) hb (by omega) hnc hcm)
  have hcm' := hcm
  unfold maxLen at hcm'
  generalize bs.length = n at *
  clear hr hb hcm
  go_enter Try.func15, Try.ntmps15
  go_wp2_with fail
  refine name_calls ?_; intro v0 hv0
  have X0 : Hid (Chg (0) (0) w v0) := Lib.hid (by rw [hv0]; repeat' (first | with_reducible exact Chg.refl _ _ _ | with_reducible refine Chg.alloc ?_ _ | with_reducible refine Chg.drew ?_ | with_reducible refine Chg.set ?_ (by omega) _))
  have t0 : w.heap.size ≤ v0.heap.size := X0.out.size
  have Ev0 : Hid (Ex w v0) := Lib.hid ((Ex.refl w).chg X0.out (by omega))
  clear hv0
  refine (C0.out _ Ev0.out).mono ?_; rintro r w0 ⟨t, sp, A0, c0, rfl, hl0, hf0, hb0⟩
  have Y0 : Hid (Chg 0 0 v0 w0) := Lib.hid (Chg.of_ex hb0)
  have s0 : v0.heap.size ≤ w0.heap.size := Y0.out.size
  have Ew0 : Hid (Ex w w0) := Lib.hid (Ev0.out.chg Y0.out (by omega))
  clear hb0
  have HF0 := Lib.hid hf0; clear hf0
  have WHF0 := Lib.hid HF0.out.row
  clear C0
  have hn : t.owns.length ≤ 1048576 := by omega
  have C1 := Lib.hid (takeTagI_c t sp)
  have C2 := Lib.hid (takeTagS_c t sp)
  have hfew := takeTag_few t sp hn
  have HLAW : Hid (∀ u g fr, takeTag t sp = (u, g, fr, true) → RoundLaw t sp u fr) := Lib.hid (fun u g fr h => round_all h)
  generalize takeTag t sp = q at C1 C2 hfew HLAW
  obtain ⟨u, g, fr, ok⟩ := q
  dsimp only at C1 C2 hfew
  have hne0 : (g != g) = false := by simp
  have heq0 : (g == g) = true := by simp
  have hne1 : (fr != fr) = false := by simp
  have heq1 : (fr == fr) = true := by simp
  cases ok
  · skip
    go_wp2_with fail
    refine name_calls ?_; intro v1 hv1
    have X1 : Hid (Chg (0) (0) w0 v1) := Lib.hid (by rw [hv1]; repeat' (first | with_reducible exact Chg.refl _ _ _ | with_reducible refine Chg.alloc ?_ _ | with_reducible refine Chg.drew ?_ | with_reducible refine Chg.set ?_ (by omega) _))
    have t1 : w0.heap.size ≤ v1.heap.size := X1.out.size
    have Ev1 : Hid (Ex w v1) := Lib.hid (Ew0.out.chg X1.out (by omega))
    replace HF0 := Lib.hid (HF0.out.chg X1.out WHF0.out (by omega))
    have KX : Hid (Blk v1 (w0.heap.size) 30 [.int .i64 t.count, .int .i64 t.next, .int .i64 t.round, .slice A0 t.owns.length c0]) := Lib.hid (by rw [hv1]; repeat' (first | with_reducible exact Blk.new_at _ _ _ (by simp) | with_reducible refine Blk.alloc ?_ _ | with_reducible refine Blk.drew ?_ | with_reducible refine Blk.far ?_ (by simp; omega) _))
    have lX : w0.heap.size < v1.heap.size := KX.out.lt
    clear hv1
    refine (C1.out A0 c0 _ HF0.out.rd hn HF0.out.le HF0.out.cap).mono ?_; rintro r w1 ⟨A1, c1, rfl, hf1, hb1⟩
    have Y1 : Hid (Chg 0 0 v1 w1) := Lib.hid (Chg.of_ex hb1)
    have s1 : v1.heap.size ≤ w1.heap.size := Y1.out.size
    have Ew1 : Hid (Ex w w1) := Lib.hid (Ev1.out.chg Y1.out (by omega))
    clear hb1
    replace KX : Hid (Blk w1 (w0.heap.size) 30 [.int .i64 t.count, .int .i64 t.next, .int .i64 t.round, .slice A0 t.owns.length c0]) := Lib.hid (KX.out.chg Y1.out (by omega))
    replace HF0 := Lib.hid (HF0.out.chg Y1.out WHF0.out (by omega))
    have HF1 := Lib.hid hf1; clear hf1
    have WHF1 := Lib.hid HF1.out.row
    obtain ⟨qX0, qX1, qX2, qX3⟩ := KX.out.c4
    have jX := KX.out.lt
    go_wp2_with fail
    refine name_calls ?_; intro v2 hv2
    have X2 : Hid (Chg (0) (0) w1 v2) := Lib.hid (by rw [hv2]; repeat' (first | with_reducible exact Chg.refl _ _ _ | with_reducible refine Chg.alloc ?_ _ | with_reducible refine Chg.drew ?_ | with_reducible refine Chg.set ?_ (by omega) _))
    have t2 : w1.heap.size ≤ v2.heap.size := X2.out.size
    have Ev2 : Hid (Ex w v2) := Lib.hid (Ew1.out.chg X2.out (by omega))
    clear qX0 qX1 qX2 qX3 jX
    replace KX : Hid (Blk v2 (w0.heap.size) 30 [.int .i64 t.count, .int .i64 t.next, .int .i64 t.round, .slice A0 t.owns.length c0]) := Lib.hid (KX.out.chg X2.out (by omega))
    replace HF0 := Lib.hid (HF0.out.chg X2.out WHF0.out (by omega))
    replace HF1 := Lib.hid (HF1.out.chg X2.out WHF1.out (by omega))
    have KD : Hid (Blk v2 (w1.heap.size) 30 [.int .i64 u.count, .int .i64 u.next, .int .i64 u.round, .slice A1 u.owns.length c1]) := Lib.hid (by rw [hv2]; repeat' (first | with_reducible exact Blk.new_at _ _ _ (by simp) | with_reducible refine Blk.alloc ?_ _ | with_reducible refine Blk.drew ?_ | with_reducible refine Blk.far ?_ (by simp; omega) _))
    have lD : w1.heap.size < v2.heap.size := KD.out.lt
    clear hv2
    refine (C2.out A0 c0 _ HF0.out.rd hn HF0.out.le HF0.out.cap).mono ?_; rintro r w2 ⟨A2, c2, rfl, hf2, hb2⟩
    have Y2 : Hid (Chg 0 0 v2 w2) := Lib.hid (Chg.of_ex hb2)
    have s2 : v2.heap.size ≤ w2.heap.size := Y2.out.size
    have Ew2 : Hid (Ex w w2) := Lib.hid (Ev2.out.chg Y2.out (by omega))
    clear hb2
    replace KX : Hid (Blk w2 (w0.heap.size) 30 [.int .i64 t.count, .int .i64 t.next, .int .i64 t.round, .slice A0 t.owns.length c0]) := Lib.hid (KX.out.chg Y2.out (by omega))
    replace KD : Hid (Blk w2 (w1.heap.size) 30 [.int .i64 u.count, .int .i64 u.next, .int .i64 u.round, .slice A1 u.owns.length c1]) := Lib.hid (KD.out.chg Y2.out (by omega))
    replace HF0 := Lib.hid (HF0.out.chg Y2.out WHF0.out (by omega))
    replace HF1 := Lib.hid (HF1.out.chg Y2.out WHF1.out (by omega))
    have HF2 := Lib.hid hf2; clear hf2
    have WHF2 := Lib.hid HF2.out.row
    obtain ⟨qX0, qX1, qX2, qX3⟩ := KX.out.c4
    have jX := KX.out.lt
    obtain ⟨qD0, qD1, qD2, qD3⟩ := KD.out.c4
    have jD := KD.out.lt
    go_wp2_with fail
    refine name_calls ?_; intro v3 hv3
    have X3 : Hid (Chg (0) (0) w2 v3) := Lib.hid (by rw [hv3]; repeat' (first | with_reducible exact Chg.refl _ _ _ | with_reducible refine Chg.alloc ?_ _ | with_reducible refine Chg.drew ?_ | with_reducible refine Chg.set ?_ (by omega) _))
    have t3 : w2.heap.size ≤ v3.heap.size := X3.out.size
    have Ev3 : Hid (Ex w v3) := Lib.hid (Ew2.out.chg X3.out (by omega))
    clear qX0 qX1 qX2 qX3 jX
    clear qD0 qD1 qD2 qD3 jD
    replace KX : Hid (Blk v3 (w0.heap.size) 30 [.int .i64 t.count, .int .i64 t.next, .int .i64 t.round, .slice A0 t.owns.length c0]) := Lib.hid (KX.out.chg X3.out (by omega))
    replace KD : Hid (Blk v3 (w1.heap.size) 30 [.int .i64 u.count, .int .i64 u.next, .int .i64 u.round, .slice A1 u.owns.length c1]) := Lib.hid (KD.out.chg X3.out (by omega))
    replace HF0 := Lib.hid (HF0.out.chg X3.out WHF0.out (by omega))
    replace HF1 := Lib.hid (HF1.out.chg X3.out WHF1.out (by omega))
    replace HF2 := Lib.hid (HF2.out.chg X3.out WHF2.out (by omega))
    have KW : Hid (Blk v3 (w2.heap.size) 30 [.int .i64 u.count, .int .i64 u.next, .int .i64 u.round, .slice A2 u.owns.length c2]) := Lib.hid (by rw [hv3]; repeat' (first | with_reducible exact Blk.new_at _ _ _ (by simp) | with_reducible refine Blk.alloc ?_ _ | with_reducible refine Blk.drew ?_ | with_reducible refine Blk.far ?_ (by simp; omega) _))
    have lW : w2.heap.size < v3.heap.size := KW.out.lt
    clear hv3
    refine (tagsSameI_c u u _ _ _ _ _ HF1.out.rd HF2.out.rd hfew hfew).mono ?_; rintro r w3 ⟨rfl, hb3⟩
    have Y3 : Hid (Chg 0 0 v3 w3) := Lib.hid (Chg.of_ex hb3)
    have s3 : v3.heap.size ≤ w3.heap.size := Y3.out.size
    have Ew3 : Hid (Ex w w3) := Lib.hid (Ev3.out.chg Y3.out (by omega))
    clear hb3
    replace KX : Hid (Blk w3 (w0.heap.size) 30 [.int .i64 t.count, .int .i64 t.next, .int .i64 t.round, .slice A0 t.owns.length c0]) := Lib.hid (KX.out.chg Y3.out (by omega))
    replace KD : Hid (Blk w3 (w1.heap.size) 30 [.int .i64 u.count, .int .i64 u.next, .int .i64 u.round, .slice A1 u.owns.length c1]) := Lib.hid (KD.out.chg Y3.out (by omega))
    replace KW : Hid (Blk w3 (w2.heap.size) 30 [.int .i64 u.count, .int .i64 u.next, .int .i64 u.round, .slice A2 u.owns.length c2]) := Lib.hid (KW.out.chg Y3.out (by omega))
    replace HF0 := Lib.hid (HF0.out.chg Y3.out WHF0.out (by omega))
    replace HF1 := Lib.hid (HF1.out.chg Y3.out WHF1.out (by omega))
    replace HF2 := Lib.hid (HF2.out.chg Y3.out WHF2.out (by omega))
    obtain ⟨qX0, qX1, qX2, qX3⟩ := KX.out.c4
    have jX := KX.out.lt
    obtain ⟨qD0, qD1, qD2, qD3⟩ := KD.out.c4
    have jD := KD.out.lt
    obtain ⟨qW0, qW1, qW2, qW3⟩ := KW.out.c4
    have jW := KW.out.lt
    rw [eqB_self]
    go_wp2_with fail
    refine name_calls ?_; intro v4 hv4
    have X4 : Hid (Chg (0) (0) w3 v4) := Lib.hid (by rw [hv4]; repeat' (first | with_reducible exact Chg.refl _ _ _ | with_reducible refine Chg.alloc ?_ _ | with_reducible refine Chg.drew ?_ | with_reducible refine Chg.set ?_ (by omega) _))
    have t4 : w3.heap.size ≤ v4.heap.size := X4.out.size
    have Ev4 : Hid (Ex w v4) := Lib.hid (Ew3.out.chg X4.out (by omega))
    clear qX0 qX1 qX2 qX3 jX
    clear qD0 qD1 qD2 qD3 jD
    clear qW0 qW1 qW2 qW3 jW
    replace KX : Hid (Blk v4 (w0.heap.size) 30 [.int .i64 t.count, .int .i64 t.next, .int .i64 t.round, .slice A0 t.owns.length c0]) := Lib.hid (KX.out.chg X4.out (by omega))
    replace KD : Hid (Blk v4 (w1.heap.size) 30 [.int .i64 u.count, .int .i64 u.next, .int .i64 u.round, .slice A1 u.owns.length c1]) := Lib.hid (KD.out.chg X4.out (by omega))
    replace KW : Hid (Blk v4 (w2.heap.size) 30 [.int .i64 u.count, .int .i64 u.next, .int .i64 u.round, .slice A2 u.owns.length c2]) := Lib.hid (KW.out.chg X4.out (by omega))
    replace HF0 := Lib.hid (HF0.out.chg X4.out WHF0.out (by omega))
    replace HF1 := Lib.hid (HF1.out.chg X4.out WHF1.out (by omega))
    replace HF2 := Lib.hid (HF2.out.chg X4.out WHF2.out (by omega))
    clear hv4
    refine (tagsSameI_c u u _ _ _ _ _ HF1.out.rd HF2.out.rd hfew hfew).mono ?_; rintro r w4 ⟨rfl, hb4⟩
    have Y4 : Hid (Chg 0 0 v4 w4) := Lib.hid (Chg.of_ex hb4)
    have s4 : v4.heap.size ≤ w4.heap.size := Y4.out.size
    have Ew4 : Hid (Ex w w4) := Lib.hid (Ev4.out.chg Y4.out (by omega))
    clear hb4
    replace KX : Hid (Blk w4 (w0.heap.size) 30 [.int .i64 t.count, .int .i64 t.next, .int .i64 t.round, .slice A0 t.owns.length c0]) := Lib.hid (KX.out.chg Y4.out (by omega))
    replace KD : Hid (Blk w4 (w1.heap.size) 30 [.int .i64 u.count, .int .i64 u.next, .int .i64 u.round, .slice A1 u.owns.length c1]) := Lib.hid (KD.out.chg Y4.out (by omega))
    replace KW : Hid (Blk w4 (w2.heap.size) 30 [.int .i64 u.count, .int .i64 u.next, .int .i64 u.round, .slice A2 u.owns.length c2]) := Lib.hid (KW.out.chg Y4.out (by omega))
    replace HF0 := Lib.hid (HF0.out.chg Y4.out WHF0.out (by omega))
    replace HF1 := Lib.hid (HF1.out.chg Y4.out WHF1.out (by omega))
    replace HF2 := Lib.hid (HF2.out.chg Y4.out WHF2.out (by omega))
    obtain ⟨qX0, qX1, qX2, qX3⟩ := KX.out.c4
    have jX := KX.out.lt
    obtain ⟨qD0, qD1, qD2, qD3⟩ := KD.out.c4
    have jD := KD.out.lt
    obtain ⟨qW0, qW1, qW2, qW3⟩ := KW.out.c4
    have jW := KW.out.lt
    rw [eqB_self]
    go_wp2
    go_ret
    exact ⟨rfl, (by repeat' (first | with_reducible exact Ew4.out | with_reducible refine Ex.alloc ?_ _ | with_reducible refine Ex.drew ?_ | with_reducible refine Ex.put ?_ (by omega) _))⟩
  obtain ⟨hr0, hr1, hlaw, hrt, hrf⟩ := HLAW.out u g fr rfl
  have HLA := Lib.hid hlaw
  have HRT := Lib.hid hrt
  have HRF := Lib.hid hrf
  clear hlaw HLAW hrt hrf
  go_wp2_with fail
  refine name_calls ?_; intro v1 hv1
  have X1 : Hid (Chg (0) (0) w0 v1) := Lib.hid (by rw [hv1]; repeat' (first | with_reducible exact Chg.refl _ _ _ | with_reducible refine Chg.alloc ?_ _ | with_reducible refine Chg.drew ?_ | with_reducible refine Chg.set ?_ (by omega) _))
  have t1 : w0.heap.size ≤ v1.heap.size := X1.out.size
  have Ev1 : Hid (Ex w v1) := Lib.hid (Ew0.out.chg X1.out (by omega))
  replace HF0 := Lib.hid (HF0.out.chg X1.out WHF0.out (by omega))
  have KX : Hid (Blk v1 (w0.heap.size) 30 [.int .i64 t.count, .int .i64 t.next, .int .i64 t.round, .slice A0 t.owns.length c0]) := Lib.hid (by rw [hv1]; repeat' (first | with_reducible exact Blk.new_at _ _ _ (by simp) | with_reducible refine Blk.alloc ?_ _ | with_reducible refine Blk.drew ?_ | with_reducible refine Blk.far ?_ (by simp; omega) _))
  have lX : w0.heap.size < v1.heap.size := KX.out.lt
  clear hv1
  refine (C1.out A0 c0 _ HF0.out.rd hn HF0.out.le HF0.out.cap).mono ?_; rintro r w1 ⟨A1, c1, rfl, hf1, hb1⟩
  have Y1 : Hid (Chg 0 0 v1 w1) := Lib.hid (Chg.of_ex hb1)
  have s1 : v1.heap.size ≤ w1.heap.size := Y1.out.size
  have Ew1 : Hid (Ex w w1) := Lib.hid (Ev1.out.chg Y1.out (by omega))
  clear hb1
  replace KX : Hid (Blk w1 (w0.heap.size) 30 [.int .i64 t.count, .int .i64 t.next, .int .i64 t.round, .slice A0 t.owns.length c0]) := Lib.hid (KX.out.chg Y1.out (by omega))
  replace HF0 := Lib.hid (HF0.out.chg Y1.out WHF0.out (by omega))
  have HF1 := Lib.hid hf1; clear hf1
  have WHF1 := Lib.hid HF1.out.row
  obtain ⟨qX0, qX1, qX2, qX3⟩ := KX.out.c4
  have jX := KX.out.lt
  go_wp2_with fail
  refine name_calls ?_; intro v2 hv2
  have X2 : Hid (Chg (0) (0) w1 v2) := Lib.hid (by rw [hv2]; repeat' (first | with_reducible exact Chg.refl _ _ _ | with_reducible refine Chg.alloc ?_ _ | with_reducible refine Chg.drew ?_ | with_reducible refine Chg.set ?_ (by omega) _))
  have t2 : w1.heap.size ≤ v2.heap.size := X2.out.size
  have Ev2 : Hid (Ex w v2) := Lib.hid (Ew1.out.chg X2.out (by omega))
  clear qX0 qX1 qX2 qX3 jX
  replace KX : Hid (Blk v2 (w0.heap.size) 30 [.int .i64 t.count, .int .i64 t.next, .int .i64 t.round, .slice A0 t.owns.length c0]) := Lib.hid (KX.out.chg X2.out (by omega))
  replace HF0 := Lib.hid (HF0.out.chg X2.out WHF0.out (by omega))
  replace HF1 := Lib.hid (HF1.out.chg X2.out WHF1.out (by omega))
  have KD : Hid (Blk v2 (w1.heap.size) 30 [.int .i64 u.count, .int .i64 u.next, .int .i64 u.round, .slice A1 u.owns.length c1]) := Lib.hid (by rw [hv2]; repeat' (first | with_reducible exact Blk.new_at _ _ _ (by simp) | with_reducible refine Blk.alloc ?_ _ | with_reducible refine Blk.drew ?_ | with_reducible refine Blk.far ?_ (by simp; omega) _))
  have lD : w1.heap.size < v2.heap.size := KD.out.lt
  clear hv2
  refine (C2.out A0 c0 _ HF0.out.rd hn HF0.out.le HF0.out.cap).mono ?_; rintro r w2 ⟨A2, c2, rfl, hf2, hb2⟩
  have Y2 : Hid (Chg 0 0 v2 w2) := Lib.hid (Chg.of_ex hb2)
  have s2 : v2.heap.size ≤ w2.heap.size := Y2.out.size
  have Ew2 : Hid (Ex w w2) := Lib.hid (Ev2.out.chg Y2.out (by omega))
  clear hb2
  replace KX : Hid (Blk w2 (w0.heap.size) 30 [.int .i64 t.count, .int .i64 t.next, .int .i64 t.round, .slice A0 t.owns.length c0]) := Lib.hid (KX.out.chg Y2.out (by omega))
  replace KD : Hid (Blk w2 (w1.heap.size) 30 [.int .i64 u.count, .int .i64 u.next, .int .i64 u.round, .slice A1 u.owns.length c1]) := Lib.hid (KD.out.chg Y2.out (by omega))
  replace HF0 := Lib.hid (HF0.out.chg Y2.out WHF0.out (by omega))
  replace HF1 := Lib.hid (HF1.out.chg Y2.out WHF1.out (by omega))
  have HF2 := Lib.hid hf2; clear hf2
  have WHF2 := Lib.hid HF2.out.row
  obtain ⟨qX0, qX1, qX2, qX3⟩ := KX.out.c4
  have jX := KX.out.lt
  obtain ⟨qD0, qD1, qD2, qD3⟩ := KD.out.c4
  have jD := KD.out.lt
  go_wp2_with fail
  refine name_calls ?_; intro v3 hv3
  have X3 : Hid (Chg (0) (0) w2 v3) := Lib.hid (by rw [hv3]; repeat' (first | with_reducible exact Chg.refl _ _ _ | with_reducible refine Chg.alloc ?_ _ | with_reducible refine Chg.drew ?_ | with_reducible refine Chg.set ?_ (by omega) _))
  have t3 : w2.heap.size ≤ v3.heap.size := X3.out.size
  have Ev3 : Hid (Ex w v3) := Lib.hid (Ew2.out.chg X3.out (by omega))
  clear qX0 qX1 qX2 qX3 jX
  clear qD0 qD1 qD2 qD3 jD
  replace KX : Hid (Blk v3 (w0.heap.size) 30 [.int .i64 t.count, .int .i64 t.next, .int .i64 t.round, .slice A0 t.owns.length c0]) := Lib.hid (KX.out.chg X3.out (by omega))
  replace KD : Hid (Blk v3 (w1.heap.size) 30 [.int .i64 u.count, .int .i64 u.next, .int .i64 u.round, .slice A1 u.owns.length c1]) := Lib.hid (KD.out.chg X3.out (by omega))
  replace HF0 := Lib.hid (HF0.out.chg X3.out WHF0.out (by omega))
  replace HF1 := Lib.hid (HF1.out.chg X3.out WHF1.out (by omega))
  replace HF2 := Lib.hid (HF2.out.chg X3.out WHF2.out (by omega))
  have KW : Hid (Blk v3 (w2.heap.size) 30 [.int .i64 u.count, .int .i64 u.next, .int .i64 u.round, .slice A2 u.owns.length c2]) := Lib.hid (by rw [hv3]; repeat' (first | with_reducible exact Blk.new_at _ _ _ (by simp) | with_reducible refine Blk.alloc ?_ _ | with_reducible refine Blk.drew ?_ | with_reducible refine Blk.far ?_ (by simp; omega) _))
  have lW : w2.heap.size < v3.heap.size := KW.out.lt
  clear hv3
  refine (tagsSameI_c u u _ _ _ _ _ HF1.out.rd HF2.out.rd hfew hfew).mono ?_; rintro r w3 ⟨rfl, hb3⟩
  have Y3 : Hid (Chg 0 0 v3 w3) := Lib.hid (Chg.of_ex hb3)
  have s3 : v3.heap.size ≤ w3.heap.size := Y3.out.size
  have Ew3 : Hid (Ex w w3) := Lib.hid (Ev3.out.chg Y3.out (by omega))
  clear hb3
  replace KX : Hid (Blk w3 (w0.heap.size) 30 [.int .i64 t.count, .int .i64 t.next, .int .i64 t.round, .slice A0 t.owns.length c0]) := Lib.hid (KX.out.chg Y3.out (by omega))
  replace KD : Hid (Blk w3 (w1.heap.size) 30 [.int .i64 u.count, .int .i64 u.next, .int .i64 u.round, .slice A1 u.owns.length c1]) := Lib.hid (KD.out.chg Y3.out (by omega))
  replace KW : Hid (Blk w3 (w2.heap.size) 30 [.int .i64 u.count, .int .i64 u.next, .int .i64 u.round, .slice A2 u.owns.length c2]) := Lib.hid (KW.out.chg Y3.out (by omega))
  replace HF0 := Lib.hid (HF0.out.chg Y3.out WHF0.out (by omega))
  replace HF1 := Lib.hid (HF1.out.chg Y3.out WHF1.out (by omega))
  replace HF2 := Lib.hid (HF2.out.chg Y3.out WHF2.out (by omega))
  obtain ⟨qX0, qX1, qX2, qX3⟩ := KX.out.c4
  have jX := KX.out.lt
  obtain ⟨qD0, qD1, qD2, qD3⟩ := KD.out.c4
  have jD := KD.out.lt
  obtain ⟨qW0, qW1, qW2, qW3⟩ := KW.out.c4
  have jW := KW.out.lt
  rw [eqB_self]
  clear qW0 qW1 qW2 qW3 jW
  clear KW
  clear HF2 WHF2
  go_wp2
  go_loopw [13] (fun i wr => ∃ k : Nat, i = .int .i64 k ∧ k ≤ 16 ∧ Ex w3 wr) (fun i _ => 16 - (intOf i).toNat)
  case atStart => exact ⟨0, rfl, Nat.zero_le _, Ex.refl _⟩
  case round =>
    obtain ⟨k, rfl, hk, hbel⟩ := hrel
    have HB := Lib.hid hbel
    have hszb := HB.out.size
    have Ewr := Lib.hid (Ew3.out.trans hbel)
    clear hbel qX0 qX1 qX2 qX3 jX qD0 qD1 qD2 qD3 jD
    have KX := Lib.hid (KX.out.ex HB.out)
    have KD := Lib.hid (KD.out.ex HB.out)
    have HF0 := Lib.hid (HF0.out.ex HB.out)
    have WHF0 := Lib.hid HF0.out.row
    have HF1 := Lib.hid (HF1.out.ex HB.out)
    have WHF1 := Lib.hid HF1.out.row
    obtain ⟨qX0, qX1, qX2, qX3⟩ := KX.out.c4
    have jX := KX.out.lt
    obtain ⟨qD0, qD1, qD2, qD3⟩ := KD.out.c4
    have jD := KD.out.lt
    by_cases hlt : k < 16
    · have hlt' : (k : Int) < 16 := by omega
      have C5 := Lib.hid (tagOfI_c t (k : Int))
      have C6 := Lib.hid (tagOfI_c u (k : Int))
      have HQ := Lib.hid (HLA.out (k : Int))
      generalize tagOf t (k : Int) = q5 at C5 HQ
      generalize tagOf u (k : Int) = q6 at C6 HQ
      obtain ⟨a5, b5⟩ := q5
      obtain ⟨a6, b6⟩ := q6
      dsimp only at C5 C6 HQ
      go_wp2_with fail
      refine name_calls ?_; intro v5 hv5
      have X5 : Hid (Chg (0) (0) wr v5) := Lib.hid (by rw [hv5]; repeat' (first | with_reducible exact Chg.refl _ _ _ | with_reducible refine Chg.alloc ?_ _ | with_reducible refine Chg.drew ?_ | with_reducible refine Chg.set ?_ (by omega) _))
      have t5 : wr.heap.size ≤ v5.heap.size := X5.out.size
      have Ev5 : Hid (Ex w v5) := Lib.hid (Ewr.out.chg X5.out (by omega))
      clear qX0 qX1 qX2 qX3 jX
      clear qD0 qD1 qD2 qD3 jD
      replace KX : Hid (Blk v5 (w0.heap.size) 30 [.int .i64 t.count, .int .i64 t.next, .int .i64 t.round, .slice A0 t.owns.length c0]) := Lib.hid (KX.out.chg X5.out (by omega))
      replace KD : Hid (Blk v5 (w1.heap.size) 30 [.int .i64 u.count, .int .i64 u.next, .int .i64 u.round, .slice A1 u.owns.length c1]) := Lib.hid (KD.out.chg X5.out (by omega))
      replace HF0 := Lib.hid (HF0.out.chg X5.out WHF0.out (by omega))
      replace HF1 := Lib.hid (HF1.out.chg X5.out WHF1.out (by omega))
      clear hv5
      refine (C5.out A0 c0 _ HF0.out.rd hn HF0.out.le).mono ?_; rintro r w5 ⟨rfl, hb5⟩
      have Y5 : Hid (Chg 0 0 v5 w5) := Lib.hid (Chg.of_ex hb5)
      have s5 : v5.heap.size ≤ w5.heap.size := Y5.out.size
      have Ew5 : Hid (Ex w w5) := Lib.hid (Ev5.out.chg Y5.out (by omega))
      clear hb5
      replace KX : Hid (Blk w5 (w0.heap.size) 30 [.int .i64 t.count, .int .i64 t.next, .int .i64 t.round, .slice A0 t.owns.length c0]) := Lib.hid (KX.out.chg Y5.out (by omega))
      replace KD : Hid (Blk w5 (w1.heap.size) 30 [.int .i64 u.count, .int .i64 u.next, .int .i64 u.round, .slice A1 u.owns.length c1]) := Lib.hid (KD.out.chg Y5.out (by omega))
      replace HF0 := Lib.hid (HF0.out.chg Y5.out WHF0.out (by omega))
      replace HF1 := Lib.hid (HF1.out.chg Y5.out WHF1.out (by omega))
      obtain ⟨qX0, qX1, qX2, qX3⟩ := KX.out.c4
      have jX := KX.out.lt
      obtain ⟨qD0, qD1, qD2, qD3⟩ := KD.out.c4
      have jD := KD.out.lt
      go_wp2_with fail
      refine name_calls ?_; intro v6 hv6
      have X6 : Hid (Chg (0) (0) w5 v6) := Lib.hid (by rw [hv6]; repeat' (first | with_reducible exact Chg.refl _ _ _ | with_reducible refine Chg.alloc ?_ _ | with_reducible refine Chg.drew ?_ | with_reducible refine Chg.set ?_ (by omega) _))
      have t6 : w5.heap.size ≤ v6.heap.size := X6.out.size
      have Ev6 : Hid (Ex w v6) := Lib.hid (Ew5.out.chg X6.out (by omega))
      clear qX0 qX1 qX2 qX3 jX
      clear qD0 qD1 qD2 qD3 jD
      replace KX : Hid (Blk v6 (w0.heap.size) 30 [.int .i64 t.count, .int .i64 t.next, .int .i64 t.round, .slice A0 t.owns.length c0]) := Lib.hid (KX.out.chg X6.out (by omega))
      replace KD : Hid (Blk v6 (w1.heap.size) 30 [.int .i64 u.count, .int .i64 u.next, .int .i64 u.round, .slice A1 u.owns.length c1]) := Lib.hid (KD.out.chg X6.out (by omega))
      replace HF0 := Lib.hid (HF0.out.chg X6.out WHF0.out (by omega))
      replace HF1 := Lib.hid (HF1.out.chg X6.out WHF1.out (by omega))
      clear hv6
      refine (C6.out A1 c1 _ HF1.out.rd hfew HF1.out.le).mono ?_; rintro r w6 ⟨rfl, hb6⟩
      have Y6 : Hid (Chg 0 0 v6 w6) := Lib.hid (Chg.of_ex hb6)
      have s6 : v6.heap.size ≤ w6.heap.size := Y6.out.size
      have Ew6 : Hid (Ex w w6) := Lib.hid (Ev6.out.chg Y6.out (by omega))
      clear hb6
      replace KX : Hid (Blk w6 (w0.heap.size) 30 [.int .i64 t.count, .int .i64 t.next, .int .i64 t.round, .slice A0 t.owns.length c0]) := Lib.hid (KX.out.chg Y6.out (by omega))
      replace KD : Hid (Blk w6 (w1.heap.size) 30 [.int .i64 u.count, .int .i64 u.next, .int .i64 u.round, .slice A1 u.owns.length c1]) := Lib.hid (KD.out.chg Y6.out (by omega))
      replace HF0 := Lib.hid (HF0.out.chg Y6.out WHF0.out (by omega))
      replace HF1 := Lib.hid (HF1.out.chg Y6.out WHF1.out (by omega))
      obtain ⟨qX0, qX1, qX2, qX3⟩ := KX.out.c4
      have jX := KX.out.lt
      obtain ⟨qD0, qD1, qD2, qD3⟩ := KD.out.c4
      have jD := KD.out.lt
      have HEX : Hid (Ex w3 w6) := Lib.hid (HB.out.trans (X5.out.ex_.trans (Y5.out.ex_.trans (X6.out.ex_.trans Y6.out.ex_))))
      by_cases hks : (k : Int) = sp
      · have hkb : ((k : Int) == sp) = true := by simp [hks]
        clear hks
        go_wp2
        go_roundw
        case rel => exact ⟨k + 1, by go_num, by omega, HEX.out⟩
        case measure => simp [intOf]; omega
      have hkb : ((k : Int) == sp) = false := by simp [hks]
      obtain ⟨h1, h2⟩ := HQ.out hks
      clear hks
      cases fr
      · have e := h2 rfl
        injection e with e1 e2
        subst e1 e2
        clear h1 h2
        have hx1 : (a6 != a6) = false := by simp
        have hx2 : (b6 != b6) = false := by simp
        cases b6
        all_goals
          go_wp2
          go_roundw
          case rel => exact ⟨k + 1, by go_num, by omega, HEX.out⟩
          case measure => simp [intOf]; omega
      · have e := h1 rfl
        subst e
        clear h1 h2
        go_wp2
        go_roundw
        case rel => exact ⟨k + 1, by go_num, by omega, HEX.out⟩
        case measure => simp [intOf]; omega
    · obtain rfl : k = 16 := by omega
      cases fr
      · have e := HRF.out rfl
        have hb1 : (u.round == t.round + 1) = false := beq_eq_false_iff_ne.2 (by omega)
        have hb2 : (u.round == t.round) = true := by simp [e]
        clear e
        go_wp2
        go_ret
        exact ⟨rfl, (by repeat' (first | with_reducible exact Ewr.out | with_reducible refine Ex.alloc ?_ _ | with_reducible refine Ex.drew ?_ | with_reducible refine Ex.put ?_ (by omega) _))⟩
      · have e := HRT.out rfl
        have hb1 : (u.round == t.round + 1) = true := by simp [e]
        clear e
        go_wp2
        go_ret
        exact ⟨rfl, (by repeat' (first | with_reducible exact Ewr.out | with_reducible refine Ex.alloc ?_ _ | with_reducible refine Ex.drew ?_ | with_reducible refine Ex.put ?_ (by omega) _))⟩
end Go.Proofs.Ytkiohppknlmfaaa
