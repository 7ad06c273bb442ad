/- The law FnFillAll: the walk. -/
import Derived.Test.YtcaaficjcghheaaDd
import Derived.Test.YtcaaficjcghheaaCg
import Derived.Test.YtcaaficjcghheaaLf
namespace Go.Proofs.Ytcaaficjcghheaa
open Go.ChangeShapes Go.WideShapes Go.ChangeAt Go.RowKit
open Rec (sz cs)
set_option linter.unusedVariables false
set_option maxRecDepth 100000

/-- What holds at the head of the law's first loop. -/
def FillLoop (m gC : Nat) (w : World) (i : Value) (wr : World) : Prop := ∃ (k : Nat) (A : Option Addr) (c : Nat), i = .int .i64 k ∧ k ≤ 3 * m ∧ Ex w wr ∧ Blk wr gC 29 [.slice A (fillSt m k).lines.length c, .int .i64 (fillSt m k).hand] ∧ Fr 47 wr w.heap.size A c (fillSt m k).lines ∧ (∀ b, rowOf A c = some b → b ≠ gC)

set_option maxHeartbeats 16000000 in
theorem walk_FnFillAll (A : Option Addr) (n c : Nat) (bs : List ByteD) (w : World) (hr : Rd w A bs) (hc : Bytes bs ∧ bs.length = n ∧ n ≤ c ∧ c ≤ maxLen) :
    Calls Try.prog 7 #[.slice A n c] w fun r w' => r = .returned (.bool true) ∧ Ex w w' := by
  obtain ⟨hb, rfl, hnc, hcm⟩ := hc
  by_cases hbig : 1048576 < bs.length
  · have hbig' : (1048576 : Int) < (bs.length : Int) := by omega
    unfold maxLen at hcm
    generalize bs.length = n at *
    go_enter Try.func7, Try.ntmps7
    go_wp2
    go_ret
    exact ⟨rfl, Ex.refl _⟩
  have hsm : ¬ (1048576 : Int) < (bs.length : Int) := by omega
  have C0 := Lib.hid (fun w' (h : Ex w w') => drawNewCache_c A c bs w' (hr.ex h) hb (by omega) hnc hcm)
  have hcm' := hcm
  unfold maxLen at hcm'
  generalize bs.length = n at *
  clear hr hb hcm
  go_enter Try.func7, Try.ntmps7
  go_wp2_with fail
  refine name_calls ?_; intro v0 hv0
  have X0 : Hid (Chg (0) (0) w v0) := Lib.hid (by rw [hv0]; repeat' (first | with_reducible exact Chg.refl _ _ _ | with_reducible refine Chg.alloc ?_ _ | with_reducible refine Chg.drew ?_ | with_reducible refine Chg.set ?_ (by omega) _))
  have t0 : w.heap.size ≤ v0.heap.size := X0.out.size
  have Ev0 : Hid (Ex w v0) := Lib.hid ((Ex.refl w).chg X0.out (by omega))
  clear hv0
  refine (C0.out _ Ev0.out).mono ?_; rintro r w0 ⟨n0, rfl, hm, hb0⟩
  have Y0 : Hid (Chg 0 0 v0 w0) := Lib.hid (Chg.of_ex hb0)
  have s0 : v0.heap.size ≤ w0.heap.size := Y0.out.size
  have Ew0 : Hid (Ex w w0) := Lib.hid (Ev0.out.chg Y0.out (by omega))
  clear hb0
  have C1 := Lib.hid (newCacheI_c n0)
  have C2 := Lib.hid (newCacheS_c n0)
  clear hm C0
  by_cases hok : 1 ≤ n0 ∧ n0 ≤ 8
  rotate_left
  · have e : newCache n0 = (noCache, false) := if_neg hok
    rw [e] at C1 C2
    dsimp only at C1 C2
    have hfew : noCache.lines.length ≤ 1048576 := by simp [noCache]
    clear e
    go_wp2_with fail
    refine name_calls ?_; intro v1 hv1
    have X1 : Hid (Chg (0) (0) w0 v1) := Lib.hid (by rw [hv1]; repeat' (first | with_reducible exact Chg.refl _ _ _ | with_reducible refine Chg.alloc ?_ _ | with_reducible refine Chg.drew ?_ | with_reducible refine Chg.set ?_ (by omega) _))
    have t1 : w0.heap.size ≤ v1.heap.size := X1.out.size
    have Ev1 : Hid (Ex w v1) := Lib.hid (Ew0.out.chg X1.out (by omega))
    clear hv1
    refine (C1.out _).mono ?_; rintro r w1 ⟨A1, c1, rfl, hf1, hb1⟩
    have Y1 : Hid (Chg 0 0 v1 w1) := Lib.hid (Chg.of_ex hb1)
    have s1 : v1.heap.size ≤ w1.heap.size := Y1.out.size
    have Ew1 : Hid (Ex w w1) := Lib.hid (Ev1.out.chg Y1.out (by omega))
    clear hb1
    have HF1 := Lib.hid hf1; clear hf1
    have WHF1 := Lib.hid HF1.out.row
    go_wp2_with fail
    refine name_calls ?_; intro v2 hv2
    have X2 : Hid (Chg (0) (0) w1 v2) := Lib.hid (by rw [hv2]; repeat' (first | with_reducible exact Chg.refl _ _ _ | with_reducible refine Chg.alloc ?_ _ | with_reducible refine Chg.drew ?_ | with_reducible refine Chg.set ?_ (by omega) _))
    have t2 : w1.heap.size ≤ v2.heap.size := X2.out.size
    have Ev2 : Hid (Ex w v2) := Lib.hid (Ew1.out.chg X2.out (by omega))
    replace HF1 := Lib.hid (HF1.out.chg X2.out WHF1.out (by omega))
    have KC : Hid (Blk v2 (w1.heap.size) 29 [.slice A1 noCache.lines.length c1, .int .i64 noCache.hand]) := Lib.hid (by rw [hv2]; repeat' (first | with_reducible exact Blk.new_at _ _ _ (by simp) | with_reducible refine Blk.alloc ?_ _ | with_reducible refine Blk.drew ?_ | with_reducible refine Blk.far ?_ (by simp; omega) _))
    have lC : w1.heap.size < v2.heap.size := KC.out.lt
    clear hv2
    refine (C2.out _).mono ?_; rintro r w2 ⟨A2, c2, rfl, hf2, hb2⟩
    have Y2 : Hid (Chg 0 0 v2 w2) := Lib.hid (Chg.of_ex hb2)
    have s2 : v2.heap.size ≤ w2.heap.size := Y2.out.size
    have Ew2 : Hid (Ex w w2) := Lib.hid (Ev2.out.chg Y2.out (by omega))
    clear hb2
    replace KC : Hid (Blk w2 (w1.heap.size) 29 [.slice A1 noCache.lines.length c1, .int .i64 noCache.hand]) := Lib.hid (KC.out.chg Y2.out (by omega))
    replace HF1 := Lib.hid (HF1.out.chg Y2.out WHF1.out (by omega))
    have HF2 := Lib.hid hf2; clear hf2
    have WHF2 := Lib.hid HF2.out.row
    obtain ⟨qC0, qC1⟩ := KC.out.c2
    have jC := KC.out.lt
    go_wp2_with fail
    refine name_calls ?_; intro v3 hv3
    have X3 : Hid (Chg (0) (0) w2 v3) := Lib.hid (by rw [hv3]; repeat' (first | with_reducible exact Chg.refl _ _ _ | with_reducible refine Chg.alloc ?_ _ | with_reducible refine Chg.drew ?_ | with_reducible refine Chg.set ?_ (by omega) _))
    have t3 : w2.heap.size ≤ v3.heap.size := X3.out.size
    have Ev3 : Hid (Ex w v3) := Lib.hid (Ew2.out.chg X3.out (by omega))
    clear qC0 qC1 jC
    replace KC : Hid (Blk v3 (w1.heap.size) 29 [.slice A1 noCache.lines.length c1, .int .i64 noCache.hand]) := Lib.hid (KC.out.chg X3.out (by omega))
    replace HF1 := Lib.hid (HF1.out.chg X3.out WHF1.out (by omega))
    replace HF2 := Lib.hid (HF2.out.chg X3.out WHF2.out (by omega))
    have KW : Hid (Blk v3 (w2.heap.size) 29 [.slice A2 noCache.lines.length c2, .int .i64 noCache.hand]) := Lib.hid (by rw [hv3]; repeat' (first | with_reducible exact Blk.new_at _ _ _ (by simp) | with_reducible refine Blk.alloc ?_ _ | with_reducible refine Blk.drew ?_ | with_reducible refine Blk.far ?_ (by simp; omega) _))
    have lW : w2.heap.size < v3.heap.size := KW.out.lt
    clear hv3
    refine (cacheSameI_c noCache noCache _ _ _ _ _ HF1.out.rd HF2.out.rd hfew hfew).mono ?_; rintro r w3 ⟨rfl, hb3⟩
    have Y3 : Hid (Chg 0 0 v3 w3) := Lib.hid (Chg.of_ex hb3)
    have s3 : v3.heap.size ≤ w3.heap.size := Y3.out.size
    have Ew3 : Hid (Ex w w3) := Lib.hid (Ev3.out.chg Y3.out (by omega))
    clear hb3
    replace KC : Hid (Blk w3 (w1.heap.size) 29 [.slice A1 noCache.lines.length c1, .int .i64 noCache.hand]) := Lib.hid (KC.out.chg Y3.out (by omega))
    replace KW : Hid (Blk w3 (w2.heap.size) 29 [.slice A2 noCache.lines.length c2, .int .i64 noCache.hand]) := Lib.hid (KW.out.chg Y3.out (by omega))
    replace HF1 := Lib.hid (HF1.out.chg Y3.out WHF1.out (by omega))
    replace HF2 := Lib.hid (HF2.out.chg Y3.out WHF2.out (by omega))
    obtain ⟨qC0, qC1⟩ := KC.out.c2
    have jC := KC.out.lt
    obtain ⟨qW0, qW1⟩ := KW.out.c2
    have jW := KW.out.lt
    rw [eqB_self]
    go_wp2_with fail
    refine name_calls ?_; intro v4 hv4
    have X4 : Hid (Chg (0) (0) w3 v4) := Lib.hid (by rw [hv4]; repeat' (first | with_reducible exact Chg.refl _ _ _ | with_reducible refine Chg.alloc ?_ _ | with_reducible refine Chg.drew ?_ | with_reducible refine Chg.set ?_ (by omega) _))
    have t4 : w3.heap.size ≤ v4.heap.size := X4.out.size
    have Ev4 : Hid (Ex w v4) := Lib.hid (Ew3.out.chg X4.out (by omega))
    clear qC0 qC1 jC
    clear qW0 qW1 jW
    replace KC : Hid (Blk v4 (w1.heap.size) 29 [.slice A1 noCache.lines.length c1, .int .i64 noCache.hand]) := Lib.hid (KC.out.chg X4.out (by omega))
    replace KW : Hid (Blk v4 (w2.heap.size) 29 [.slice A2 noCache.lines.length c2, .int .i64 noCache.hand]) := Lib.hid (KW.out.chg X4.out (by omega))
    replace HF1 := Lib.hid (HF1.out.chg X4.out WHF1.out (by omega))
    replace HF2 := Lib.hid (HF2.out.chg X4.out WHF2.out (by omega))
    clear hv4
    refine (cacheSameI_c noCache noCache _ _ _ _ _ HF1.out.rd HF2.out.rd hfew hfew).mono ?_; rintro r w4 ⟨rfl, hb4⟩
    have Y4 : Hid (Chg 0 0 v4 w4) := Lib.hid (Chg.of_ex hb4)
    have s4 : v4.heap.size ≤ w4.heap.size := Y4.out.size
    have Ew4 : Hid (Ex w w4) := Lib.hid (Ev4.out.chg Y4.out (by omega))
    clear hb4
    replace KC : Hid (Blk w4 (w1.heap.size) 29 [.slice A1 noCache.lines.length c1, .int .i64 noCache.hand]) := Lib.hid (KC.out.chg Y4.out (by omega))
    replace KW : Hid (Blk w4 (w2.heap.size) 29 [.slice A2 noCache.lines.length c2, .int .i64 noCache.hand]) := Lib.hid (KW.out.chg Y4.out (by omega))
    replace HF1 := Lib.hid (HF1.out.chg Y4.out WHF1.out (by omega))
    replace HF2 := Lib.hid (HF2.out.chg Y4.out WHF2.out (by omega))
    obtain ⟨qC0, qC1⟩ := KC.out.c2
    have jC := KC.out.lt
    obtain ⟨qW0, qW1⟩ := KW.out.c2
    have jW := KW.out.lt
    rw [eqB_self]
    go_wp2
    go_ret
    exact ⟨rfl, Ew4.out⟩
  obtain ⟨m, rfl⟩ := Int.eq_ofNat_of_zero_le (show 0 ≤ n0 by omega)
  have h1 : 1 ≤ m := by omega
  have h2 : m ≤ 8 := by omega
  rw [newCache_eq h1 h2] at C1 C2
  dsimp only at C1 C2
  clear hok

  have hfew : (newOf m).lines.length ≤ 1048576 := by simp [newOf]; omega
  go_wp2_with fail
  refine name_calls ?_; intro v1 hv1
  have X1 : Hid (Chg (0) (0) w0 v1) := Lib.hid (by rw [hv1]; repeat' (first | with_reducible exact Chg.refl _ _ _ | with_reducible refine Chg.alloc ?_ _ | with_reducible refine Chg.drew ?_ | with_reducible refine Chg.set ?_ (by omega) _))
  have t1 : w0.heap.size ≤ v1.heap.size := X1.out.size
  have Ev1 : Hid (Ex w v1) := Lib.hid (Ew0.out.chg X1.out (by omega))
  clear hv1
  refine (C1.out _).mono ?_; rintro r w1 ⟨A1, c1, rfl, hf1, hb1⟩
  have Y1 : Hid (Chg 0 0 v1 w1) := Lib.hid (Chg.of_ex hb1)
  have s1 : v1.heap.size ≤ w1.heap.size := Y1.out.size
  have Ew1 : Hid (Ex w w1) := Lib.hid (Ev1.out.chg Y1.out (by omega))
  clear hb1
  have HF1 := Lib.hid hf1; clear hf1
  have WHF1 := Lib.hid HF1.out.row
  go_wp2_with fail
  refine name_calls ?_; intro v2 hv2
  have X2 : Hid (Chg (0) (0) w1 v2) := Lib.hid (by rw [hv2]; repeat' (first | with_reducible exact Chg.refl _ _ _ | with_reducible refine Chg.alloc ?_ _ | with_reducible refine Chg.drew ?_ | with_reducible refine Chg.set ?_ (by omega) _))
  have t2 : w1.heap.size ≤ v2.heap.size := X2.out.size
  have Ev2 : Hid (Ex w v2) := Lib.hid (Ew1.out.chg X2.out (by omega))
  replace HF1 := Lib.hid (HF1.out.chg X2.out WHF1.out (by omega))
  have KC : Hid (Blk v2 (w1.heap.size) 29 [.slice A1 (newOf m).lines.length c1, .int .i64 (newOf m).hand]) := Lib.hid (by rw [hv2]; repeat' (first | with_reducible exact Blk.new_at _ _ _ (by simp) | with_reducible refine Blk.alloc ?_ _ | with_reducible refine Blk.drew ?_ | with_reducible refine Blk.far ?_ (by simp; omega) _))
  have lC : w1.heap.size < v2.heap.size := KC.out.lt
  clear hv2
  refine (C2.out _).mono ?_; rintro r w2 ⟨A2, c2, rfl, hf2, hb2⟩
  have Y2 : Hid (Chg 0 0 v2 w2) := Lib.hid (Chg.of_ex hb2)
  have s2 : v2.heap.size ≤ w2.heap.size := Y2.out.size
  have Ew2 : Hid (Ex w w2) := Lib.hid (Ev2.out.chg Y2.out (by omega))
  clear hb2
  replace KC : Hid (Blk w2 (w1.heap.size) 29 [.slice A1 (newOf m).lines.length c1, .int .i64 (newOf m).hand]) := Lib.hid (KC.out.chg Y2.out (by omega))
  replace HF1 := Lib.hid (HF1.out.chg Y2.out WHF1.out (by omega))
  have HF2 := Lib.hid hf2; clear hf2
  have WHF2 := Lib.hid HF2.out.row
  obtain ⟨qC0, qC1⟩ := KC.out.c2
  have jC := KC.out.lt
  go_wp2_with fail
  refine name_calls ?_; intro v3 hv3
  have X3 : Hid (Chg (0) (0) w2 v3) := Lib.hid (by rw [hv3]; repeat' (first | with_reducible exact Chg.refl _ _ _ | with_reducible refine Chg.alloc ?_ _ | with_reducible refine Chg.drew ?_ | with_reducible refine Chg.set ?_ (by omega) _))
  have t3 : w2.heap.size ≤ v3.heap.size := X3.out.size
  have Ev3 : Hid (Ex w v3) := Lib.hid (Ew2.out.chg X3.out (by omega))
  clear qC0 qC1 jC
  replace KC : Hid (Blk v3 (w1.heap.size) 29 [.slice A1 (newOf m).lines.length c1, .int .i64 (newOf m).hand]) := Lib.hid (KC.out.chg X3.out (by omega))
  replace HF1 := Lib.hid (HF1.out.chg X3.out WHF1.out (by omega))
  replace HF2 := Lib.hid (HF2.out.chg X3.out WHF2.out (by omega))
  have KW : Hid (Blk v3 (w2.heap.size) 29 [.slice A2 (newOf m).lines.length c2, .int .i64 (newOf m).hand]) := Lib.hid (by rw [hv3]; repeat' (first | with_reducible exact Blk.new_at _ _ _ (by simp) | with_reducible refine Blk.alloc ?_ _ | with_reducible refine Blk.drew ?_ | with_reducible refine Blk.far ?_ (by simp; omega) _))
  have lW : w2.heap.size < v3.heap.size := KW.out.lt
  clear hv3
  refine (cacheSameI_c (newOf m) (newOf m) _ _ _ _ _ HF1.out.rd HF2.out.rd hfew hfew).mono ?_; rintro r w3 ⟨rfl, hb3⟩
  have Y3 : Hid (Chg 0 0 v3 w3) := Lib.hid (Chg.of_ex hb3)
  have s3 : v3.heap.size ≤ w3.heap.size := Y3.out.size
  have Ew3 : Hid (Ex w w3) := Lib.hid (Ev3.out.chg Y3.out (by omega))
  clear hb3
  replace KC : Hid (Blk w3 (w1.heap.size) 29 [.slice A1 (newOf m).lines.length c1, .int .i64 (newOf m).hand]) := Lib.hid (KC.out.chg Y3.out (by omega))
  replace KW : Hid (Blk w3 (w2.heap.size) 29 [.slice A2 (newOf m).lines.length c2, .int .i64 (newOf m).hand]) := Lib.hid (KW.out.chg Y3.out (by omega))
  replace HF1 := Lib.hid (HF1.out.chg Y3.out WHF1.out (by omega))
  replace HF2 := Lib.hid (HF2.out.chg Y3.out WHF2.out (by omega))
  obtain ⟨qC0, qC1⟩ := KC.out.c2
  have jC := KC.out.lt
  obtain ⟨qW0, qW1⟩ := KW.out.c2
  have jW := KW.out.lt
  rw [eqB_self]
  clear qW0 qW1 jW
  clear KW
  clear HF2 WHF2
  obtain ⟨gC, hgC⟩ : ∃ gC, gC = w1.heap.size := ⟨_, rfl⟩
  have HST : Hid (FillLoop m gC w (.int .i64 0) w3) := Lib.hid ⟨0, A1, c1, rfl, Nat.zero_le _, Ew3.out, by rw [hgC]; exact KC.out, HF1.out.mono (by omega), fun b hb => by have := WHF1.out b hb; omega⟩
  have hgw : w.heap.size ≤ gC := by omega
  rw [← hgC] at qC0 qC1 jC ⊢
  clear hgC
  go_wp2
  clear qC0 qC1 jC KC HF1 WHF1
  go_loopw [8] (fun i wr => FillLoop m gC w i wr) (fun i _ => 3 * m - (intOf i).toNat)
  case atStart => exact HST.out
  case round =>
    clear HST
    obtain ⟨k, A, c, rfl, hk, hex, hkc, hfc, hrc⟩ := hrel
    have Ewr := Lib.hid hex
    have KC := Lib.hid hkc
    have HFC := Lib.hid hfc
    have WHFC := Lib.hid hfc.row
    have HRC := Lib.hid hrc
    have hnk := fillSt_few m h2 k
    clear hex hkc hfc hrc
    obtain ⟨qC0, qC1⟩ := KC.out.c2
    have jC := KC.out.lt
    have hsz := Ewr.out.size
    have hgCr := KC.out.lt
    by_cases hlt : k < 3 * m
    · have hlt' : (k : Int) < 3 * (m : Int) := by omega
      have hm0 : ¬ (m : Int) = 0 := by omega
      have C4 := Lib.hid (fillLineI_c (fillSt m k) (lineAt k))
      rw [fill_step h1 h2 hlt] at C4
      dsimp only [lineAt] at C4
      have hmm : ((k : Int) % (m : Int) != (k : Int) % (m : Int)) = false := by simp
      go_wp2_with fail
      refine name_calls ?_; intro v4 hv4
      have X4 : Hid (Chg (0) (0) wr v4) := Lib.hid (by rw [hv4]; repeat' (first | with_reducible exact Chg.refl _ _ _ | with_reducible refine Chg.alloc ?_ _ | with_reducible refine Chg.drew ?_ | with_reducible refine Chg.set ?_ (by omega) _))
      have t4 : wr.heap.size ≤ v4.heap.size := X4.out.size
      have Ev4 : Hid (Ex w v4) := Lib.hid (Ewr.out.chg X4.out (by omega))
      clear qC0 qC1 jC
      replace KC : Hid (Blk v4 (gC) 29 [.slice A (fillSt m k).lines.length c, .int .i64 (fillSt m k).hand]) := Lib.hid (KC.out.chg X4.out (by omega))
      replace HFC := Lib.hid (HFC.out.chg X4.out WHFC.out (by omega))
      clear hv4
      refine (C4.out A c _ HFC.out.rd hnk HFC.out.le HFC.out.cap).mono ?_; rintro r w4 ⟨A4, c4, rfl, hf4, hb4⟩
      have Y4 : Hid (Chg 0 0 v4 w4) := Lib.hid (Chg.of_ex hb4)
      have s4 : v4.heap.size ≤ w4.heap.size := Y4.out.size
      have Ew4 : Hid (Ex w w4) := Lib.hid (Ev4.out.chg Y4.out (by omega))
      clear hb4
      replace KC : Hid (Blk w4 (gC) 29 [.slice A (fillSt m k).lines.length c, .int .i64 (fillSt m k).hand]) := Lib.hid (KC.out.chg Y4.out (by omega))
      replace HFC := Lib.hid (HFC.out.chg Y4.out WHFC.out (by omega))
      have HF4 := Lib.hid hf4; clear hf4
      have WHF4 := Lib.hid HF4.out.row
      obtain ⟨qC0, qC1⟩ := KC.out.c2
      have jC := KC.out.lt
      have zC := KC.out.frozen
      have hn4 : ¬ gC = w4.heap.size := by omega
      go_wp2
      go_roundw
      case rel => exact ⟨k + 1, A4, c4, by go_num, by omega, (by repeat' (first | with_reducible exact Ew4.out | with_reducible refine Ex.alloc ?_ _ | with_reducible refine Ex.drew ?_ | with_reducible refine Ex.put ?_ (by omega) _)), by repeat' (first | with_reducible refine Blk.alloc ?_ _ | with_reducible exact Blk.put2 KC.out), Fr.mono (B := v4.heap.size) (by repeat' (first | with_reducible exact HF4.out | with_reducible refine Fr.alloc ?_ _ | with_reducible refine Fr.drew ?_ | with_reducible refine Fr.set_below ?_ (by first | (simp; done) | (simp; omega)) _)) (by omega), fun b hb => by have := WHF4.out b hb; omega⟩
      case measure => simp [intOf]; omega
    · obtain rfl : k = 3 * m := by omega
      have hfh : ((fillSt m (3 * m)).hand == 0) = true := by rw [fill_hand h1 h2]; rfl
      have HST : Hid (∃ k : Nat, k ≤ 3 * m ∧ Value.int .i64 0 = .int .i64 k ∧ Ex w wr ∧ Blk wr gC 29 [.slice A (fillSt m (3 * m)).lines.length c, .int .i64 (fillSt m (3 * m)).hand] ∧ Fr 47 wr w.heap.size A c (fillSt m (3 * m)).lines) := Lib.hid ⟨0, Nat.zero_le _, rfl, Ewr.out, KC.out, HFC.out⟩
      have hge : ¬ ((3 * m : Nat) : Int) < 3 * (m : Int) := by omega
      go_wp2
      have hm1 : (m : Int) * 2 = 2 * (m : Int) := by omega
      clear hm1 qC0 qC1 jC KC HFC WHFC hgCr Ewr
      go_loopw [12] (fun i wi => ∃ k : Nat, k ≤ 3 * m ∧ i = .int .i64 k ∧ Ex w wi ∧ Blk wi gC 29 [.slice A (fillSt m (3 * m)).lines.length c, .int .i64 (fillSt m (3 * m)).hand] ∧ Fr 47 wi w.heap.size A c (fillSt m (3 * m)).lines) (fun i _ => 3 * m - (intOf i).toNat)
      case atStart => exact HST.out
      case round =>
        clear HST
        obtain ⟨k, hk, rfl, hex, hkc, hfc⟩ := hrel
        have Ewr := Lib.hid hex
        have KC := Lib.hid hkc
        have HFC := Lib.hid hfc
        have WHFC := Lib.hid hfc.row
        clear hex hkc hfc
        obtain ⟨qC0, qC1⟩ := KC.out.c2
        have jC := KC.out.lt
        by_cases hlt : k < 3 * m
        · have hlt' : (k : Int) < 3 * (m : Int) := by omega
          have C5 := Lib.hid (findLineI_c (fillSt m (3 * m)) 1 k)
          have hff := fill_find h1 h2 hlt
          generalize findLine (fillSt m (3 * m)) 1 k = q5 at C5 hff
          obtain ⟨at5, ok5⟩ := q5
          dsimp only at C5 hff
          subst hff
          by_cases h2m : 2 * m ≤ k
          · have h2m' : 2 * (m : Int) ≤ (k : Int) := by omega
            rw [decide_eq_true h2m] at C5
            go_wp2_with fail
            refine name_calls ?_; intro v5 hv5
            have X5 : Hid (Chg (0) (0) wr v5) := Lib.hid (by rw [hv5]; repeat' (first | with_reducible exact Chg.refl _ _ _ | with_reducible refine Chg.alloc ?_ _ | with_reducible refine Chg.drew ?_ | with_reducible refine Chg.set ?_ (by omega) _))
            have t5 : wr.heap.size ≤ v5.heap.size := X5.out.size
            have Ev5 : Hid (Ex w v5) := Lib.hid (Ewr.out.chg X5.out (by omega))
            clear qC0 qC1 jC
            replace KC : Hid (Blk v5 (gC) 29 [.slice A (fillSt m (3 * m)).lines.length c, .int .i64 (fillSt m (3 * m)).hand]) := Lib.hid (KC.out.chg X5.out (by omega))
            replace HFC := Lib.hid (HFC.out.chg X5.out WHFC.out (by omega))
            clear hv5
            refine (C5.out A c _ HFC.out.rd hnk HFC.out.le).mono ?_; rintro r w5 ⟨rfl, hb5⟩
            have Y5 : Hid (Chg 0 0 v5 w5) := Lib.hid (Chg.of_ex hb5)
            have s5 : v5.heap.size ≤ w5.heap.size := Y5.out.size
            have Ew5 : Hid (Ex w w5) := Lib.hid (Ev5.out.chg Y5.out (by omega))
            clear hb5
            replace KC : Hid (Blk w5 (gC) 29 [.slice A (fillSt m (3 * m)).lines.length c, .int .i64 (fillSt m (3 * m)).hand]) := Lib.hid (KC.out.chg Y5.out (by omega))
            replace HFC := Lib.hid (HFC.out.chg Y5.out WHFC.out (by omega))
            obtain ⟨qC0, qC1⟩ := KC.out.c2
            have jC := KC.out.lt
            go_wp2
            go_roundw
            case rel => exact ⟨k + 1, by omega, by go_num, Ew5.out, KC.out, HFC.out⟩
            case measure => simp [intOf]; omega
          have h2m' : ¬ 2 * (m : Int) ≤ (k : Int) := by omega
          rw [decide_eq_false h2m] at C5
          go_wp2_with fail
          refine name_calls ?_; intro v5 hv5
          have X5 : Hid (Chg (0) (0) wr v5) := Lib.hid (by rw [hv5]; repeat' (first | with_reducible exact Chg.refl _ _ _ | with_reducible refine Chg.alloc ?_ _ | with_reducible refine Chg.drew ?_ | with_reducible refine Chg.set ?_ (by omega) _))
          have t5 : wr.heap.size ≤ v5.heap.size := X5.out.size
          have Ev5 : Hid (Ex w v5) := Lib.hid (Ewr.out.chg X5.out (by omega))
          clear qC0 qC1 jC
          replace KC : Hid (Blk v5 (gC) 29 [.slice A (fillSt m (3 * m)).lines.length c, .int .i64 (fillSt m (3 * m)).hand]) := Lib.hid (KC.out.chg X5.out (by omega))
          replace HFC := Lib.hid (HFC.out.chg X5.out WHFC.out (by omega))
          clear hv5
          refine (C5.out A c _ HFC.out.rd hnk HFC.out.le).mono ?_; rintro r w5 ⟨rfl, hb5⟩
          have Y5 : Hid (Chg 0 0 v5 w5) := Lib.hid (Chg.of_ex hb5)
          have s5 : v5.heap.size ≤ w5.heap.size := Y5.out.size
          have Ew5 : Hid (Ex w w5) := Lib.hid (Ev5.out.chg Y5.out (by omega))
          clear hb5
          replace KC : Hid (Blk w5 (gC) 29 [.slice A (fillSt m (3 * m)).lines.length c, .int .i64 (fillSt m (3 * m)).hand]) := Lib.hid (KC.out.chg Y5.out (by omega))
          replace HFC := Lib.hid (HFC.out.chg Y5.out WHFC.out (by omega))
          obtain ⟨qC0, qC1⟩ := KC.out.c2
          have jC := KC.out.lt
          go_wp2
          go_roundw
          case rel => exact ⟨k + 1, by omega, by go_num, Ew5.out, KC.out, HFC.out⟩
          case measure => simp [intOf]; omega
        · have hge' : ¬ (k : Int) < 3 * (m : Int) := by omega
          go_wp2
          go_ret
          exact ⟨rfl, Ewr.out⟩
end Go.Proofs.Ytcaaficjcghheaa
