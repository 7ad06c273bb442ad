/- The law FnVictimOf: the walk. -/
import Derived.Test.YtcaaficjcghheaaDd
import Derived.Test.YtcaaficjcghheaaPl
namespace Go.Proofs.Ytcaaficjcghheaa
open Go.ChangeShapes Go.WideShapes Go.ChangeAt Go.RowKit
open Rec (sz cs)
set_option linter.unusedVariables false
set_option maxRecDepth 100000

set_option maxHeartbeats 16000000 in
theorem walk_FnVictimOf (A : Option Addr) (n c : Nat) (bs : List ByteD) (w : World) (hr : Rd w A bs) (hc : Bytes bs ∧ bs.length = n ∧ n ≤ c ∧ c ≤ maxLen) :
    Calls Try.prog 10 #[.slice A n c] w fun r w' => r = .returned (.bool true) ∧ Ex w w' := by
  obtain ⟨hb, rfl, hnc, hcm⟩ := hc
  by_cases hbig : 1048576 < bs.length
  · have hbig' : (1048576 : Int) < (bs.length : Int) := by omega
    unfold maxLen at hcm
    generalize bs.length = n at *
    go_enter Try.func10, Try.ntmps10
    go_wp2
    go_ret
    exact ⟨rfl, Ex.refl _⟩
  have hsm : ¬ (1048576 : Int) < (bs.length : Int) := by omega
  have C0 := Lib.hid (fun w' (h : Ex w w') => drawVictimOf_c A c bs w' (hr.ex h) hb (by omega) hnc hcm)
  have hcm' := hcm
  unfold maxLen at hcm'
  generalize bs.length = n at *
  clear hr hb hcm
  go_enter Try.func10, Try.ntmps10
  go_wp2_with fail
  refine name_calls ?_; intro v0 hv0
  have X0 : Hid (Chg (0) (0) w v0) := Lib.hid (by rw [hv0]; repeat' (first | with_reducible exact Chg.refl _ _ _ | with_reducible refine Chg.alloc ?_ _ | with_reducible refine Chg.drew ?_ | with_reducible refine Chg.set ?_ (by omega) _))
  have t0 : w.heap.size ≤ v0.heap.size := X0.out.size
  have Ev0 : Hid (Ex w v0) := Lib.hid ((Ex.refl w).chg X0.out (by omega))
  clear hv0
  refine (C0.out _ Ev0.out).mono ?_; rintro r w0 ⟨t, A0, c0, rfl, hww, hf0, hb0⟩
  have Y0 : Hid (Chg 0 0 v0 w0) := Lib.hid (Chg.of_ex hb0)
  have s0 : v0.heap.size ≤ w0.heap.size := Y0.out.size
  have Ew0 : Hid (Ex w w0) := Lib.hid (Ev0.out.chg Y0.out (by omega))
  clear hb0
  have HF0 := Lib.hid hf0; clear hf0
  have WHF0 := Lib.hid HF0.out.row
  have hn : t.lines.length ≤ 1048576 := by have := hww.1; omega
  have C1 := Lib.hid (victimI_c t)
  have C2 := Lib.hid (victimS_c t)
  clear hww C0
  cases hv : cacheV t
  · have e : victimOf t = (0, false) := by unfold victimOf; rw [hv]; rfl
    rw [e] at C1 C2
    dsimp only at C1 C2
    clear e
    go_wp2_with fail
    refine name_calls ?_; intro v1 hv1
    have X1 : Hid (Chg (0) (0) w0 v1) := Lib.hid (by rw [hv1]; repeat' (first | with_reducible exact Chg.refl _ _ _ | with_reducible refine Chg.alloc ?_ _ | with_reducible refine Chg.drew ?_ | with_reducible refine Chg.set ?_ (by omega) _))
    have t1 : w0.heap.size ≤ v1.heap.size := X1.out.size
    have Ev1 : Hid (Ex w v1) := Lib.hid (Ew0.out.chg X1.out (by omega))
    replace HF0 := Lib.hid (HF0.out.chg X1.out WHF0.out (by omega))
    have KC : Hid (Blk v1 (w0.heap.size) 29 [.slice A0 t.lines.length c0, .int .i64 t.hand]) := Lib.hid (by rw [hv1]; repeat' (first | with_reducible exact Blk.new_at _ _ _ (by simp) | with_reducible refine Blk.alloc ?_ _ | with_reducible refine Blk.drew ?_ | with_reducible refine Blk.far ?_ (by simp; omega) _))
    have lC : w0.heap.size < v1.heap.size := KC.out.lt
    clear hv1
    refine (C1.out A0 c0 _ HF0.out.rd hn HF0.out.le).mono ?_; rintro r w1 ⟨rfl, hb1⟩
    have Y1 : Hid (Chg 0 0 v1 w1) := Lib.hid (Chg.of_ex hb1)
    have s1 : v1.heap.size ≤ w1.heap.size := Y1.out.size
    have Ew1 : Hid (Ex w w1) := Lib.hid (Ev1.out.chg Y1.out (by omega))
    clear hb1
    replace KC : Hid (Blk w1 (w0.heap.size) 29 [.slice A0 t.lines.length c0, .int .i64 t.hand]) := Lib.hid (KC.out.chg Y1.out (by omega))
    replace HF0 := Lib.hid (HF0.out.chg Y1.out WHF0.out (by omega))
    obtain ⟨qC0, qC1⟩ := KC.out.c2
    have jC := KC.out.lt
    go_wp2_with fail
    refine name_calls ?_; intro v2 hv2
    have X2 : Hid (Chg (0) (0) w1 v2) := Lib.hid (by rw [hv2]; repeat' (first | with_reducible exact Chg.refl _ _ _ | with_reducible refine Chg.alloc ?_ _ | with_reducible refine Chg.drew ?_ | with_reducible refine Chg.set ?_ (by omega) _))
    have t2 : w1.heap.size ≤ v2.heap.size := X2.out.size
    have Ev2 : Hid (Ex w v2) := Lib.hid (Ew1.out.chg X2.out (by omega))
    clear qC0 qC1 jC
    replace KC : Hid (Blk v2 (w0.heap.size) 29 [.slice A0 t.lines.length c0, .int .i64 t.hand]) := Lib.hid (KC.out.chg X2.out (by omega))
    replace HF0 := Lib.hid (HF0.out.chg X2.out WHF0.out (by omega))
    clear hv2
    refine (C2.out A0 c0 _ HF0.out.rd hn HF0.out.le).mono ?_; rintro r w2 ⟨rfl, hb2⟩
    have Y2 : Hid (Chg 0 0 v2 w2) := Lib.hid (Chg.of_ex hb2)
    have s2 : v2.heap.size ≤ w2.heap.size := Y2.out.size
    have Ew2 : Hid (Ex w w2) := Lib.hid (Ev2.out.chg Y2.out (by omega))
    clear hb2
    replace KC : Hid (Blk w2 (w0.heap.size) 29 [.slice A0 t.lines.length c0, .int .i64 t.hand]) := Lib.hid (KC.out.chg Y2.out (by omega))
    replace HF0 := Lib.hid (HF0.out.chg Y2.out WHF0.out (by omega))
    obtain ⟨qC0, qC1⟩ := KC.out.c2
    have jC := KC.out.lt
    go_wp2
    go_ret
    exact ⟨rfl, Ew2.out⟩
  have hcv := (cv_iff t).1 hv
  obtain ⟨v, y, hva, hy, hyw, hcase⟩ := victim_spec hcv
  have e : victimOf t = ((v : Int), true) := by rw [victimOf_eq hcv, hva]
  rw [e] at C1 C2
  dsimp only at C1 C2
  have hvn := getElem?_lt hy
  have HY := Lib.hid hy
  have HYW := Lib.hid hyw
  have HCASE := Lib.hid hcase
  clear e hva hy hyw hcase hcv hv
  have hvv : ((v : Int) != (v : Int)) = false := by simp
  have hv0 : ¬ ((v : Int) < 0) := by omega
  have hv0' : 0 ≤ (v : Int) := by omega
  have hvl : (v : Int) < (t.lines.length : Int) := by omega
  obtain ⟨a1, o1, hA, -, -⟩ := HF0.out.rd (by omega)
  subst hA
  go_wp2_with fail
  refine name_calls ?_; intro v1 hv1
  have X1 : Hid (Chg (0) (0) w0 v1) := Lib.hid (by rw [hv1]; repeat' (first | with_reducible exact Chg.refl _ _ _ | with_reducible refine Chg.alloc ?_ _ | with_reducible refine Chg.drew ?_ | with_reducible refine Chg.set ?_ (by omega) _))
  have t1 : w0.heap.size ≤ v1.heap.size := X1.out.size
  have Ev1 : Hid (Ex w v1) := Lib.hid (Ew0.out.chg X1.out (by omega))
  replace HF0 := Lib.hid (HF0.out.chg X1.out WHF0.out (by omega))
  have KC : Hid (Blk v1 (w0.heap.size) 29 [.slice (some ⟨a1, o1, none⟩) t.lines.length c0, .int .i64 t.hand]) := Lib.hid (by rw [hv1]; repeat' (first | with_reducible exact Blk.new_at _ _ _ (by simp) | with_reducible refine Blk.alloc ?_ _ | with_reducible refine Blk.drew ?_ | with_reducible refine Blk.far ?_ (by simp; omega) _))
  have lC : w0.heap.size < v1.heap.size := KC.out.lt
  clear hv1
  refine (C1.out _ c0 _ HF0.out.rd hn HF0.out.le).mono ?_; rintro r w1 ⟨rfl, hb1⟩
  have Y1 : Hid (Chg 0 0 v1 w1) := Lib.hid (Chg.of_ex hb1)
  have s1 : v1.heap.size ≤ w1.heap.size := Y1.out.size
  have Ew1 : Hid (Ex w w1) := Lib.hid (Ev1.out.chg Y1.out (by omega))
  clear hb1
  replace KC : Hid (Blk w1 (w0.heap.size) 29 [.slice (some ⟨a1, o1, none⟩) t.lines.length c0, .int .i64 t.hand]) := Lib.hid (KC.out.chg Y1.out (by omega))
  replace HF0 := Lib.hid (HF0.out.chg Y1.out WHF0.out (by omega))
  obtain ⟨qC0, qC1⟩ := KC.out.c2
  have jC := KC.out.lt
  go_wp2_with fail
  refine name_calls ?_; intro v2 hv2
  have X2 : Hid (Chg (0) (0) w1 v2) := Lib.hid (by rw [hv2]; repeat' (first | with_reducible exact Chg.refl _ _ _ | with_reducible refine Chg.alloc ?_ _ | with_reducible refine Chg.drew ?_ | with_reducible refine Chg.set ?_ (by omega) _))
  have t2 : w1.heap.size ≤ v2.heap.size := X2.out.size
  have Ev2 : Hid (Ex w v2) := Lib.hid (Ew1.out.chg X2.out (by omega))
  clear qC0 qC1 jC
  replace KC : Hid (Blk v2 (w0.heap.size) 29 [.slice (some ⟨a1, o1, none⟩) t.lines.length c0, .int .i64 t.hand]) := Lib.hid (KC.out.chg X2.out (by omega))
  replace HF0 := Lib.hid (HF0.out.chg X2.out WHF0.out (by omega))
  clear hv2
  refine (C2.out _ c0 _ HF0.out.rd hn HF0.out.le).mono ?_; rintro r w2 ⟨rfl, hb2⟩
  have Y2 : Hid (Chg 0 0 v2 w2) := Lib.hid (Chg.of_ex hb2)
  have s2 : v2.heap.size ≤ w2.heap.size := Y2.out.size
  have Ew2 : Hid (Ex w w2) := Lib.hid (Ev2.out.chg Y2.out (by omega))
  clear hb2
  replace KC : Hid (Blk w2 (w0.heap.size) 29 [.slice (some ⟨a1, o1, none⟩) t.lines.length c0, .int .i64 t.hand]) := Lib.hid (KC.out.chg Y2.out (by omega))
  replace HF0 := Lib.hid (HF0.out.chg Y2.out WHF0.out (by omega))
  obtain ⟨qC0, qC1⟩ := KC.out.c2
  have jC := KC.out.lt
  obtain ⟨y', hb1, hy', g0, g1, g2, g3, g4, g5⟩ := Rd.line_known HF0.out.rd (k := v) hvn
  obtain rfl : y = y' := by have := HY.out; rw [hy'] at this; injection this with this; exact this.symm
  rw [HYW.out] at g5
  clear hy' g1 g2 g3 g4
  go_wp2
  go_loop [8] (fun i => ∃ k : Nat, k ≤ t.lines.length ∧ i = .int .i64 k) (fun i => t.lines.length - (intOf i).toNat)
  case atStart => exact ⟨0, Nat.zero_le _, rfl⟩
  case round =>
    obtain ⟨k, hk, rfl⟩ := hrel
    by_cases hlt : k < t.lines.length
    · obtain ⟨x, hb2, hxk, h0, h1, h2, h3, h4, h5⟩ := Rd.line_known HF0.out.rd (k := k) hlt
      have HXK := Lib.hid hxk
      clear h1 h2 h3 h4 h5 hxk
      cases hxv : x.valid
      · have hyv : y.valid = false ∧ v ≤ k := by
          rcases HCASE.out with ⟨q1, q2⟩ | q
          · refine ⟨q1, ?_⟩
            by_cases hkv : k < v
            · have := q2 k x hkv HXK.out; rw [hxv] at this; cases this
            · omega
          · have := q k x HXK.out; rw [hxv] at this; cases this
        obtain ⟨hyv, hkv⟩ := hyv
        rw [hyv] at g0
        rw [hxv] at h0
        have hkv' : ¬ (k : Int) < (v : Int) := by omega
        clear hyv hxv
        go_wp2
        go_round
        case rel => exact ⟨k + 1, by omega, by go_num⟩
        case measure => simp [intOf]; omega
      · rw [hxv] at h0
        clear hxv
        go_wp2
        go_round
        case rel => exact ⟨k + 1, by omega, by go_num⟩
        case measure => simp [intOf]; omega
    · obtain rfl : k = t.lines.length := by omega
      go_wp2
      go_ret
      exact ⟨rfl, Ew2.out⟩
end Go.Proofs.Ytcaaficjcghheaa
