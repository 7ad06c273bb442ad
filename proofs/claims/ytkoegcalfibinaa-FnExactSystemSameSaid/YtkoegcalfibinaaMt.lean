/- Contracts over whole tables: counting, copying, comparing, marking. -/
import Derived.Test.YtkoegcalfibinaaMi
import Derived.Test.YtkoegcalfibinaaMf
namespace Go.Proofs.Ytkoegcalfibinaa
open Go.ChangeShapes Go.WideShapes Go.ChangeAt Go.RowKit
open Rec (sz cs)
set_option linter.unusedVariables false
set_option maxRecDepth 100000

theorem table_eq (x y : TableD) : x = y ↔ x.buckets = y.buckets ∧ x.frames = y.frames := by
  cases x; cases y; simp

set_option maxHeartbeats 400000 in
theorem szTable_c (t : TableD) (A : Option Addr) (c : Nat) (B : Option Addr) (d : Nat) (l : Int) (w : World) (h0 : 0 ≤ l) (h1 : l ≤ 1048576) (hn : t.buckets.length ≤ maxLen) (hm : t.frames.length ≤ maxLen) :
    Calls Try.prog 21 #[.agg #[.slice A t.buckets.length c, .slice B t.frames.length d], .int .i64 l] w fun r w' => r = .returned (.int .i64 (szI l (t.buckets.length + t.frames.length))) ∧ Ex w w' := by
  obtain ⟨bs, fs⟩ := t
  simp only at hn hm ⊢
  generalize bs.length = n at *
  generalize fs.length = m at *
  by_cases h2 : l < n
  · have e1 := szI_neg h2
    have e2 : szI l (n + m) = -1 := szI_neg (by omega)
    rw [e2]
    have C1 := Lib.hid (fun w => szIntS_c A n c l w h0 h1 hn)
    rw [e1] at C1
    clear e1 e2
    go_enter Try.func21, Try.ntmps21
    go_wp2_with fail
    refine (C1.out _).mono ?_; rintro r wq1 ⟨rfl, rfl⟩
    go_wp2
    go_ret
    exact ⟨rfl, (by repeat' (first | with_reducible exact Ex.refl _ | with_reducible refine Ex.alloc ?_ _ | with_reducible refine Ex.drew ?_ | with_reducible refine Ex.put ?_ (by omega) _))⟩
  have e1 := szI_pos h2
  have h3 : 0 ≤ l - n := by omega
  have h3' : ¬ l - n < 0 := by omega
  have C1 := Lib.hid (fun w => szIntS_c A n c l w h0 h1 hn)
  rw [e1] at C1
  by_cases h4 : l - n < m
  · have e3 := szI_neg h4
    have e2 : szI l (n + m) = -1 := szI_neg (by omega)
    rw [e2]
    have C2 := Lib.hid (fun w => szFrameS_c B m d (l - n) w h3 (by omega) hm)
    rw [e3] at C2
    clear e1 e2 e3
    go_enter Try.func21, Try.ntmps21
    go_wp2_with fail
    refine (C1.out _).mono ?_; rintro r wq1 ⟨rfl, rfl⟩
    go_wp2_with fail
    refine (C2.out _).mono ?_; rintro r wq2 ⟨rfl, rfl⟩
    go_wp2
    go_ret
    exact ⟨rfl, (by repeat' (first | with_reducible exact Ex.refl _ | with_reducible refine Ex.alloc ?_ _ | with_reducible refine Ex.drew ?_ | with_reducible refine Ex.put ?_ (by omega) _))⟩
  have e3 := szI_pos h4
  have e2 : szI l (n + m) = l - n - m := by rw [szI_pos (by omega)]; omega
  rw [e2]
  have C2 := Lib.hid (fun w => szFrameS_c B m d (l - n) w h3 (by omega) hm)
  rw [e3] at C2
  have h5 : ¬ l - n - m < 0 := by omega
  clear e1 e2 e3
  go_enter Try.func21, Try.ntmps21
  go_wp2_with fail
  refine (C1.out _).mono ?_; rintro r wq1 ⟨rfl, rfl⟩
  go_wp2_with fail
  refine (C2.out _).mono ?_; rintro r wq2 ⟨rfl, rfl⟩
  go_wp2
  go_ret
  exact ⟨rfl, (by repeat' (first | with_reducible exact Ex.refl _ | with_reducible refine Ex.alloc ?_ _ | with_reducible refine Ex.drew ?_ | with_reducible refine Ex.put ?_ (by omega) _))⟩

set_option maxHeartbeats 400000 in
theorem toTable_c (t : TableD) (A : Option Addr) (c : Nat) (B : Option Addr) (d : Nat) (w : World) (hx : Rd w A t.buckets) (hy : Rd w B t.frames) (hn : t.buckets.length ≤ 1048576) (hm : t.frames.length ≤ 1048576) :
    Calls Try.prog 25 #[.agg #[.slice A t.buckets.length c, .slice B t.frames.length d]] w
    fun r w' => ∃ A' c' B' d', r = .returned (.agg #[.slice A' t.buckets.length c', .slice B' t.frames.length d']) ∧ Fr 3 w' w.heap.size A' c' t.buckets ∧ Fr 100 w' w.heap.size B' d' t.frames ∧ Ex w w' := by
  have HX := Lib.hid hx
  have HY := Lib.hid hy
  clear hx hy
  go_enter Try.func25, Try.ntmps25
  go_wp2_with fail
  refine name_calls ?_; intro v1 hv1
  have X1 : Hid (Chg (0) (0) w v1) := Lib.hid (by rw [hv1]; repeat' (first | with_reducible exact Chg.refl _ _ _ | with_reducible refine Chg.alloc ?_ _ | with_reducible refine Chg.drew ?_ | with_reducible refine Chg.set ?_ (by omega) _))
  have t1 : w.heap.size ≤ v1.heap.size := X1.out.size
  have Ev1 : Hid (Ex w v1) := Lib.hid ((Ex.refl w).chg X1.out (by omega))
  have KX : Hid (Blk v1 (w.heap.size) 25 [.slice A t.buckets.length c, .slice B t.frames.length d]) := Lib.hid (by rw [hv1]; repeat' (first | with_reducible exact Blk.new_at _ _ _ (by simp) | with_reducible refine Blk.alloc ?_ _ | with_reducible refine Blk.drew ?_ | with_reducible refine Blk.far ?_ (by simp; omega) _))
  have lX : w.heap.size < v1.heap.size := KX.out.lt
  have KR : Hid (Blk v1 (w.heap.size + 1) 33 [.slice none 0 0, .slice none 0 0]) := Lib.hid (by rw [hv1]; exact (Blk.new_at _ _ _ (by simp)).alloc _)
  have lR : w.heap.size + 1 < v1.heap.size := KR.out.lt
  have KO : Hid (Blk v1 (w.heap.size + 1 + 1) 33 [.slice none 0 0, .slice none 0 0]) := Lib.hid (by rw [hv1]; exact Blk.new_at _ _ _ (by simp))
  have lO : w.heap.size + 1 + 1 < v1.heap.size := KO.out.lt
  have DX := Lib.hid (HX.out.ex Ev1.out)
  have DY := Lib.hid (HY.out.ex Ev1.out)
  clear hv1
  refine (toIntS_c A c t.buckets _ DX.out hn).mono ?_; rintro r w1 ⟨A1, c1, rfl, hf1, hb1⟩
  have Y1 : Hid (Chg 0 0 v1 w1) := Lib.hid (Chg.of_ex hb1)
  have s1 : v1.heap.size ≤ w1.heap.size := Y1.out.size
  have Ew1 : Hid (Ex w w1) := Lib.hid (Ev1.out.chg Y1.out (by omega))
  clear hb1
  replace KX : Hid (Blk w1 (w.heap.size) 25 [.slice A t.buckets.length c, .slice B t.frames.length d]) := Lib.hid (KX.out.chg Y1.out (by omega))
  replace KR : Hid (Blk w1 (w.heap.size + 1) 33 [.slice none 0 0, .slice none 0 0]) := Lib.hid (KR.out.chg Y1.out (by omega))
  replace KO : Hid (Blk w1 (w.heap.size + 1 + 1) 33 [.slice none 0 0, .slice none 0 0]) := Lib.hid (KO.out.chg Y1.out (by omega))
  replace DX := Lib.hid (HX.out.ex Ew1.out)
  replace DY := Lib.hid (HY.out.ex Ew1.out)
  have HF1 := Lib.hid hf1; clear hf1
  have WHF1 := Lib.hid HF1.out.row
  obtain ⟨qX0, qX1⟩ := KX.out.c2
  have jX := KX.out.lt
  obtain ⟨qR0, qR1⟩ := KR.out.c2
  have jR := KR.out.lt
  have zR := KR.out.frozen
  obtain ⟨qO0, qO1⟩ := KO.out.c2
  have jO := KO.out.lt
  have zO := KO.out.frozen
  go_wp2_with fail
  refine name_calls ?_; intro v2 hv2
  have X2 : Hid (Chg (w.heap.size + 1 + 1) (w.heap.size + 1 + 1 + 1) w1 v2) := Lib.hid (by rw [hv2]; repeat' (first | with_reducible exact Chg.refl _ _ _ | with_reducible refine Chg.alloc ?_ _ | with_reducible refine Chg.drew ?_ | with_reducible refine Chg.set ?_ (by omega) _))
  have t2 : w1.heap.size ≤ v2.heap.size := X2.out.size
  have Ev2 : Hid (Ex w v2) := Lib.hid (Ew1.out.chg X2.out (by omega))
  clear qX0 qX1 jX
  clear qR0 qR1 jR zR
  clear qO0 qO1 jO zO
  replace KO : Hid (Blk v2 (w.heap.size + 1 + 1) 33 [.slice A1 t.buckets.length c1, .slice none 0 0]) := Lib.hid (by rw [hv2]; exact KO.out.set 0 _)
  replace KX : Hid (Blk v2 (w.heap.size) 25 [.slice A t.buckets.length c, .slice B t.frames.length d]) := Lib.hid (KX.out.chg X2.out (by omega))
  replace KR : Hid (Blk v2 (w.heap.size + 1) 33 [.slice none 0 0, .slice none 0 0]) := Lib.hid (KR.out.chg X2.out (by omega))
  replace HF1 := Lib.hid (HF1.out.chg X2.out WHF1.out (by omega))
  replace DX := Lib.hid (HX.out.ex Ev2.out)
  replace DY := Lib.hid (HY.out.ex Ev2.out)
  clear hv2
  refine (toFrameS_c B d t.frames _ DY.out hm).mono ?_; rintro r w2 ⟨B2, d2, rfl, hf2, hb2⟩
  have Y2 : Hid (Chg 0 0 v2 w2) := Lib.hid (Chg.of_ex hb2)
  have s2 : v2.heap.size ≤ w2.heap.size := Y2.out.size
  have Ew2 : Hid (Ex w w2) := Lib.hid (Ev2.out.chg Y2.out (by omega))
  clear hb2
  replace KX : Hid (Blk w2 (w.heap.size) 25 [.slice A t.buckets.length c, .slice B t.frames.length d]) := Lib.hid (KX.out.chg Y2.out (by omega))
  replace KR : Hid (Blk w2 (w.heap.size + 1) 33 [.slice none 0 0, .slice none 0 0]) := Lib.hid (KR.out.chg Y2.out (by omega))
  replace KO : Hid (Blk w2 (w.heap.size + 1 + 1) 33 [.slice A1 t.buckets.length c1, .slice none 0 0]) := Lib.hid (KO.out.chg Y2.out (by omega))
  replace HF1 := Lib.hid (HF1.out.chg Y2.out WHF1.out (by omega))
  replace DX := Lib.hid (HX.out.ex Ew2.out)
  replace DY := Lib.hid (HY.out.ex Ew2.out)
  have HF2 := Lib.hid hf2; clear hf2
  have WHF2 := Lib.hid HF2.out.row
  obtain ⟨qX0, qX1⟩ := KX.out.c2
  have jX := KX.out.lt
  obtain ⟨qR0, qR1⟩ := KR.out.c2
  have jR := KR.out.lt
  have zR := KR.out.frozen
  obtain ⟨qO0, qO1⟩ := KO.out.c2
  have jO := KO.out.lt
  have zO := KO.out.frozen
  go_wp2
  exact bodyPost_ret (v := .agg #[.slice A1 t.buckets.length c1, .slice B2 t.frames.length d2]) (by first | (simp [results, Try.results25, go_sem, qR0, qR1]; done) | (simp [results, Try.results25, go_sem, qR0, qR1, qO0, qO1, jR, jO]; done)) rfl
    ⟨A1, c1, B2, d2, rfl, Fr.mono (B := v1.heap.size) (by repeat' (first | with_reducible exact HF1.out | with_reducible refine Fr.alloc ?_ _ | with_reducible refine Fr.put ?_ (fun b hb => by have := WHF1.out b hb; omega) _)) (by omega), Fr.mono (B := v2.heap.size) (by repeat' (first | with_reducible exact HF2.out | with_reducible refine Fr.alloc ?_ _ | with_reducible refine Fr.put ?_ (fun b hb => by have := WHF2.out b hb; omega) _)) (by omega), (by repeat' (first | with_reducible exact Ew2.out | with_reducible refine Ex.alloc ?_ _ | with_reducible refine Ex.drew ?_ | with_reducible refine Ex.put ?_ (by omega) _))⟩

set_option maxHeartbeats 400000 in
theorem eqTable_self_c (t : TableD) (A : Option Addr) (c : Nat) (B : Option Addr) (d : Nat) (A' : Option Addr) (c' : Nat) (B' : Option Addr) (d' : Nat) (w : World) (hx : Rd w A t.buckets) (hy : Rd w B t.frames) (hx' : Rd w A' t.buckets) (hy' : Rd w B' t.frames) (hn : t.buckets.length ≤ 1048576) (hm : t.frames.length ≤ 1048576) :
    Calls Try.prog 31 #[.agg #[.slice A t.buckets.length c, .slice B t.frames.length d], .agg #[.slice A' t.buckets.length c', .slice B' t.frames.length d']] w fun r w' => r = .returned (.bool true) ∧ Ex w w' := by
  have HX := Lib.hid hx
  have HY := Lib.hid hy
  have HX2 := Lib.hid hx'
  have HY2 := Lib.hid hy'
  clear hx hy hx' hy'
  go_enter Try.func31, Try.ntmps31
  go_wp2_with fail
  refine name_calls ?_; intro v1 hv1
  have X1 : Hid (Chg (0) (0) w v1) := Lib.hid (by rw [hv1]; repeat' (first | with_reducible exact Chg.refl _ _ _ | with_reducible refine Chg.alloc ?_ _ | with_reducible refine Chg.drew ?_ | with_reducible refine Chg.set ?_ (by omega) _))
  have t1 : w.heap.size ≤ v1.heap.size := X1.out.size
  have Ev1 : Hid (Ex w v1) := Lib.hid ((Ex.refl w).chg X1.out (by omega))
  have KX : Hid (Blk v1 (w.heap.size) 33 [.slice A t.buckets.length c, .slice B t.frames.length d]) := Lib.hid (by rw [hv1]; repeat' (first | with_reducible exact Blk.new_at _ _ _ (by simp) | with_reducible refine Blk.alloc ?_ _ | with_reducible refine Blk.drew ?_ | with_reducible refine Blk.far ?_ (by simp; omega) _))
  have lX : w.heap.size < v1.heap.size := KX.out.lt
  have KY : Hid (Blk v1 (w.heap.size + 1) 33 [.slice A' t.buckets.length c', .slice B' t.frames.length d']) := Lib.hid (by rw [hv1]; repeat' (first | with_reducible exact Blk.new_at _ _ _ (by simp) | with_reducible refine Blk.alloc ?_ _ | with_reducible refine Blk.drew ?_ | with_reducible refine Blk.far ?_ (by simp; omega) _))
  have lY : w.heap.size + 1 < v1.heap.size := KY.out.lt
  have DX := Lib.hid (HX.out.ex Ev1.out)
  have DY := Lib.hid (HY.out.ex Ev1.out)
  have DXX := Lib.hid (HX2.out.ex Ev1.out)
  have DYY := Lib.hid (HY2.out.ex Ev1.out)
  clear hv1
  refine (eqIntS_self_c A A' c c' t.buckets _ DX.out DXX.out hn).mono ?_; rintro r w1 ⟨rfl, hb1⟩
  have Y1 : Hid (Chg 0 0 v1 w1) := Lib.hid (Chg.of_ex hb1)
  have s1 : v1.heap.size ≤ w1.heap.size := Y1.out.size
  have Ew1 : Hid (Ex w w1) := Lib.hid (Ev1.out.chg Y1.out (by omega))
  clear hb1
  replace KX : Hid (Blk w1 (w.heap.size) 33 [.slice A t.buckets.length c, .slice B t.frames.length d]) := Lib.hid (KX.out.chg Y1.out (by omega))
  replace KY : Hid (Blk w1 (w.heap.size + 1) 33 [.slice A' t.buckets.length c', .slice B' t.frames.length d']) := Lib.hid (KY.out.chg Y1.out (by omega))
  replace DX := Lib.hid (HX.out.ex Ew1.out)
  replace DY := Lib.hid (HY.out.ex Ew1.out)
  replace DXX := Lib.hid (HX2.out.ex Ew1.out)
  replace DYY := Lib.hid (HY2.out.ex Ew1.out)
  obtain ⟨qX0, qX1⟩ := KX.out.c2
  have jX := KX.out.lt
  obtain ⟨qY0, qY1⟩ := KY.out.c2
  have jY := KY.out.lt
  go_wp2_with fail
  refine name_calls ?_; intro v2 hv2
  have X2 : Hid (Chg (0) (0) w1 v2) := Lib.hid (by rw [hv2]; repeat' (first | with_reducible exact Chg.refl _ _ _ | with_reducible refine Chg.alloc ?_ _ | with_reducible refine Chg.drew ?_ | with_reducible refine Chg.set ?_ (by omega) _))
  have t2 : w1.heap.size ≤ v2.heap.size := X2.out.size
  have Ev2 : Hid (Ex w v2) := Lib.hid (Ew1.out.chg X2.out (by omega))
  clear qX0 qX1 jX
  clear qY0 qY1 jY
  replace KX : Hid (Blk v2 (w.heap.size) 33 [.slice A t.buckets.length c, .slice B t.frames.length d]) := Lib.hid (KX.out.chg X2.out (by omega))
  replace KY : Hid (Blk v2 (w.heap.size + 1) 33 [.slice A' t.buckets.length c', .slice B' t.frames.length d']) := Lib.hid (KY.out.chg X2.out (by omega))
  replace DX := Lib.hid (HX.out.ex Ev2.out)
  replace DY := Lib.hid (HY.out.ex Ev2.out)
  replace DXX := Lib.hid (HX2.out.ex Ev2.out)
  replace DYY := Lib.hid (HY2.out.ex Ev2.out)
  clear hv2
  refine (eqFrameS_self_c B B' d d' t.frames _ DY.out DYY.out hm).mono ?_; rintro r w2 ⟨rfl, hb2⟩
  have Y2 : Hid (Chg 0 0 v2 w2) := Lib.hid (Chg.of_ex hb2)
  have s2 : v2.heap.size ≤ w2.heap.size := Y2.out.size
  have Ew2 : Hid (Ex w w2) := Lib.hid (Ev2.out.chg Y2.out (by omega))
  clear hb2
  replace KX : Hid (Blk w2 (w.heap.size) 33 [.slice A t.buckets.length c, .slice B t.frames.length d]) := Lib.hid (KX.out.chg Y2.out (by omega))
  replace KY : Hid (Blk w2 (w.heap.size + 1) 33 [.slice A' t.buckets.length c', .slice B' t.frames.length d']) := Lib.hid (KY.out.chg Y2.out (by omega))
  replace DX := Lib.hid (HX.out.ex Ew2.out)
  replace DY := Lib.hid (HY.out.ex Ew2.out)
  replace DXX := Lib.hid (HX2.out.ex Ew2.out)
  replace DYY := Lib.hid (HY2.out.ex Ew2.out)
  obtain ⟨qX0, qX1⟩ := KX.out.c2
  have jX := KX.out.lt
  obtain ⟨qY0, qY1⟩ := KY.out.c2
  have jY := KY.out.lt
  go_wp2
  go_ret
  exact ⟨rfl, Ew2.out⟩

set_option maxHeartbeats 400000 in
theorem tableSameI_c (x y : TableD) (A : Option Addr) (c : Nat) (B : Option Addr) (d : Nat) (A' : Option Addr) (c' : Nat) (B' : Option Addr) (d' : Nat) (w : World) (hx : Rd w A x.buckets) (hy : Rd w B x.frames) (hx' : Rd w A' y.buckets) (hy' : Rd w B' y.frames)
    (hn : x.buckets.length ≤ 1048576) (hm : x.frames.length ≤ 1048576) (hn' : y.buckets.length ≤ 1048576) (hm' : y.frames.length ≤ 1048576) :
    Calls Try.prog 27 #[.agg #[.slice A x.buckets.length c, .slice B x.frames.length d], .agg #[.slice A' y.buckets.length c', .slice B' y.frames.length d']] w fun r w' => r = .returned (.bool (eqB x y)) ∧ Ex w w' := by
  have HX := Lib.hid hx
  have HY := Lib.hid hy
  have HX2 := Lib.hid hx'
  have HY2 := Lib.hid hy'
  clear hx hy hx' hy'
  have C1 := Lib.hid (fun w h1 h2 => equalInt_c A A' c c' x.buckets y.buckets w h1 h2 hn hn')
  have C2 := Lib.hid (fun w h1 h2 => equalFrame_c B B' d d' x.frames y.frames w h1 h2 hm hm')
  cases h1 : eqB x.buckets y.buckets
  · have e : eqB x y = false := by rw [eqB_false, Ne, table_eq]; intro h; rw [eqB_true.2 h.1] at h1; cases h1
    rw [e]
    rw [h1] at C1
    clear e h1
    go_enter Try.func27, Try.ntmps27
    go_wp2_with fail
    refine name_calls ?_; intro v1 hv1
    have X1 : Hid (Chg (0) (0) w v1) := Lib.hid (by rw [hv1]; repeat' (first | with_reducible exact Chg.refl _ _ _ | with_reducible refine Chg.alloc ?_ _ | with_reducible refine Chg.drew ?_ | with_reducible refine Chg.set ?_ (by omega) _))
    have t1 : w.heap.size ≤ v1.heap.size := X1.out.size
    have Ev1 : Hid (Ex w v1) := Lib.hid ((Ex.refl w).chg X1.out (by omega))
    have KX : Hid (Blk v1 (w.heap.size) 33 [.slice A x.buckets.length c, .slice B x.frames.length d]) := Lib.hid (by rw [hv1]; repeat' (first | with_reducible exact Blk.new_at _ _ _ (by simp) | with_reducible refine Blk.alloc ?_ _ | with_reducible refine Blk.drew ?_ | with_reducible refine Blk.far ?_ (by simp; omega) _))
    have lX : w.heap.size < v1.heap.size := KX.out.lt
    have KY : Hid (Blk v1 (w.heap.size + 1) 33 [.slice A' y.buckets.length c', .slice B' y.frames.length d']) := Lib.hid (by rw [hv1]; repeat' (first | with_reducible exact Blk.new_at _ _ _ (by simp) | with_reducible refine Blk.alloc ?_ _ | with_reducible refine Blk.drew ?_ | with_reducible refine Blk.far ?_ (by simp; omega) _))
    have lY : w.heap.size + 1 < v1.heap.size := KY.out.lt
    have DX := Lib.hid (HX.out.ex Ev1.out)
    have DXX := Lib.hid (HX2.out.ex Ev1.out)
    clear hv1
    refine (C1.out _ DX.out DXX.out).mono ?_; rintro r w1 ⟨rfl, hb1⟩
    have Y1 : Hid (Chg 0 0 v1 w1) := Lib.hid (Chg.of_ex hb1)
    have s1 : v1.heap.size ≤ w1.heap.size := Y1.out.size
    have Ew1 : Hid (Ex w w1) := Lib.hid (Ev1.out.chg Y1.out (by omega))
    clear hb1
    replace KX : Hid (Blk w1 (w.heap.size) 33 [.slice A x.buckets.length c, .slice B x.frames.length d]) := Lib.hid (KX.out.chg Y1.out (by omega))
    replace KY : Hid (Blk w1 (w.heap.size + 1) 33 [.slice A' y.buckets.length c', .slice B' y.frames.length d']) := Lib.hid (KY.out.chg Y1.out (by omega))
    replace DX := Lib.hid (HX.out.ex Ew1.out)
    replace DXX := Lib.hid (HX2.out.ex Ew1.out)
    obtain ⟨qX0, qX1⟩ := KX.out.c2
    have jX := KX.out.lt
    obtain ⟨qY0, qY1⟩ := KY.out.c2
    have jY := KY.out.lt
    go_wp2
    go_ret
    exact ⟨rfl, Ew1.out⟩
  · have e : eqB x y = eqB x.frames y.frames := by rw [Bool.eq_iff_iff, eqB_true, eqB_true, table_eq]; exact ⟨fun h => h.2, fun h => ⟨eqB_true.1 h1, h⟩⟩
    rw [e]
    rw [h1] at C1
    clear e h1
    go_enter Try.func27, Try.ntmps27
    go_wp2_with fail
    refine name_calls ?_; intro v1 hv1
    have X1 : Hid (Chg (0) (0) w v1) := Lib.hid (by rw [hv1]; repeat' (first | with_reducible exact Chg.refl _ _ _ | with_reducible refine Chg.alloc ?_ _ | with_reducible refine Chg.drew ?_ | with_reducible refine Chg.set ?_ (by omega) _))
    have t1 : w.heap.size ≤ v1.heap.size := X1.out.size
    have Ev1 : Hid (Ex w v1) := Lib.hid ((Ex.refl w).chg X1.out (by omega))
    have KX : Hid (Blk v1 (w.heap.size) 33 [.slice A x.buckets.length c, .slice B x.frames.length d]) := Lib.hid (by rw [hv1]; repeat' (first | with_reducible exact Blk.new_at _ _ _ (by simp) | with_reducible refine Blk.alloc ?_ _ | with_reducible refine Blk.drew ?_ | with_reducible refine Blk.far ?_ (by simp; omega) _))
    have lX : w.heap.size < v1.heap.size := KX.out.lt
    have KY : Hid (Blk v1 (w.heap.size + 1) 33 [.slice A' y.buckets.length c', .slice B' y.frames.length d']) := Lib.hid (by rw [hv1]; repeat' (first | with_reducible exact Blk.new_at _ _ _ (by simp) | with_reducible refine Blk.alloc ?_ _ | with_reducible refine Blk.drew ?_ | with_reducible refine Blk.far ?_ (by simp; omega) _))
    have lY : w.heap.size + 1 < v1.heap.size := KY.out.lt
    have DX := Lib.hid (HX.out.ex Ev1.out)
    have DXX := Lib.hid (HX2.out.ex Ev1.out)
    have DY := Lib.hid (HY.out.ex Ev1.out)
    have DYY := Lib.hid (HY2.out.ex Ev1.out)
    clear hv1
    refine (C1.out _ DX.out DXX.out).mono ?_; rintro r w1 ⟨rfl, hb1⟩
    have Y1 : Hid (Chg 0 0 v1 w1) := Lib.hid (Chg.of_ex hb1)
    have s1 : v1.heap.size ≤ w1.heap.size := Y1.out.size
    have Ew1 : Hid (Ex w w1) := Lib.hid (Ev1.out.chg Y1.out (by omega))
    clear hb1
    replace KX : Hid (Blk w1 (w.heap.size) 33 [.slice A x.buckets.length c, .slice B x.frames.length d]) := Lib.hid (KX.out.chg Y1.out (by omega))
    replace KY : Hid (Blk w1 (w.heap.size + 1) 33 [.slice A' y.buckets.length c', .slice B' y.frames.length d']) := Lib.hid (KY.out.chg Y1.out (by omega))
    replace DX := Lib.hid (HX.out.ex Ew1.out)
    replace DXX := Lib.hid (HX2.out.ex Ew1.out)
    replace DY := Lib.hid (HY.out.ex Ew1.out)
    replace DYY := Lib.hid (HY2.out.ex Ew1.out)
    obtain ⟨qX0, qX1⟩ := KX.out.c2
    have jX := KX.out.lt
    obtain ⟨qY0, qY1⟩ := KY.out.c2
    have jY := KY.out.lt
    go_wp2_with fail
    refine name_calls ?_; intro v2 hv2
    have X2 : Hid (Chg (0) (0) w1 v2) := Lib.hid (by rw [hv2]; repeat' (first | with_reducible exact Chg.refl _ _ _ | with_reducible refine Chg.alloc ?_ _ | with_reducible refine Chg.drew ?_ | with_reducible refine Chg.set ?_ (by omega) _))
    have t2 : w1.heap.size ≤ v2.heap.size := X2.out.size
    have Ev2 : Hid (Ex w v2) := Lib.hid (Ew1.out.chg X2.out (by omega))
    clear qX0 qX1 jX
    clear qY0 qY1 jY
    replace KX : Hid (Blk v2 (w.heap.size) 33 [.slice A x.buckets.length c, .slice B x.frames.length d]) := Lib.hid (KX.out.chg X2.out (by omega))
    replace KY : Hid (Blk v2 (w.heap.size + 1) 33 [.slice A' y.buckets.length c', .slice B' y.frames.length d']) := Lib.hid (KY.out.chg X2.out (by omega))
    replace DX := Lib.hid (HX.out.ex Ev2.out)
    replace DXX := Lib.hid (HX2.out.ex Ev2.out)
    replace DY := Lib.hid (HY.out.ex Ev2.out)
    replace DYY := Lib.hid (HY2.out.ex Ev2.out)
    clear hv2
    refine (C2.out _ DY.out DYY.out).mono ?_; rintro r w2 ⟨rfl, hb2⟩
    have Y2 : Hid (Chg 0 0 v2 w2) := Lib.hid (Chg.of_ex hb2)
    have s2 : v2.heap.size ≤ w2.heap.size := Y2.out.size
    have Ew2 : Hid (Ex w w2) := Lib.hid (Ev2.out.chg Y2.out (by omega))
    clear hb2
    replace KX : Hid (Blk w2 (w.heap.size) 33 [.slice A x.buckets.length c, .slice B x.frames.length d]) := Lib.hid (KX.out.chg Y2.out (by omega))
    replace KY : Hid (Blk w2 (w.heap.size + 1) 33 [.slice A' y.buckets.length c', .slice B' y.frames.length d']) := Lib.hid (KY.out.chg Y2.out (by omega))
    replace DX := Lib.hid (HX.out.ex Ew2.out)
    replace DXX := Lib.hid (HX2.out.ex Ew2.out)
    replace DY := Lib.hid (HY.out.ex Ew2.out)
    replace DYY := Lib.hid (HY2.out.ex Ew2.out)
    obtain ⟨qX0, qX1⟩ := KX.out.c2
    have jX := KX.out.lt
    obtain ⟨qY0, qY1⟩ := KY.out.c2
    have jY := KY.out.lt
    go_wp2
    go_ret
    exact ⟨rfl, Ew2.out⟩

set_option maxHeartbeats 2000000 in
theorem tableSameS_c (x y : TableD) (A : Option Addr) (c : Nat) (B : Option Addr) (d : Nat) (A' : Option Addr) (c' : Nat) (B' : Option Addr) (d' : Nat) (w : World) (hx : Rd w A x.buckets) (hy : Rd w B x.frames) (hx' : Rd w A' y.buckets) (hy' : Rd w B' y.frames)
    (hn : x.buckets.length ≤ 1048576) (hm : x.frames.length ≤ 1048576) (hn' : y.buckets.length ≤ 1048576) (hm' : y.frames.length ≤ 1048576) :
    Calls Try.prog 23 #[.agg #[.slice A x.buckets.length c, .slice B x.frames.length d], .agg #[.slice A' y.buckets.length c', .slice B' y.frames.length d']] w fun r w' => r = .returned (.bool (eqB x y)) ∧ Ex w w' := by
  have HE := Lib.hid (table_eq x y)
  have HX := Lib.hid hx
  have HY := Lib.hid hy
  have HX2 := Lib.hid hx'
  have HY2 := Lib.hid hy'
  clear hx hy hx' hy'
  cases h1 : ((x.buckets.length : Int) != (y.buckets.length : Int))
  rotate_left
  · go_enter Try.func23, Try.ntmps23
    go_wp2
    go_ret
    exact ⟨ret_bool (by rw [eq_comm, eqB_false, Ne, HE.out]; intro hh; rw [hh.1] at h1; simp at h1), (by repeat' (first | with_reducible exact Ex.refl _ | with_reducible refine Ex.alloc ?_ _ | with_reducible refine Ex.drew ?_ | with_reducible refine Ex.put ?_ (by omega) _))⟩
  cases h2 : ((x.frames.length : Int) != (y.frames.length : Int))
  rotate_left
  · go_enter Try.func23, Try.ntmps23
    go_wp2
    go_ret
    exact ⟨ret_bool (by rw [eq_comm, eqB_false, Ne, HE.out]; intro hh; rw [hh.2] at h2; simp at h2), (by repeat' (first | with_reducible exact Ex.refl _ | with_reducible refine Ex.alloc ?_ _ | with_reducible refine Ex.drew ?_ | with_reducible refine Ex.put ?_ (by omega) _))⟩
  have hl1 : x.buckets.length = y.buckets.length := by simp at h1; omega
  have hl2 : x.frames.length = y.frames.length := by simp at h2; omega
  clear h1 h2
  obtain ⟨n, hn1⟩ : ∃ n, n = x.buckets.length := ⟨_, rfl⟩
  obtain ⟨m, hm1⟩ : ∃ m, m = x.frames.length := ⟨_, rfl⟩
  have h3 : y.buckets.length = n := by omega
  have h4 : y.frames.length = m := by omega
  rw [h3, h4, ← hn1, ← hm1]
  have hn2 : n ≤ 1048576 := by omega
  have hm2 : m ≤ 1048576 := by omega
  have HN1 := Lib.hid hn1
  have HM1 := Lib.hid hm1
  have HN2 := Lib.hid h3.symm
  have HM2 := Lib.hid h4.symm
  clear hn hm hn' hm' hl1 hl2 hn1 hm1 h3 h4
  go_enter Try.func23, Try.ntmps23
  go_wp2
  obtain ⟨w0, hw0⟩ : ∃ w0 : World, w0 = (w.alloc (.cells #[.slice A n c, .slice B m d] 33)).alloc (.cells #[.slice A' n c', .slice B' m d'] 33) := ⟨_, rfl⟩
  obtain ⟨gx, hgx⟩ : ∃ gx : Nat, gx = w.heap.size := ⟨_, rfl⟩
  obtain ⟨gy, hgy⟩ : ∃ gy : Nat, gy = w.heap.size + 1 := ⟨_, rfl⟩
  have KX : Hid (Blk w0 gx 33 [.slice A n c, .slice B m d]) := Lib.hid (by rw [hw0, hgx]; exact (Blk.new w _ _).alloc _)
  have KY : Hid (Blk w0 gy 33 [.slice A' n c', .slice B' m d']) := Lib.hid (by rw [hw0, hgy]; exact Blk.new_at _ _ _ (by simp))
  have E0 : Hid (Ex w w0) := Lib.hid (by rw [hw0]; exact ((Ex.refl w).alloc _).alloc _)
  rw [← hw0, ← hgy, ← hgx]
  clear hw0 hgy hgx
  go_loopw [5] (fun i wr => ∃ k : Nat, k ≤ n ∧ i = .int .i64 k ∧ Ex w0 wr ∧ x.buckets.take k = y.buckets.take k) (fun i _ => n - (intOf i).toNat)
  case atStart => exact ⟨0, Nat.zero_le _, rfl, Ex.refl _, rfl⟩
  case round =>
    obtain ⟨k, hk, rfl, hbel, htk⟩ := hrel
    have HT := Lib.hid htk
    have HBEL := Lib.hid hbel
    obtain ⟨q0, q1⟩ := (KX.out.ex hbel).c2
    obtain ⟨p0, p1⟩ := (KY.out.ex hbel).c2
    have jx := (KX.out.ex hbel).lt
    have jy := (KY.out.ex hbel).lt
    clear htk hbel
    by_cases hlt : k < n
    · obtain ⟨b1, o1, u, rfl, hb1, hxk, h0⟩ := Rd.int ((HX.out.ex E0.out).ex HBEL.out) (k := k) (by have := HN1.out; omega)
      obtain ⟨b2, o2, v, rfl, hb2, hyk, g0⟩ := Rd.int ((HX2.out.ex E0.out).ex HBEL.out) (k := k) (by have := HN2.out; omega)
      have HXK := Lib.hid hxk
      have HYK := Lib.hid hyk
      clear hxk hyk
      by_cases hxy : u = v
      · have hne : (u != v) = false := by simpa using hxy
        have HUV := Lib.hid hxy
        clear hxy
        go_wp2_with fail
        go_quiet (fail)
        go_wp2
        go_roundw
        case rel => exact ⟨k + 1, by omega, by go_num, HBEL.out.drewN _, (take_eq_step HXK.out HYK.out).2 ⟨HT.out, HUV.out⟩⟩
        case measure => simp [intOf]; omega
      · have hne : (u != v) = true := by simpa using hxy
        have HUV := Lib.hid hxy
        clear hxy
        go_wp2_with fail
        go_quiet (fail)
        go_wp2
        go_ret
        exact ⟨ret_bool (by rw [eq_comm, eqB_false, Ne, HE.out]; intro hh; exact ne_of_elem HXK.out HYK.out HUV.out hh.1), (E0.out.trans HBEL.out).drewN _⟩
    · have HB : Hid (x.buckets = y.buckets) := Lib.hid (eq_of_take HN1.out.symm HN2.out.symm (by rw [show n = k from by omega]; exact HT.out))
      clear HT
      have hkn : ¬ (k : Int) < (n : Int) := by omega
      go_wp2
      go_loopw [6] (fun i wr => ∃ k : Nat, k ≤ m ∧ i = .int .i64 k ∧ Ex w0 wr ∧ x.frames.take k = y.frames.take k) (fun i _ => m - (intOf i).toNat)
      case atStart => exact ⟨0, Nat.zero_le _, rfl, HBEL.out, rfl⟩
      case round =>
        obtain ⟨j, hj, rfl, hbel, htk⟩ := hrel
        have HT := Lib.hid htk
        clear HBEL q0 q1 p0 p1 jx jy
        have HBEL := Lib.hid hbel
        obtain ⟨q0, q1⟩ := (KX.out.ex hbel).c2
        obtain ⟨p0, p1⟩ := (KY.out.ex hbel).c2
        have jx := (KX.out.ex hbel).lt
        have jy := (KY.out.ex hbel).lt
        clear htk hbel
        by_cases hlt : j < m
        · obtain ⟨b1, o1, u, rfl, hb1, hxk, h0, h1, h2, h3, h4⟩ := Rd.frame ((HY.out.ex E0.out).ex HBEL.out) (k := j) (by have := HM1.out; omega)
          obtain ⟨b2, o2, v, rfl, hb2, hyk, g0, g1, g2, g3, g4⟩ := Rd.frame ((HY2.out.ex E0.out).ex HBEL.out) (k := j) (by have := HM2.out; omega)
          have HXK := Lib.hid hxk
          have HYK := Lib.hid hyk
          clear hxk hyk
          have hneq := neq_frame u v
          have hgd := guardFrame
          cases hxy : eqB u v
          · have HUV := Lib.hid (eqB_false.1 hxy)
            go_wp2_with fail
            go_quiet (fail)
            clear hneq hgd
            go_wp2
            go_ret
            exact ⟨ret_bool (by rw [eq_comm, eqB_false, Ne, HE.out]; intro hh; exact ne_of_elem HXK.out HYK.out HUV.out hh.2), (E0.out.trans HBEL.out).drewN _⟩
          · have HUV := Lib.hid (eqB_true.1 hxy)
            go_wp2_with fail
            go_quiet (fail)
            clear hneq hgd
            go_wp2
            go_roundw
            case rel => exact ⟨j + 1, by omega, by go_num, HBEL.out.drewN _, (take_eq_step HXK.out HYK.out).2 ⟨HT.out, HUV.out⟩⟩
            case measure => simp [intOf]; omega
        · have hjm : ¬ (j : Int) < (m : Int) := by omega
          go_wp2
          go_ret
          exact ⟨ret_bool (by rw [eq_comm, eqB_true, HE.out]; exact ⟨HB.out, eq_of_take HM1.out.symm HM2.out.symm (by rw [show m = j from by omega]; exact HT.out)⟩), E0.out.trans HBEL.out⟩
end Go.Proofs.Ytkoegcalfibinaa
