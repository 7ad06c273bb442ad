/- Contracts over whole tables: counting, copying, comparing, marking. -/
import Derived.Test.YtihlaecbdlgbiaaDoorMi
import Derived.Test.YtihlaecbdlgbiaaDoorMf
namespace Go.Proofs.YtihlaecbdlgbiaaDoor
open Go.ChangeShapes Go.WideShapes Go.ChangeAt Go.RowKit
open Rec (sz cs)
set_option linter.unusedVariables false
set_option maxRecDepth 100000

theorem table_eq (x y : TableD) : x = y ↔ x.buckets = y.buckets ∧ x.frames = y.frames := by
  cases x; cases y; simp

set_option maxHeartbeats 400000 in
theorem szTable_c (t : TableD) (A : Option Addr) (c : Nat) (B : Option Addr) (d : Nat) (l : Int) (w : World) (h0 : 0 ≤ l) (h1 : l ≤ 1048576) (hn : t.buckets.length ≤ maxLen) (hm : t.frames.length ≤ maxLen) :
    Calls Tryd.prog 18 #[.agg #[.slice A t.buckets.length c, .slice B t.frames.length d], .int .i64 l] w fun r w' => r = .returned (.int .i64 (szI l (t.buckets.length + t.frames.length))) ∧ Ex w w' := by
  obtain ⟨bs, fs⟩ := t
  simp only at hn hm ⊢
  generalize bs.length = n at *
  generalize fs.length = m at *
  by_cases h2 : l < n
  · have e1 := szI_neg h2
    have e2 : szI l (n + m) = -1 := szI_neg (by omega)
    rw [e2]
    have C1 := Lib.hid (fun w => szIntS_c A n c l w h0 h1 hn)
    rw [e1] at C1
    clear e1 e2
    go_enter Tryd.func18, Tryd.ntmps18
    go_wp2_with fail
    refine (C1.out _).mono ?_; rintro r wq1 ⟨rfl, rfl⟩
    go_wp2
    go_ret
    exact ⟨rfl, (by repeat' (first | with_reducible exact Ex.refl _ | with_reducible refine Ex.alloc ?_ _ | with_reducible refine Ex.drew ?_ | with_reducible refine Ex.put ?_ (by omega) _))⟩
  have e1 := szI_pos h2
  have h3 : 0 ≤ l - n := by omega
  have h3' : ¬ l - n < 0 := by omega
  have C1 := Lib.hid (fun w => szIntS_c A n c l w h0 h1 hn)
  rw [e1] at C1
  by_cases h4 : l - n < m
  · have e3 := szI_neg h4
    have e2 : szI l (n + m) = -1 := szI_neg (by omega)
    rw [e2]
    have C2 := Lib.hid (fun w => szFrameS_c B m d (l - n) w h3 (by omega) hm)
    rw [e3] at C2
    clear e1 e2 e3
    go_enter Tryd.func18, Tryd.ntmps18
    go_wp2_with fail
    refine (C1.out _).mono ?_; rintro r wq1 ⟨rfl, rfl⟩
    go_wp2_with fail
    refine (C2.out _).mono ?_; rintro r wq2 ⟨rfl, rfl⟩
    go_wp2
    go_ret
    exact ⟨rfl, (by repeat' (first | with_reducible exact Ex.refl _ | with_reducible refine Ex.alloc ?_ _ | with_reducible refine Ex.drew ?_ | with_reducible refine Ex.put ?_ (by omega) _))⟩
  have e3 := szI_pos h4
  have e2 : szI l (n + m) = l - n - m := by rw [szI_pos (by omega)]; omega
  rw [e2]
  have C2 := Lib.hid (fun w => szFrameS_c B m d (l - n) w h3 (by omega) hm)
  rw [e3] at C2
  have h5 : ¬ l - n - m < 0 := by omega
  clear e1 e2 e3
  go_enter Tryd.func18, Tryd.ntmps18
  go_wp2_with fail
  refine (C1.out _).mono ?_; rintro r wq1 ⟨rfl, rfl⟩
  go_wp2_with fail
  refine (C2.out _).mono ?_; rintro r wq2 ⟨rfl, rfl⟩
  go_wp2
  go_ret
  exact ⟨rfl, (by repeat' (first | with_reducible exact Ex.refl _ | with_reducible refine Ex.alloc ?_ _ | with_reducible refine Ex.drew ?_ | with_reducible refine Ex.put ?_ (by omega) _))⟩

set_option maxHeartbeats 400000 in
theorem toTable_c (t : TableD) (A : Option Addr) (c : Nat) (B : Option Addr) (d : Nat) (w : World) (hx : Rd w A t.buckets) (hy : Rd w B t.frames) (hn : t.buckets.length ≤ 1048576) (hm : t.frames.length ≤ 1048576) :
    Calls Tryd.prog 26 #[.agg #[.slice A t.buckets.length c, .slice B t.frames.length d]] w
    fun r w' => ∃ A' c' B' d', r = .returned (.agg #[.slice A' t.buckets.length c', .slice B' t.frames.length d']) ∧ Fr 3 w' w.heap.size A' c' t.buckets ∧ Fr 72 w' w.heap.size B' d' t.frames ∧ Ex w w' := by
  have HX := Lib.hid hx
  have HY := Lib.hid hy
  clear hx hy
  go_enter Tryd.func26, Tryd.ntmps26
  go_wp2_with fail
  refine name_calls ?_; intro v1 hv1
  have X1 : Hid (Chg (0) (0) w v1) := Lib.hid (by rw [hv1]; repeat' (first | with_reducible exact Chg.refl _ _ _ | with_reducible refine Chg.alloc ?_ _ | with_reducible refine Chg.drew ?_ | with_reducible refine Chg.set ?_ (by omega) _))
  have t1 : w.heap.size ≤ v1.heap.size := X1.out.size
  have Ev1 : Hid (Ex w v1) := Lib.hid ((Ex.refl w).chg X1.out (by omega))
  have KX : Hid (Blk v1 (w.heap.size) 25 [.slice A t.buckets.length c, .slice B t.frames.length d]) := Lib.hid (by rw [hv1]; repeat' (first | with_reducible exact Blk.new_at _ _ _ (by simp) | with_reducible refine Blk.alloc ?_ _ | with_reducible refine Blk.drew ?_ | with_reducible refine Blk.far ?_ (by simp; omega) _))
  have lX : w.heap.size < v1.heap.size := KX.out.lt
  have KR : Hid (Blk v1 (w.heap.size + 1) 38 [.slice none 0 0, .slice none 0 0]) := Lib.hid (by rw [hv1]; exact (Blk.new_at _ _ _ (by simp)).alloc _)
  have lR : w.heap.size + 1 < v1.heap.size := KR.out.lt
  have KO : Hid (Blk v1 (w.heap.size + 1 + 1) 38 [.slice none 0 0, .slice none 0 0]) := Lib.hid (by rw [hv1]; exact Blk.new_at _ _ _ (by simp))
  have lO : w.heap.size + 1 + 1 < v1.heap.size := KO.out.lt
  have DX := Lib.hid (HX.out.ex Ev1.out)
  have DY := Lib.hid (HY.out.ex Ev1.out)
  clear hv1
  refine (toIntS_c A c t.buckets _ DX.out hn).mono ?_; rintro r w1 ⟨A1, c1, rfl, hf1, hb1⟩
  have Y1 : Hid (Chg 0 0 v1 w1) := Lib.hid (Chg.of_ex hb1)
  have s1 : v1.heap.size ≤ w1.heap.size := Y1.out.size
  have Ew1 : Hid (Ex w w1) := Lib.hid (Ev1.out.chg Y1.out (by omega))
  clear hb1
  replace KX : Hid (Blk w1 (w.heap.size) 25 [.slice A t.buckets.length c, .slice B t.frames.length d]) := Lib.hid (KX.out.chg Y1.out (by omega))
  replace KR : Hid (Blk w1 (w.heap.size + 1) 38 [.slice none 0 0, .slice none 0 0]) := Lib.hid (KR.out.chg Y1.out (by omega))
  replace KO : Hid (Blk w1 (w.heap.size + 1 + 1) 38 [.slice none 0 0, .slice none 0 0]) := Lib.hid (KO.out.chg Y1.out (by omega))
  replace DX := Lib.hid (HX.out.ex Ew1.out)
  replace DY := Lib.hid (HY.out.ex Ew1.out)
  have HF1 := Lib.hid hf1; clear hf1
  have WHF1 := Lib.hid HF1.out.row
  obtain ⟨qX0, qX1⟩ := KX.out.c2
  have jX := KX.out.lt
  obtain ⟨qR0, qR1⟩ := KR.out.c2
  have jR := KR.out.lt
  have zR := KR.out.frozen
  obtain ⟨qO0, qO1⟩ := KO.out.c2
  have jO := KO.out.lt
  have zO := KO.out.frozen
  go_wp2_with fail
  refine name_calls ?_; intro v2 hv2
  have X2 : Hid (Chg (w.heap.size + 1 + 1) (w.heap.size + 1 + 1 + 1) w1 v2) := Lib.hid (by rw [hv2]; repeat' (first | with_reducible exact Chg.refl _ _ _ | with_reducible refine Chg.alloc ?_ _ | with_reducible refine Chg.drew ?_ | with_reducible refine Chg.set ?_ (by omega) _))
  have t2 : w1.heap.size ≤ v2.heap.size := X2.out.size
  have Ev2 : Hid (Ex w v2) := Lib.hid (Ew1.out.chg X2.out (by omega))
  clear qX0 qX1 jX
  clear qR0 qR1 jR zR
  clear qO0 qO1 jO zO
  replace KO : Hid (Blk v2 (w.heap.size + 1 + 1) 38 [.slice A1 t.buckets.length c1, .slice none 0 0]) := Lib.hid (by rw [hv2]; exact KO.out.set 0 _)
  replace KX : Hid (Blk v2 (w.heap.size) 25 [.slice A t.buckets.length c, .slice B t.frames.length d]) := Lib.hid (KX.out.chg X2.out (by omega))
  replace KR : Hid (Blk v2 (w.heap.size + 1) 38 [.slice none 0 0, .slice none 0 0]) := Lib.hid (KR.out.chg X2.out (by omega))
  replace HF1 := Lib.hid (HF1.out.chg X2.out WHF1.out (by omega))
  replace DX := Lib.hid (HX.out.ex Ev2.out)
  replace DY := Lib.hid (HY.out.ex Ev2.out)
  clear hv2
  refine (toFrameS_c B d t.frames _ DY.out hm).mono ?_; rintro r w2 ⟨B2, d2, rfl, hf2, hb2⟩
  have Y2 : Hid (Chg 0 0 v2 w2) := Lib.hid (Chg.of_ex hb2)
  have s2 : v2.heap.size ≤ w2.heap.size := Y2.out.size
  have Ew2 : Hid (Ex w w2) := Lib.hid (Ev2.out.chg Y2.out (by omega))
  clear hb2
  replace KX : Hid (Blk w2 (w.heap.size) 25 [.slice A t.buckets.length c, .slice B t.frames.length d]) := Lib.hid (KX.out.chg Y2.out (by omega))
  replace KR : Hid (Blk w2 (w.heap.size + 1) 38 [.slice none 0 0, .slice none 0 0]) := Lib.hid (KR.out.chg Y2.out (by omega))
  replace KO : Hid (Blk w2 (w.heap.size + 1 + 1) 38 [.slice A1 t.buckets.length c1, .slice none 0 0]) := Lib.hid (KO.out.chg Y2.out (by omega))
  replace HF1 := Lib.hid (HF1.out.chg Y2.out WHF1.out (by omega))
  replace DX := Lib.hid (HX.out.ex Ew2.out)
  replace DY := Lib.hid (HY.out.ex Ew2.out)
  have HF2 := Lib.hid hf2; clear hf2
  have WHF2 := Lib.hid HF2.out.row
  obtain ⟨qX0, qX1⟩ := KX.out.c2
  have jX := KX.out.lt
  obtain ⟨qR0, qR1⟩ := KR.out.c2
  have jR := KR.out.lt
  have zR := KR.out.frozen
  obtain ⟨qO0, qO1⟩ := KO.out.c2
  have jO := KO.out.lt
  have zO := KO.out.frozen
  go_wp2
  exact bodyPost_ret (v := .agg #[.slice A1 t.buckets.length c1, .slice B2 t.frames.length d2]) (by first | (simp [results, Tryd.results26, go_sem, qR0, qR1]; done) | (simp [results, Tryd.results26, go_sem, qR0, qR1, qO0, qO1, jR, jO]; done)) rfl
    ⟨A1, c1, B2, d2, rfl, Fr.mono (B := v1.heap.size) (by repeat' (first | with_reducible exact HF1.out | with_reducible refine Fr.alloc ?_ _ | with_reducible refine Fr.put ?_ (fun b hb => by have := WHF1.out b hb; omega) _)) (by omega), Fr.mono (B := v2.heap.size) (by repeat' (first | with_reducible exact HF2.out | with_reducible refine Fr.alloc ?_ _ | with_reducible refine Fr.put ?_ (fun b hb => by have := WHF2.out b hb; omega) _)) (by omega), (by repeat' (first | with_reducible exact Ew2.out | with_reducible refine Ex.alloc ?_ _ | with_reducible refine Ex.drew ?_ | with_reducible refine Ex.put ?_ (by omega) _))⟩

set_option maxHeartbeats 400000 in
theorem eqTable_self_c (t : TableD) (A : Option Addr) (c : Nat) (B : Option Addr) (d : Nat) (A' : Option Addr) (c' : Nat) (B' : Option Addr) (d' : Nat) (w : World) (hx : Rd w A t.buckets) (hy : Rd w B t.frames) (hx' : Rd w A' t.buckets) (hy' : Rd w B' t.frames) (hn : t.buckets.length ≤ 1048576) (hm : t.frames.length ≤ 1048576) :
    Calls Tryd.prog 36 #[.agg #[.slice A t.buckets.length c, .slice B t.frames.length d], .agg #[.slice A' t.buckets.length c', .slice B' t.frames.length d']] w fun r w' => r = .returned (.bool true) ∧ Ex w w' := by
  have HX := Lib.hid hx
  have HY := Lib.hid hy
  have HX2 := Lib.hid hx'
  have HY2 := Lib.hid hy'
  clear hx hy hx' hy'
  go_enter Tryd.func36, Tryd.ntmps36
  go_wp2_with fail
  refine name_calls ?_; intro v1 hv1
  have X1 : Hid (Chg (0) (0) w v1) := Lib.hid (by rw [hv1]; repeat' (first | with_reducible exact Chg.refl _ _ _ | with_reducible refine Chg.alloc ?_ _ | with_reducible refine Chg.drew ?_ | with_reducible refine Chg.set ?_ (by omega) _))
  have t1 : w.heap.size ≤ v1.heap.size := X1.out.size
  have Ev1 : Hid (Ex w v1) := Lib.hid ((Ex.refl w).chg X1.out (by omega))
  have KX : Hid (Blk v1 (w.heap.size) 38 [.slice A t.buckets.length c, .slice B t.frames.length d]) := Lib.hid (by rw [hv1]; repeat' (first | with_reducible exact Blk.new_at _ _ _ (by simp) | with_reducible refine Blk.alloc ?_ _ | with_reducible refine Blk.drew ?_ | with_reducible refine Blk.far ?_ (by simp; omega) _))
  have lX : w.heap.size < v1.heap.size := KX.out.lt
  have KY : Hid (Blk v1 (w.heap.size + 1) 38 [.slice A' t.buckets.length c', .slice B' t.frames.length d']) := Lib.hid (by rw [hv1]; repeat' (first | with_reducible exact Blk.new_at _ _ _ (by simp) | with_reducible refine Blk.alloc ?_ _ | with_reducible refine Blk.drew ?_ | with_reducible refine Blk.far ?_ (by simp; omega) _))
  have lY : w.heap.size + 1 < v1.heap.size := KY.out.lt
  have DX := Lib.hid (HX.out.ex Ev1.out)
  have DY := Lib.hid (HY.out.ex Ev1.out)
  have DXX := Lib.hid (HX2.out.ex Ev1.out)
  have DYY := Lib.hid (HY2.out.ex Ev1.out)
  clear hv1
  refine (eqIntS_self_c A A' c c' t.buckets _ DX.out DXX.out hn).mono ?_; rintro r w1 ⟨rfl, hb1⟩
  have Y1 : Hid (Chg 0 0 v1 w1) := Lib.hid (Chg.of_ex hb1)
  have s1 : v1.heap.size ≤ w1.heap.size := Y1.out.size
  have Ew1 : Hid (Ex w w1) := Lib.hid (Ev1.out.chg Y1.out (by omega))
  clear hb1
  replace KX : Hid (Blk w1 (w.heap.size) 38 [.slice A t.buckets.length c, .slice B t.frames.length d]) := Lib.hid (KX.out.chg Y1.out (by omega))
  replace KY : Hid (Blk w1 (w.heap.size + 1) 38 [.slice A' t.buckets.length c', .slice B' t.frames.length d']) := Lib.hid (KY.out.chg Y1.out (by omega))
  replace DX := Lib.hid (HX.out.ex Ew1.out)
  replace DY := Lib.hid (HY.out.ex Ew1.out)
  replace DXX := Lib.hid (HX2.out.ex Ew1.out)
  replace DYY := Lib.hid (HY2.out.ex Ew1.out)
  obtain ⟨qX0, qX1⟩ := KX.out.c2
  have jX := KX.out.lt
  obtain ⟨qY0, qY1⟩ := KY.out.c2
  have jY := KY.out.lt
  go_wp2_with fail
  refine name_calls ?_; intro v2 hv2
  have X2 : Hid (Chg (0) (0) w1 v2) := Lib.hid (by rw [hv2]; repeat' (first | with_reducible exact Chg.refl _ _ _ | with_reducible refine Chg.alloc ?_ _ | with_reducible refine Chg.drew ?_ | with_reducible refine Chg.set ?_ (by omega) _))
  have t2 : w1.heap.size ≤ v2.heap.size := X2.out.size
  have Ev2 : Hid (Ex w v2) := Lib.hid (Ew1.out.chg X2.out (by omega))
  clear qX0 qX1 jX
  clear qY0 qY1 jY
  replace KX : Hid (Blk v2 (w.heap.size) 38 [.slice A t.buckets.length c, .slice B t.frames.length d]) := Lib.hid (KX.out.chg X2.out (by omega))
  replace KY : Hid (Blk v2 (w.heap.size + 1) 38 [.slice A' t.buckets.length c', .slice B' t.frames.length d']) := Lib.hid (KY.out.chg X2.out (by omega))
  replace DX := Lib.hid (HX.out.ex Ev2.out)
  replace DY := Lib.hid (HY.out.ex Ev2.out)
  replace DXX := Lib.hid (HX2.out.ex Ev2.out)
  replace DYY := Lib.hid (HY2.out.ex Ev2.out)
  clear hv2
  refine (eqFrameS_self_c B B' d d' t.frames _ DY.out DYY.out hm).mono ?_; rintro r w2 ⟨rfl, hb2⟩
  have Y2 : Hid (Chg 0 0 v2 w2) := Lib.hid (Chg.of_ex hb2)
  have s2 : v2.heap.size ≤ w2.heap.size := Y2.out.size
  have Ew2 : Hid (Ex w w2) := Lib.hid (Ev2.out.chg Y2.out (by omega))
  clear hb2
  replace KX : Hid (Blk w2 (w.heap.size) 38 [.slice A t.buckets.length c, .slice B t.frames.length d]) := Lib.hid (KX.out.chg Y2.out (by omega))
  replace KY : Hid (Blk w2 (w.heap.size + 1) 38 [.slice A' t.buckets.length c', .slice B' t.frames.length d']) := Lib.hid (KY.out.chg Y2.out (by omega))
  replace DX := Lib.hid (HX.out.ex Ew2.out)
  replace DY := Lib.hid (HY.out.ex Ew2.out)
  replace DXX := Lib.hid (HX2.out.ex Ew2.out)
  replace DYY := Lib.hid (HY2.out.ex Ew2.out)
  obtain ⟨qX0, qX1⟩ := KX.out.c2
  have jX := KX.out.lt
  obtain ⟨qY0, qY1⟩ := KY.out.c2
  have jY := KY.out.lt
  go_wp2
  go_ret
  exact ⟨rfl, Ew2.out⟩

end Go.Proofs.YtihlaecbdlgbiaaDoor
