/- Contracts over whole systems: counting, copying, comparing. -/
import Derived.Test.YtkoegcalfibinaaYs
import Derived.Test.YtkoegcalfibinaaMt
import Derived.Test.YtkoegcalfibinaaSc
import Derived.Deep.RegionHeld3
namespace Go.Proofs.Ytkoegcalfibinaa
open Go.ChangeShapes Go.WideShapes Go.ChangeAt Go.RowKit
open Rec (sz cs)
set_option linter.unusedVariables false
set_option maxRecDepth 100000

theorem step_call_gu {P : Program} {w : World} {ops : Array Oper} {o : Oper} {a : Act} {K : Act → World → Prop} {Q : Exit → Act → World → Prop} {X : Prop} (hw : Region.wanted o (yielded ops a.tmps) = true) {f : FuncId} (hen : ∀ (args : Array Value) (w : World), (callFunc f args).run P w = .ok (.enter f args) w) (xs : Array Operand) (ts : Array TypeId)
    (ho : o.op = .call { callee := .value (.func f), args := xs, argTypes := ts }) (vs : Array Value) (hv : xs.toList.map a.eval = vs.toList) {R : Ending → World → Prop} (hc : Calls P f vs w R)
    (h : ∀ e w', R e w' → ∃ v, e = .returned v ∧ K (a.put o.dst v) w') : if Region.wanted o (yielded ops a.tmps) = true then Oper.wp P o a w K Q else X := by
  rw [if_pos hw]
  have hv' : xs.map a.eval = vs := Array.ext' (by rw [Array.toList_map]; exact hv)
  have he : (execOp a.eval o).run P w = .ok (.enter f vs) w := by
    rw [← hv']
    simp [execOp, ho, resolve, invoke, Act.eval, go_sem, hen]
  unfold Oper.wp
  rw [he, Oper.upon_enter]
  refine hc.mono fun e w' hr => ?_
  obtain ⟨v, rfl, hk⟩ := h e w' hr
  exact hk

set_option maxHeartbeats 1000000 in
theorem szSystem_c (s : SysD) (a : SA) (l : Int) (w : World) (hx : HasS w s a) (h0 : 0 ≤ l) (h1 : l ≤ 1048576) (hm : LenS s) :
    Calls Try.prog 6 #[.agg #[.slice a.b s.table.buckets.length a.bc, .slice a.f s.table.frames.length a.fc, .slice a.q s.cpus.length a.qc], .int .i64 l] w fun r w' => r = .returned (.int .i64 (szI l (sumS s))) ∧ Ex w w' := by
  have C1 := Lib.hid (fun w => szTable_c s.table a.b a.bc a.f a.fc l w h0 h1 hm.b hm.f)
  have HX := Lib.hid hx
  clear hx
  unfold sumS
  by_cases h2 : l < (s.table.buckets.length + s.table.frames.length : Nat)
  · rw [szI_neg h2] at C1
    rw [szI_neg (by omega)]
    go_enter Try.func6, Try.ntmps6
    go_wp2_with fail
    refine name_calls ?_; intro v1 hv1
    have X1 : Hid (Chg (0) (0) w v1) := Lib.hid (by rw [hv1]; repeat' (first | with_reducible exact Chg.refl _ _ _ | with_reducible refine Chg.alloc ?_ _ | with_reducible refine Chg.drew ?_ | with_reducible refine Chg.set ?_ (by omega) _))
    have t1 : w.heap.size ≤ v1.heap.size := X1.out.size
    have Ev1 : Hid (Ex w v1) := Lib.hid ((Ex.refl w).chg X1.out (by omega))
    have KX : Hid (Blk v1 (w.heap.size) 28 [.slice a.b s.table.buckets.length a.bc, .slice a.f s.table.frames.length a.fc, .slice a.q s.cpus.length a.qc]) := Lib.hid (by rw [hv1]; repeat' (first | with_reducible exact Blk.new_at _ _ _ (by simp) | with_reducible refine Blk.alloc ?_ _ | with_reducible refine Blk.drew ?_ | with_reducible refine Blk.far ?_ (by simp; omega) _))
    have lX : w.heap.size < v1.heap.size := KX.out.lt
    clear hv1
    refine (C1.out _).mono ?_; rintro r w1 ⟨rfl, hb1⟩
    have Y1 : Hid (Chg 0 0 v1 w1) := Lib.hid (Chg.of_ex hb1)
    have s1 : v1.heap.size ≤ w1.heap.size := Y1.out.size
    have Ew1 : Hid (Ex w w1) := Lib.hid (Ev1.out.chg Y1.out (by omega))
    clear hb1
    replace KX : Hid (Blk w1 (w.heap.size) 28 [.slice a.b s.table.buckets.length a.bc, .slice a.f s.table.frames.length a.fc, .slice a.q s.cpus.length a.qc]) := Lib.hid (KX.out.chg Y1.out (by omega))
    obtain ⟨qX0, qX1, qX2⟩ := KX.out.c3
    have jX := KX.out.lt
    go_wp2
    go_ret
    exact ⟨rfl, Ew1.out⟩
  rw [szI_pos h2] at C1
  obtain ⟨l1, hl1⟩ : ∃ l1 : Int, l1 = l - (s.table.buckets.length + s.table.frames.length : Nat) := ⟨_, rfl⟩
  rw [← hl1] at C1
  have h3 : 0 ≤ l1 := by omega
  have h3' : ¬ l1 < 0 := by omega
  have C2 := Lib.hid (fun w h => szCpuS_c a.q a.qc s.cpus l1 w h h3 (by omega) hm.q)
  by_cases h4 : l1 < (sumC s.cpus : Nat)
  · rw [szI_neg h4] at C2
    rw [szI_neg (by omega)]
    clear hl1 h2
    go_enter Try.func6, Try.ntmps6
    go_wp2_with fail
    refine name_calls ?_; intro v1 hv1
    have X1 : Hid (Chg (0) (0) w v1) := Lib.hid (by rw [hv1]; repeat' (first | with_reducible exact Chg.refl _ _ _ | with_reducible refine Chg.alloc ?_ _ | with_reducible refine Chg.drew ?_ | with_reducible refine Chg.set ?_ (by omega) _))
    have t1 : w.heap.size ≤ v1.heap.size := X1.out.size
    have Ev1 : Hid (Ex w v1) := Lib.hid ((Ex.refl w).chg X1.out (by omega))
    have KX : Hid (Blk v1 (w.heap.size) 28 [.slice a.b s.table.buckets.length a.bc, .slice a.f s.table.frames.length a.fc, .slice a.q s.cpus.length a.qc]) := Lib.hid (by rw [hv1]; repeat' (first | with_reducible exact Blk.new_at _ _ _ (by simp) | with_reducible refine Blk.alloc ?_ _ | with_reducible refine Blk.drew ?_ | with_reducible refine Blk.far ?_ (by simp; omega) _))
    have lX : w.heap.size < v1.heap.size := KX.out.lt
    have DX := Lib.hid (HX.out.ex Ev1.out)
    clear hv1
    refine (C1.out _).mono ?_; rintro r w1 ⟨rfl, hb1⟩
    have Y1 : Hid (Chg 0 0 v1 w1) := Lib.hid (Chg.of_ex hb1)
    have s1 : v1.heap.size ≤ w1.heap.size := Y1.out.size
    have Ew1 : Hid (Ex w w1) := Lib.hid (Ev1.out.chg Y1.out (by omega))
    clear hb1
    replace KX : Hid (Blk w1 (w.heap.size) 28 [.slice a.b s.table.buckets.length a.bc, .slice a.f s.table.frames.length a.fc, .slice a.q s.cpus.length a.qc]) := Lib.hid (KX.out.chg Y1.out (by omega))
    replace DX := Lib.hid (HX.out.ex Ew1.out)
    obtain ⟨qX0, qX1, qX2⟩ := KX.out.c3
    have jX := KX.out.lt
    go_wp2_with fail
    refine name_calls ?_; intro v2 hv2
    have X2 : Hid (Chg (0) (0) w1 v2) := Lib.hid (by rw [hv2]; repeat' (first | with_reducible exact Chg.refl _ _ _ | with_reducible refine Chg.alloc ?_ _ | with_reducible refine Chg.drew ?_ | with_reducible refine Chg.set ?_ (by omega) _))
    have t2 : w1.heap.size ≤ v2.heap.size := X2.out.size
    have Ev2 : Hid (Ex w v2) := Lib.hid (Ew1.out.chg X2.out (by omega))
    clear qX0 qX1 qX2 jX
    replace KX : Hid (Blk v2 (w.heap.size) 28 [.slice a.b s.table.buckets.length a.bc, .slice a.f s.table.frames.length a.fc, .slice a.q s.cpus.length a.qc]) := Lib.hid (KX.out.chg X2.out (by omega))
    replace DX := Lib.hid (HX.out.ex Ev2.out)
    clear hv2
    refine (C2.out _ DX.out.q).mono ?_; rintro r w2 ⟨rfl, hb2⟩
    have Y2 : Hid (Chg 0 0 v2 w2) := Lib.hid (Chg.of_ex hb2)
    have s2 : v2.heap.size ≤ w2.heap.size := Y2.out.size
    have Ew2 : Hid (Ex w w2) := Lib.hid (Ev2.out.chg Y2.out (by omega))
    clear hb2
    replace KX : Hid (Blk w2 (w.heap.size) 28 [.slice a.b s.table.buckets.length a.bc, .slice a.f s.table.frames.length a.fc, .slice a.q s.cpus.length a.qc]) := Lib.hid (KX.out.chg Y2.out (by omega))
    replace DX := Lib.hid (HX.out.ex Ew2.out)
    obtain ⟨qX0, qX1, qX2⟩ := KX.out.c3
    have jX := KX.out.lt
    go_wp2
    go_ret
    exact ⟨rfl, Ew2.out⟩
  rw [szI_pos h4] at C2
  obtain ⟨l2, hl2⟩ : ∃ l2 : Int, l2 = l1 - (sumC s.cpus : Nat) := ⟨_, rfl⟩
  rw [← hl2] at C2
  have h5 : ¬ l2 < 0 := by omega
  have HE : Hid (l - (s.table.buckets.length + s.table.frames.length + sumC s.cpus : Nat) = l2) := Lib.hid (by omega)
  rw [szI_pos (by omega)]
  clear hl1 hl2 h2 h4
  go_enter Try.func6, Try.ntmps6
  go_wp2_with fail
  refine name_calls ?_; intro v1 hv1
  have X1 : Hid (Chg (0) (0) w v1) := Lib.hid (by rw [hv1]; repeat' (first | with_reducible exact Chg.refl _ _ _ | with_reducible refine Chg.alloc ?_ _ | with_reducible refine Chg.drew ?_ | with_reducible refine Chg.set ?_ (by omega) _))
  have t1 : w.heap.size ≤ v1.heap.size := X1.out.size
  have Ev1 : Hid (Ex w v1) := Lib.hid ((Ex.refl w).chg X1.out (by omega))
  have KX : Hid (Blk v1 (w.heap.size) 28 [.slice a.b s.table.buckets.length a.bc, .slice a.f s.table.frames.length a.fc, .slice a.q s.cpus.length a.qc]) := Lib.hid (by rw [hv1]; repeat' (first | with_reducible exact Blk.new_at _ _ _ (by simp) | with_reducible refine Blk.alloc ?_ _ | with_reducible refine Blk.drew ?_ | with_reducible refine Blk.far ?_ (by simp; omega) _))
  have lX : w.heap.size < v1.heap.size := KX.out.lt
  have DX := Lib.hid (HX.out.ex Ev1.out)
  clear hv1
  refine (C1.out _).mono ?_; rintro r w1 ⟨rfl, hb1⟩
  have Y1 : Hid (Chg 0 0 v1 w1) := Lib.hid (Chg.of_ex hb1)
  have s1 : v1.heap.size ≤ w1.heap.size := Y1.out.size
  have Ew1 : Hid (Ex w w1) := Lib.hid (Ev1.out.chg Y1.out (by omega))
  clear hb1
  replace KX : Hid (Blk w1 (w.heap.size) 28 [.slice a.b s.table.buckets.length a.bc, .slice a.f s.table.frames.length a.fc, .slice a.q s.cpus.length a.qc]) := Lib.hid (KX.out.chg Y1.out (by omega))
  replace DX := Lib.hid (HX.out.ex Ew1.out)
  obtain ⟨qX0, qX1, qX2⟩ := KX.out.c3
  have jX := KX.out.lt
  go_wp2_with fail
  refine name_calls ?_; intro v2 hv2
  have X2 : Hid (Chg (0) (0) w1 v2) := Lib.hid (by rw [hv2]; repeat' (first | with_reducible exact Chg.refl _ _ _ | with_reducible refine Chg.alloc ?_ _ | with_reducible refine Chg.drew ?_ | with_reducible refine Chg.set ?_ (by omega) _))
  have t2 : w1.heap.size ≤ v2.heap.size := X2.out.size
  have Ev2 : Hid (Ex w v2) := Lib.hid (Ew1.out.chg X2.out (by omega))
  clear qX0 qX1 qX2 jX
  replace KX : Hid (Blk v2 (w.heap.size) 28 [.slice a.b s.table.buckets.length a.bc, .slice a.f s.table.frames.length a.fc, .slice a.q s.cpus.length a.qc]) := Lib.hid (KX.out.chg X2.out (by omega))
  replace DX := Lib.hid (HX.out.ex Ev2.out)
  clear hv2
  refine (C2.out _ DX.out.q).mono ?_; rintro r w2 ⟨rfl, hb2⟩
  have Y2 : Hid (Chg 0 0 v2 w2) := Lib.hid (Chg.of_ex hb2)
  have s2 : v2.heap.size ≤ w2.heap.size := Y2.out.size
  have Ew2 : Hid (Ex w w2) := Lib.hid (Ev2.out.chg Y2.out (by omega))
  clear hb2
  replace KX : Hid (Blk w2 (w.heap.size) 28 [.slice a.b s.table.buckets.length a.bc, .slice a.f s.table.frames.length a.fc, .slice a.q s.cpus.length a.qc]) := Lib.hid (KX.out.chg Y2.out (by omega))
  replace DX := Lib.hid (HX.out.ex Ew2.out)
  obtain ⟨qX0, qX1, qX2⟩ := KX.out.c3
  have jX := KX.out.lt
  go_wp2
  go_ret
  exact ⟨ret_int HE.out.symm, Ew2.out⟩

set_option maxHeartbeats 1000000 in
theorem toSystem_c (s : SysD) (a : SA) (w : World) (hx : HasS w s a) (hf : FewS s) :
    Calls Try.prog 8 #[.agg #[.slice a.b s.table.buckets.length a.bc, .slice a.f s.table.frames.length a.fc, .slice a.q s.cpus.length a.qc]] w
    fun r w' => ∃ a' : SA, r = .returned (.agg #[.slice a'.b s.table.buckets.length a'.bc, .slice a'.f s.table.frames.length a'.fc, .slice a'.q s.cpus.length a'.qc]) ∧ FrS w' w.heap.size s a' ∧ Ex w w' := by
  have HX := Lib.hid hx
  have HF := Lib.hid hf
  clear hx hf
  go_enter Try.func8, Try.ntmps8
  go_wp2_with fail
  refine name_calls ?_; intro v1 hv1
  have X1 : Hid (Chg (0) (0) w v1) := Lib.hid (by rw [hv1]; repeat' (first | with_reducible exact Chg.refl _ _ _ | with_reducible refine Chg.alloc ?_ _ | with_reducible refine Chg.drew ?_ | with_reducible refine Chg.set ?_ (by omega) _))
  have t1 : w.heap.size ≤ v1.heap.size := X1.out.size
  have Ev1 : Hid (Ex w v1) := Lib.hid ((Ex.refl w).chg X1.out (by omega))
  have KX : Hid (Blk v1 (w.heap.size) 28 [.slice a.b s.table.buckets.length a.bc, .slice a.f s.table.frames.length a.fc, .slice a.q s.cpus.length a.qc]) := Lib.hid (by rw [hv1]; repeat' (first | with_reducible exact Blk.new_at _ _ _ (by simp) | with_reducible refine Blk.alloc ?_ _ | with_reducible refine Blk.drew ?_ | with_reducible refine Blk.far ?_ (by simp; omega) _))
  have lX : w.heap.size < v1.heap.size := KX.out.lt
  have KR : Hid (Blk v1 (w.heap.size + 1) 36 [.slice none 0 0, .slice none 0 0, .slice none 0 0]) := Lib.hid (by rw [hv1]; exact (Blk.new_at _ _ _ (by simp)).alloc _)
  have lR : w.heap.size + 1 < v1.heap.size := KR.out.lt
  have KO : Hid (Blk v1 (w.heap.size + 1 + 1) 36 [.slice none 0 0, .slice none 0 0, .slice none 0 0]) := Lib.hid (by rw [hv1]; exact Blk.new_at _ _ _ (by simp))
  have lO : w.heap.size + 1 + 1 < v1.heap.size := KO.out.lt
  have DX := Lib.hid (HX.out.ex Ev1.out)
  clear hv1
  refine (toTable_c s.table a.b a.bc a.f a.fc _ DX.out.b DX.out.f HF.out.b HF.out.f).mono ?_; rintro r w1 ⟨A1, c1, B1, d1, rfl, hf1, hf1b, hb1⟩
  have Y1 : Hid (Chg 0 0 v1 w1) := Lib.hid (Chg.of_ex hb1)
  have s1 : v1.heap.size ≤ w1.heap.size := Y1.out.size
  have Ew1 : Hid (Ex w w1) := Lib.hid (Ev1.out.chg Y1.out (by omega))
  clear hb1
  replace KX : Hid (Blk w1 (w.heap.size) 28 [.slice a.b s.table.buckets.length a.bc, .slice a.f s.table.frames.length a.fc, .slice a.q s.cpus.length a.qc]) := Lib.hid (KX.out.chg Y1.out (by omega))
  replace KR : Hid (Blk w1 (w.heap.size + 1) 36 [.slice none 0 0, .slice none 0 0, .slice none 0 0]) := Lib.hid (KR.out.chg Y1.out (by omega))
  replace KO : Hid (Blk w1 (w.heap.size + 1 + 1) 36 [.slice none 0 0, .slice none 0 0, .slice none 0 0]) := Lib.hid (KO.out.chg Y1.out (by omega))
  replace DX := Lib.hid (HX.out.ex Ew1.out)
  have HF1 := Lib.hid hf1; clear hf1
  have WHF1 := Lib.hid HF1.out.row
  have HF1B := Lib.hid hf1b; clear hf1b
  have WHF1B := Lib.hid HF1B.out.row
  obtain ⟨qX0, qX1, qX2⟩ := KX.out.c3
  have jX := KX.out.lt
  obtain ⟨qR0, qR1, qR2⟩ := KR.out.c3
  have jR := KR.out.lt
  have zR := KR.out.frozen
  obtain ⟨qO0, qO1, qO2⟩ := KO.out.c3
  have jO := KO.out.lt
  have zO := KO.out.frozen
  go_wp2_with fail
  refine name_calls ?_; intro v2 hv2
  have X2 : Hid (Chg (w.heap.size + 1 + 1) (w.heap.size + 1 + 1 + 1) w1 v2) := Lib.hid (by rw [hv2]; repeat' (first | with_reducible exact Chg.refl _ _ _ | with_reducible refine Chg.alloc ?_ _ | with_reducible refine Chg.drew ?_ | with_reducible refine Chg.set ?_ (by omega) _))
  have t2 : w1.heap.size ≤ v2.heap.size := X2.out.size
  have Ev2 : Hid (Ex w v2) := Lib.hid (Ew1.out.chg X2.out (by omega))
  clear qX0 qX1 qX2 jX
  clear qR0 qR1 qR2 jR zR
  clear qO0 qO1 qO2 jO zO
  replace KO : Hid (Blk v2 (w.heap.size + 1 + 1) 36 [.slice A1 s.table.buckets.length c1, .slice B1 s.table.frames.length d1, .slice none 0 0]) := Lib.hid (by rw [hv2]; exact (KO.out.set 0 _).set 1 _)
  replace KX : Hid (Blk v2 (w.heap.size) 28 [.slice a.b s.table.buckets.length a.bc, .slice a.f s.table.frames.length a.fc, .slice a.q s.cpus.length a.qc]) := Lib.hid (KX.out.chg X2.out (by omega))
  replace KR : Hid (Blk v2 (w.heap.size + 1) 36 [.slice none 0 0, .slice none 0 0, .slice none 0 0]) := Lib.hid (KR.out.chg X2.out (by omega))
  replace HF1 := Lib.hid (HF1.out.chg X2.out WHF1.out (by omega))
  replace HF1B := Lib.hid (HF1B.out.chg X2.out WHF1B.out (by omega))
  replace DX := Lib.hid (HX.out.ex Ev2.out)
  clear hv2
  refine (toCpuS_c a.q a.qc s.cpus _ DX.out.q HF.out.q).mono ?_; rintro r w2 ⟨A2, c2, rfl, hhc2, hb2⟩
  have Y2 : Hid (Chg 0 0 v2 w2) := Lib.hid (Chg.of_ex hb2)
  have s2 : v2.heap.size ≤ w2.heap.size := Y2.out.size
  have Ew2 : Hid (Ex w w2) := Lib.hid (Ev2.out.chg Y2.out (by omega))
  clear hb2
  replace KX : Hid (Blk w2 (w.heap.size) 28 [.slice a.b s.table.buckets.length a.bc, .slice a.f s.table.frames.length a.fc, .slice a.q s.cpus.length a.qc]) := Lib.hid (KX.out.chg Y2.out (by omega))
  replace KR : Hid (Blk w2 (w.heap.size + 1) 36 [.slice none 0 0, .slice none 0 0, .slice none 0 0]) := Lib.hid (KR.out.chg Y2.out (by omega))
  replace KO : Hid (Blk w2 (w.heap.size + 1 + 1) 36 [.slice A1 s.table.buckets.length c1, .slice B1 s.table.frames.length d1, .slice none 0 0]) := Lib.hid (KO.out.chg Y2.out (by omega))
  replace HF1 := Lib.hid (HF1.out.chg Y2.out WHF1.out (by omega))
  replace HF1B := Lib.hid (HF1B.out.chg Y2.out WHF1B.out (by omega))
  replace DX := Lib.hid (HX.out.ex Ew2.out)
  have HHC2 := Lib.hid hhc2; clear hhc2
  obtain ⟨qX0, qX1, qX2⟩ := KX.out.c3
  have jX := KX.out.lt
  obtain ⟨qR0, qR1, qR2⟩ := KR.out.c3
  have jR := KR.out.lt
  have zR := KR.out.frozen
  obtain ⟨qO0, qO1, qO2⟩ := KO.out.c3
  have jO := KO.out.lt
  have zO := KO.out.frozen
  go_wp2
  exact bodyPost_ret (v := .agg #[.slice A1 s.table.buckets.length c1, .slice B1 s.table.frames.length d1, .slice A2 s.cpus.length c2]) (by first | (simp [results, Try.results8, go_sem, qR0, qR1]; done) | (simp [results, Try.results8, go_sem, qR0, qR1, qR2]; done)) rfl
    ⟨⟨A1, c1, B1, d1, A2, c2⟩, rfl, ⟨Fr.mono (B := v1.heap.size) (by repeat' (first | with_reducible exact HF1.out | with_reducible refine Fr.alloc ?_ _ | with_reducible refine Fr.put ?_ (fun b hb => by have := WHF1.out b hb; omega) _)) (by omega), Fr.mono (B := v1.heap.size) (by repeat' (first | with_reducible exact HF1B.out | with_reducible refine Fr.alloc ?_ _ | with_reducible refine Fr.put ?_ (fun b hb => by have := WHF1B.out b hb; omega) _)) (by omega), FrC.mono (B := v2.heap.size) (by repeat' (first | with_reducible exact HHC2.out | with_reducible refine FrC.put ?_ (by omega) _)) (by omega)⟩, (by repeat' (first | with_reducible exact Ew2.out | with_reducible refine Ex.alloc ?_ _ | with_reducible refine Ex.drew ?_ | with_reducible refine Ex.put ?_ (by omega) _))⟩

set_option maxHeartbeats 1000000 in
theorem eqSystem_self_c (s : SysD) (a b : SA) (w : World) (hx : HasS w s a) (hy : HasS w s b) (hf : FewS s) :
    Calls Try.prog 10 #[.agg #[.slice a.b s.table.buckets.length a.bc, .slice a.f s.table.frames.length a.fc, .slice a.q s.cpus.length a.qc], .agg #[.slice b.b s.table.buckets.length b.bc, .slice b.f s.table.frames.length b.fc, .slice b.q s.cpus.length b.qc]] w fun r w' => r = .returned (.bool true) ∧ Ex w w' := by
  have HX := Lib.hid hx
  have HY := Lib.hid hy
  have HF := Lib.hid hf
  clear hx hy hf
  go_enter Try.func10, Try.ntmps10
  go_wp2_with fail
  refine name_calls ?_; intro v1 hv1
  have X1 : Hid (Chg (0) (0) w v1) := Lib.hid (by rw [hv1]; repeat' (first | with_reducible exact Chg.refl _ _ _ | with_reducible refine Chg.alloc ?_ _ | with_reducible refine Chg.drew ?_ | with_reducible refine Chg.set ?_ (by omega) _))
  have t1 : w.heap.size ≤ v1.heap.size := X1.out.size
  have Ev1 : Hid (Ex w v1) := Lib.hid ((Ex.refl w).chg X1.out (by omega))
  have KX : Hid (Blk v1 (w.heap.size) 36 [.slice a.b s.table.buckets.length a.bc, .slice a.f s.table.frames.length a.fc, .slice a.q s.cpus.length a.qc]) := Lib.hid (by rw [hv1]; repeat' (first | with_reducible exact Blk.new_at _ _ _ (by simp) | with_reducible refine Blk.alloc ?_ _ | with_reducible refine Blk.drew ?_ | with_reducible refine Blk.far ?_ (by simp; omega) _))
  have lX : w.heap.size < v1.heap.size := KX.out.lt
  have KY : Hid (Blk v1 (w.heap.size + 1) 36 [.slice b.b s.table.buckets.length b.bc, .slice b.f s.table.frames.length b.fc, .slice b.q s.cpus.length b.qc]) := Lib.hid (by rw [hv1]; repeat' (first | with_reducible exact Blk.new_at _ _ _ (by simp) | with_reducible refine Blk.alloc ?_ _ | with_reducible refine Blk.drew ?_ | with_reducible refine Blk.far ?_ (by simp; omega) _))
  have lY : w.heap.size + 1 < v1.heap.size := KY.out.lt
  have DX := Lib.hid (HX.out.ex Ev1.out)
  have DY := Lib.hid (HY.out.ex Ev1.out)
  clear hv1
  refine (eqTable_self_c s.table a.b a.bc a.f a.fc b.b b.bc b.f b.fc _ DX.out.b DX.out.f DY.out.b DY.out.f HF.out.b HF.out.f).mono ?_; rintro r w1 ⟨rfl, hb1⟩
  have Y1 : Hid (Chg 0 0 v1 w1) := Lib.hid (Chg.of_ex hb1)
  have s1 : v1.heap.size ≤ w1.heap.size := Y1.out.size
  have Ew1 : Hid (Ex w w1) := Lib.hid (Ev1.out.chg Y1.out (by omega))
  clear hb1
  replace KX : Hid (Blk w1 (w.heap.size) 36 [.slice a.b s.table.buckets.length a.bc, .slice a.f s.table.frames.length a.fc, .slice a.q s.cpus.length a.qc]) := Lib.hid (KX.out.chg Y1.out (by omega))
  replace KY : Hid (Blk w1 (w.heap.size + 1) 36 [.slice b.b s.table.buckets.length b.bc, .slice b.f s.table.frames.length b.fc, .slice b.q s.cpus.length b.qc]) := Lib.hid (KY.out.chg Y1.out (by omega))
  replace DX := Lib.hid (HX.out.ex Ew1.out)
  replace DY := Lib.hid (HY.out.ex Ew1.out)
  obtain ⟨qX0, qX1, qX2⟩ := KX.out.c3
  have jX := KX.out.lt
  obtain ⟨qY0, qY1, qY2⟩ := KY.out.c3
  have jY := KY.out.lt
  go_wp2_with fail
  refine name_calls ?_; intro v2 hv2
  have X2 : Hid (Chg (0) (0) w1 v2) := Lib.hid (by rw [hv2]; repeat' (first | with_reducible exact Chg.refl _ _ _ | with_reducible refine Chg.alloc ?_ _ | with_reducible refine Chg.drew ?_ | with_reducible refine Chg.set ?_ (by omega) _))
  have t2 : w1.heap.size ≤ v2.heap.size := X2.out.size
  have Ev2 : Hid (Ex w v2) := Lib.hid (Ew1.out.chg X2.out (by omega))
  clear qX0 qX1 qX2 jX
  clear qY0 qY1 qY2 jY
  replace KX : Hid (Blk v2 (w.heap.size) 36 [.slice a.b s.table.buckets.length a.bc, .slice a.f s.table.frames.length a.fc, .slice a.q s.cpus.length a.qc]) := Lib.hid (KX.out.chg X2.out (by omega))
  replace KY : Hid (Blk v2 (w.heap.size + 1) 36 [.slice b.b s.table.buckets.length b.bc, .slice b.f s.table.frames.length b.fc, .slice b.q s.cpus.length b.qc]) := Lib.hid (KY.out.chg X2.out (by omega))
  replace DX := Lib.hid (HX.out.ex Ev2.out)
  replace DY := Lib.hid (HY.out.ex Ev2.out)
  clear hv2
  refine (eqCpuS_self_c a.q b.q a.qc b.qc s.cpus _ DX.out.q DY.out.q HF.out.q).mono ?_; rintro r w2 ⟨rfl, hb2⟩
  have Y2 : Hid (Chg 0 0 v2 w2) := Lib.hid (Chg.of_ex hb2)
  have s2 : v2.heap.size ≤ w2.heap.size := Y2.out.size
  have Ew2 : Hid (Ex w w2) := Lib.hid (Ev2.out.chg Y2.out (by omega))
  clear hb2
  replace KX : Hid (Blk w2 (w.heap.size) 36 [.slice a.b s.table.buckets.length a.bc, .slice a.f s.table.frames.length a.fc, .slice a.q s.cpus.length a.qc]) := Lib.hid (KX.out.chg Y2.out (by omega))
  replace KY : Hid (Blk w2 (w.heap.size + 1) 36 [.slice b.b s.table.buckets.length b.bc, .slice b.f s.table.frames.length b.fc, .slice b.q s.cpus.length b.qc]) := Lib.hid (KY.out.chg Y2.out (by omega))
  replace DX := Lib.hid (HX.out.ex Ew2.out)
  replace DY := Lib.hid (HY.out.ex Ew2.out)
  obtain ⟨qX0, qX1, qX2⟩ := KX.out.c3
  have jX := KX.out.lt
  obtain ⟨qY0, qY1, qY2⟩ := KY.out.c3
  have jY := KY.out.lt
  go_wp2
  go_ret
  exact ⟨rfl, Ew2.out⟩

set_option maxHeartbeats 1000000 in
theorem sysSame1_c (x y : CpuD) (A : Option Addr) (c : Nat) (B : Option Addr) (d : Nat) (A' : Option Addr) (c' : Nat) (B' : Option Addr) (d' : Nat) (w : World) (hx : Rd w A x.notes) (hy : Rd w B x.waits) (hx' : Rd w A' y.notes) (hy' : Rd w B' y.waits) (hn : x.notes.length ≤ 1048576) (hm : x.waits.length ≤ 1048576) (hn' : y.notes.length ≤ 1048576) (hm' : y.waits.length ≤ 1048576) :
    Calls Try.prog 29 #[.agg #[.slice A x.notes.length c, .slice B x.waits.length d], .agg #[.slice A' y.notes.length c', .slice B' y.waits.length d']] w fun r w' => r = .returned (.bool (eqB x y)) ∧ Ex w w' := by
  have HX := Lib.hid hx
  have HY := Lib.hid hy
  have HX2 := Lib.hid hx'
  have HY2 := Lib.hid hy'
  clear hx hy hx' hy'
  have C1 := Lib.hid (fun w h1 h2 => equalNote_c A A' c c' x.notes y.notes w h1 h2 hn hn')
  have C2 := Lib.hid (fun w h1 h2 => equalNote_c B B' d d' x.waits y.waits w h1 h2 hm hm')
  cases h1 : eqB x.notes y.notes
  · have e : eqB x y = false := by rw [eqB_false, Ne, cpu_eq]; intro h; rw [eqB_true.2 h.1] at h1; cases h1
    rw [e]
    rw [h1] at C1
    clear e h1
    go_enter Try.func29, Try.ntmps29
    go_wp2_with fail
    refine name_calls ?_; intro v1 hv1
    have X1 : Hid (Chg (0) (0) w v1) := Lib.hid (by rw [hv1]; repeat' (first | with_reducible exact Chg.refl _ _ _ | with_reducible refine Chg.alloc ?_ _ | with_reducible refine Chg.drew ?_ | with_reducible refine Chg.set ?_ (by omega) _))
    have t1 : w.heap.size ≤ v1.heap.size := X1.out.size
    have Ev1 : Hid (Ex w v1) := Lib.hid ((Ex.refl w).chg X1.out (by omega))
    have KX : Hid (Blk v1 (w.heap.size) 74 [.slice A x.notes.length c, .slice B x.waits.length d]) := Lib.hid (by rw [hv1]; repeat' (first | with_reducible exact Blk.new_at _ _ _ (by simp) | with_reducible refine Blk.alloc ?_ _ | with_reducible refine Blk.drew ?_ | with_reducible refine Blk.far ?_ (by simp; omega) _))
    have lX : w.heap.size < v1.heap.size := KX.out.lt
    have KY : Hid (Blk v1 (w.heap.size + 1) 74 [.slice A' y.notes.length c', .slice B' y.waits.length d']) := Lib.hid (by rw [hv1]; repeat' (first | with_reducible exact Blk.new_at _ _ _ (by simp) | with_reducible refine Blk.alloc ?_ _ | with_reducible refine Blk.drew ?_ | with_reducible refine Blk.far ?_ (by simp; omega) _))
    have lY : w.heap.size + 1 < v1.heap.size := KY.out.lt
    have DX := Lib.hid (HX.out.ex Ev1.out)
    have DXX := Lib.hid (HX2.out.ex Ev1.out)
    clear hv1
    refine (C1.out _ DX.out DXX.out).mono ?_; rintro r w1 ⟨rfl, hb1⟩
    have Y1 : Hid (Chg 0 0 v1 w1) := Lib.hid (Chg.of_ex hb1)
    have s1 : v1.heap.size ≤ w1.heap.size := Y1.out.size
    have Ew1 : Hid (Ex w w1) := Lib.hid (Ev1.out.chg Y1.out (by omega))
    clear hb1
    replace KX : Hid (Blk w1 (w.heap.size) 74 [.slice A x.notes.length c, .slice B x.waits.length d]) := Lib.hid (KX.out.chg Y1.out (by omega))
    replace KY : Hid (Blk w1 (w.heap.size + 1) 74 [.slice A' y.notes.length c', .slice B' y.waits.length d']) := Lib.hid (KY.out.chg Y1.out (by omega))
    replace DX := Lib.hid (HX.out.ex Ew1.out)
    replace DXX := Lib.hid (HX2.out.ex Ew1.out)
    obtain ⟨qX0, qX1⟩ := KX.out.c2
    have jX := KX.out.lt
    obtain ⟨qY0, qY1⟩ := KY.out.c2
    have jY := KY.out.lt
    go_wp2
    go_ret
    exact ⟨rfl, Ew1.out⟩
  · have e : eqB x y = eqB x.waits y.waits := by rw [Bool.eq_iff_iff, eqB_true, eqB_true, cpu_eq]; exact ⟨fun h => h.2, fun h => ⟨eqB_true.1 h1, h⟩⟩
    rw [e]
    rw [h1] at C1
    clear e h1
    go_enter Try.func29, Try.ntmps29
    go_wp2_with fail
    refine name_calls ?_; intro v1 hv1
    have X1 : Hid (Chg (0) (0) w v1) := Lib.hid (by rw [hv1]; repeat' (first | with_reducible exact Chg.refl _ _ _ | with_reducible refine Chg.alloc ?_ _ | with_reducible refine Chg.drew ?_ | with_reducible refine Chg.set ?_ (by omega) _))
    have t1 : w.heap.size ≤ v1.heap.size := X1.out.size
    have Ev1 : Hid (Ex w v1) := Lib.hid ((Ex.refl w).chg X1.out (by omega))
    have KX : Hid (Blk v1 (w.heap.size) 74 [.slice A x.notes.length c, .slice B x.waits.length d]) := Lib.hid (by rw [hv1]; repeat' (first | with_reducible exact Blk.new_at _ _ _ (by simp) | with_reducible refine Blk.alloc ?_ _ | with_reducible refine Blk.drew ?_ | with_reducible refine Blk.far ?_ (by simp; omega) _))
    have lX : w.heap.size < v1.heap.size := KX.out.lt
    have KY : Hid (Blk v1 (w.heap.size + 1) 74 [.slice A' y.notes.length c', .slice B' y.waits.length d']) := Lib.hid (by rw [hv1]; repeat' (first | with_reducible exact Blk.new_at _ _ _ (by simp) | with_reducible refine Blk.alloc ?_ _ | with_reducible refine Blk.drew ?_ | with_reducible refine Blk.far ?_ (by simp; omega) _))
    have lY : w.heap.size + 1 < v1.heap.size := KY.out.lt
    have DX := Lib.hid (HX.out.ex Ev1.out)
    have DXX := Lib.hid (HX2.out.ex Ev1.out)
    have DY := Lib.hid (HY.out.ex Ev1.out)
    have DYY := Lib.hid (HY2.out.ex Ev1.out)
    clear hv1
    refine (C1.out _ DX.out DXX.out).mono ?_; rintro r w1 ⟨rfl, hb1⟩
    have Y1 : Hid (Chg 0 0 v1 w1) := Lib.hid (Chg.of_ex hb1)
    have s1 : v1.heap.size ≤ w1.heap.size := Y1.out.size
    have Ew1 : Hid (Ex w w1) := Lib.hid (Ev1.out.chg Y1.out (by omega))
    clear hb1
    replace KX : Hid (Blk w1 (w.heap.size) 74 [.slice A x.notes.length c, .slice B x.waits.length d]) := Lib.hid (KX.out.chg Y1.out (by omega))
    replace KY : Hid (Blk w1 (w.heap.size + 1) 74 [.slice A' y.notes.length c', .slice B' y.waits.length d']) := Lib.hid (KY.out.chg Y1.out (by omega))
    replace DX := Lib.hid (HX.out.ex Ew1.out)
    replace DXX := Lib.hid (HX2.out.ex Ew1.out)
    replace DY := Lib.hid (HY.out.ex Ew1.out)
    replace DYY := Lib.hid (HY2.out.ex Ew1.out)
    obtain ⟨qX0, qX1⟩ := KX.out.c2
    have jX := KX.out.lt
    obtain ⟨qY0, qY1⟩ := KY.out.c2
    have jY := KY.out.lt
    go_wp2_with fail
    refine name_calls ?_; intro v2 hv2
    have X2 : Hid (Chg (0) (0) w1 v2) := Lib.hid (by rw [hv2]; repeat' (first | with_reducible exact Chg.refl _ _ _ | with_reducible refine Chg.alloc ?_ _ | with_reducible refine Chg.drew ?_ | with_reducible refine Chg.set ?_ (by omega) _))
    have t2 : w1.heap.size ≤ v2.heap.size := X2.out.size
    have Ev2 : Hid (Ex w v2) := Lib.hid (Ew1.out.chg X2.out (by omega))
    clear qX0 qX1 jX
    clear qY0 qY1 jY
    replace KX : Hid (Blk v2 (w.heap.size) 74 [.slice A x.notes.length c, .slice B x.waits.length d]) := Lib.hid (KX.out.chg X2.out (by omega))
    replace KY : Hid (Blk v2 (w.heap.size + 1) 74 [.slice A' y.notes.length c', .slice B' y.waits.length d']) := Lib.hid (KY.out.chg X2.out (by omega))
    replace DX := Lib.hid (HX.out.ex Ev2.out)
    replace DXX := Lib.hid (HX2.out.ex Ev2.out)
    replace DY := Lib.hid (HY.out.ex Ev2.out)
    replace DYY := Lib.hid (HY2.out.ex Ev2.out)
    clear hv2
    refine (C2.out _ DY.out DYY.out).mono ?_; rintro r w2 ⟨rfl, hb2⟩
    have Y2 : Hid (Chg 0 0 v2 w2) := Lib.hid (Chg.of_ex hb2)
    have s2 : v2.heap.size ≤ w2.heap.size := Y2.out.size
    have Ew2 : Hid (Ex w w2) := Lib.hid (Ev2.out.chg Y2.out (by omega))
    clear hb2
    replace KX : Hid (Blk w2 (w.heap.size) 74 [.slice A x.notes.length c, .slice B x.waits.length d]) := Lib.hid (KX.out.chg Y2.out (by omega))
    replace KY : Hid (Blk w2 (w.heap.size + 1) 74 [.slice A' y.notes.length c', .slice B' y.waits.length d']) := Lib.hid (KY.out.chg Y2.out (by omega))
    replace DX := Lib.hid (HX.out.ex Ew2.out)
    replace DXX := Lib.hid (HX2.out.ex Ew2.out)
    replace DY := Lib.hid (HY.out.ex Ew2.out)
    replace DYY := Lib.hid (HY2.out.ex Ew2.out)
    obtain ⟨qX0, qX1⟩ := KX.out.c2
    have jX := KX.out.lt
    obtain ⟨qY0, qY1⟩ := KY.out.c2
    have jY := KY.out.lt
    go_wp2
    go_ret
    exact ⟨rfl, Ew2.out⟩

set_option maxHeartbeats 2000000 in
theorem equalFunc_c (A B : Option Addr) (c d : Nat) (xs ys : List CpuD) (w : World) (hx : HasC w A xs) (hy : HasC w B ys) (hl : FewC xs) (hm : FewC ys) :
   Calls Try.prog 28 #[.slice A xs.length c, .slice B ys.length d, .func (.func 29) #[] #[]] w
   fun r w' => r = .returned (.bool (eqB xs ys)) ∧ Ex w w' := by
  have hn1 := hl.n
  have hm1 := hm.n
  have HLX := Lib.hid hl.e
  have HLY := Lib.hid hm.e
  clear hl hm
  by_cases hl : xs.length = ys.length
  rotate_left
  · have hne : ((xs.length : Int) != (ys.length : Int)) = true := by simp; omega
    go_enter Try.func28, Try.ntmps28
    go_wp2
    go_ret
    exact ⟨ret_bool (by rw [eq_comm, eqB_false]; intro h; exact hl (by rw [h])), Ex.refl _⟩
  obtain ⟨n, hn2⟩ : ∃ n, n = xs.length := ⟨_, rfl⟩
  obtain ⟨m, hm2⟩ : ∃ m, m = ys.length := ⟨_, rfl⟩
  rw [← hn2, ← hm2]
  obtain rfl : n = m := by omega
  have hn' : n ≤ 1048576 := by omega
  have HX := Lib.hid hn2
  have HY := Lib.hid hm2
  have H1 := Lib.hid hx
  have H2 := Lib.hid hy
  clear hn1 hm1 hn2 hm2 hx hy hl
  go_enter Try.func28, Try.ntmps28
  go_wp2
  go_loopw [17] (fun i wr => ∃ k : Nat, k ≤ n ∧ i = .int .i64 k ∧ Ex w wr ∧ xs.take k = ys.take k) (fun i _ => n - (intOf i).toNat)
  case atStart => exact ⟨0, Nat.zero_le _, rfl, Ex.refl _, rfl⟩
  case round =>
    obtain ⟨k, hk, rfl, hbel, htk⟩ := hrel
    have HT := Lib.hid htk
    have HB := Lib.hid hbel
    clear htk hbel
    by_cases hlt : k < n
    · obtain ⟨b1, o1, x, nA, nc, wA, wc, rfl, hb1, hxk, g0, g1, hr1, hr2⟩ := (H1.out.ex HB.out).at_ (k := k) (by have := HX.out; omega)
      obtain ⟨b2, o2, y, nA', nc', wA', wc', rfl, hb2, hyk, g2, g3, hr3, hr4⟩ := (H2.out.ex HB.out).at_ (k := k) (by have := HY.out; omega)
      have HR1 := Lib.hid hr1
      have HR2 := Lib.hid hr2
      have HR3 := Lib.hid hr3
      have HR4 := Lib.hid hr4
      have HX1 := Lib.hid (HLX.out k x hxk)
      have HY1 := Lib.hid (HLY.out k y hyk)
      have HXK := Lib.hid hxk
      have HYK := Lib.hid hyk
      clear hxk hyk hr1 hr2 hr3 hr4
      go_wp2_with fail
      refine (sysSame1_c x y nA nc wA wc nA' nc' wA' wc' _ ((HR1.out.alloc _).alloc _) ((HR2.out.alloc _).alloc _) ((HR3.out.alloc _).alloc _) ((HR4.out.alloc _).alloc _) HX1.out.1 HX1.out.2 HY1.out.1 HY1.out.2).mono ?_
      rintro r w2 ⟨rfl, hb⟩
      have HB2 : Hid (Ex wr w2) := Lib.hid ((((Ex.refl wr).alloc _).alloc _).trans hb)
      clear hb g0 g1 g2 g3
      cases hxy : eqB x y
      · have hne : x ≠ y := eqB_false.1 hxy
        go_wp2
        go_ret
        exact ⟨ret_bool (by rw [eq_comm, eqB_false]; exact ne_of_elem HXK.out HYK.out hne), HB.out.trans HB2.out⟩
      · have HE := Lib.hid (eqB_true.1 hxy)
        go_wp2
        go_roundw
        case rel => exact ⟨k + 1, by omega, by go_num, HB.out.trans HB2.out, (take_eq_step HXK.out HYK.out).2 ⟨HT.out, HE.out⟩⟩
        case measure => simp [intOf]; omega
    · go_wp2
      go_ret
      exact ⟨ret_bool (by rw [eq_comm, eqB_true]; exact eq_of_take HX.out.symm HY.out.symm (by rw [show n = k from by omega]; exact HT.out)), HB.out⟩

set_option maxHeartbeats 1000000 in
theorem sysSameI_c (x y : SysD) (a b : SA) (w : World) (hx : HasS w x a) (hy : HasS w y b) (hf : FewS x) (hg : FewS y) :
    Calls Try.prog 9 #[.agg #[.slice a.b x.table.buckets.length a.bc, .slice a.f x.table.frames.length a.fc, .slice a.q x.cpus.length a.qc], .agg #[.slice b.b y.table.buckets.length b.bc, .slice b.f y.table.frames.length b.fc, .slice b.q y.cpus.length b.qc]] w fun r w' => r = .returned (.bool (eqB x y)) ∧ Ex w w' := by
  have C1 := Lib.hid (fun w (h1 : HasS w x a) (h2 : HasS w y b) => tableSameI_c x.table y.table a.b a.bc a.f a.fc b.b b.bc b.f b.fc w h1.b h1.f h2.b h2.f hf.b hf.f hg.b hg.f)
  have C2 := Lib.hid (fun w (h1 : HasS w x a) (h2 : HasS w y b) => equalFunc_c a.q b.q a.qc b.qc x.cpus y.cpus w h1.q h2.q hf.q hg.q)
  have HX := Lib.hid hx
  have HY := Lib.hid hy
  have HE := Lib.hid (sys_eq x y)
  have hmf : ∀ (fn : Fn) (first cap : Array Value) (w : World), (Instr.makeFunc fn first cap).run Try.prog w = .ok (.func fn first cap) w := fun _ _ _ _ => rfl
  clear hx hy hf hg
  cases h1 : eqB x.table y.table
  · rw [h1] at C1
    have e : eqB x y = false := by rw [eqB_false, Ne, HE.out]; intro h; exact eqB_false.1 h1 h.1
    rw [e]
    clear e h1
    go_enter Try.func9, Try.ntmps9
    go_wp2_with fail
    refine name_calls ?_; intro v1 hv1
    have X1 : Hid (Chg (0) (0) w v1) := Lib.hid (by rw [hv1]; repeat' (first | with_reducible exact Chg.refl _ _ _ | with_reducible refine Chg.alloc ?_ _ | with_reducible refine Chg.drew ?_ | with_reducible refine Chg.set ?_ (by omega) _))
    have t1 : w.heap.size ≤ v1.heap.size := X1.out.size
    have Ev1 : Hid (Ex w v1) := Lib.hid ((Ex.refl w).chg X1.out (by omega))
    have KX : Hid (Blk v1 (w.heap.size) 36 [.slice a.b x.table.buckets.length a.bc, .slice a.f x.table.frames.length a.fc, .slice a.q x.cpus.length a.qc]) := Lib.hid (by rw [hv1]; repeat' (first | with_reducible exact Blk.new_at _ _ _ (by simp) | with_reducible refine Blk.alloc ?_ _ | with_reducible refine Blk.drew ?_ | with_reducible refine Blk.far ?_ (by simp; omega) _))
    have lX : w.heap.size < v1.heap.size := KX.out.lt
    have KY : Hid (Blk v1 (w.heap.size + 1) 36 [.slice b.b y.table.buckets.length b.bc, .slice b.f y.table.frames.length b.fc, .slice b.q y.cpus.length b.qc]) := Lib.hid (by rw [hv1]; repeat' (first | with_reducible exact Blk.new_at _ _ _ (by simp) | with_reducible refine Blk.alloc ?_ _ | with_reducible refine Blk.drew ?_ | with_reducible refine Blk.far ?_ (by simp; omega) _))
    have lY : w.heap.size + 1 < v1.heap.size := KY.out.lt
    have DX := Lib.hid (HX.out.ex Ev1.out)
    have DY := Lib.hid (HY.out.ex Ev1.out)
    clear hv1
    refine (C1.out _ DX.out DY.out).mono ?_; rintro r w1 ⟨rfl, hb1⟩
    have Y1 : Hid (Chg 0 0 v1 w1) := Lib.hid (Chg.of_ex hb1)
    have s1 : v1.heap.size ≤ w1.heap.size := Y1.out.size
    have Ew1 : Hid (Ex w w1) := Lib.hid (Ev1.out.chg Y1.out (by omega))
    clear hb1
    replace KX : Hid (Blk w1 (w.heap.size) 36 [.slice a.b x.table.buckets.length a.bc, .slice a.f x.table.frames.length a.fc, .slice a.q x.cpus.length a.qc]) := Lib.hid (KX.out.chg Y1.out (by omega))
    replace KY : Hid (Blk w1 (w.heap.size + 1) 36 [.slice b.b y.table.buckets.length b.bc, .slice b.f y.table.frames.length b.fc, .slice b.q y.cpus.length b.qc]) := Lib.hid (KY.out.chg Y1.out (by omega))
    replace DX := Lib.hid (HX.out.ex Ew1.out)
    replace DY := Lib.hid (HY.out.ex Ew1.out)
    obtain ⟨qX0, qX1, qX2⟩ := KX.out.c3
    have jX := KX.out.lt
    obtain ⟨qY0, qY1, qY2⟩ := KY.out.c3
    have jY := KY.out.lt
    go_wp2
    go_ret
    exact ⟨rfl, Ew1.out⟩
  rw [h1] at C1
  have e : eqB x y = eqB x.cpus y.cpus := by rw [Bool.eq_iff_iff, eqB_true, eqB_true, HE.out]; exact ⟨fun h => h.2, fun h => ⟨eqB_true.1 h1, h⟩⟩
  rw [e]
  clear e h1
  go_enter Try.func9, Try.ntmps9
  go_wp2_with fail
  refine name_calls ?_; intro v1 hv1
  have X1 : Hid (Chg (0) (0) w v1) := Lib.hid (by rw [hv1]; repeat' (first | with_reducible exact Chg.refl _ _ _ | with_reducible refine Chg.alloc ?_ _ | with_reducible refine Chg.drew ?_ | with_reducible refine Chg.set ?_ (by omega) _))
  have t1 : w.heap.size ≤ v1.heap.size := X1.out.size
  have Ev1 : Hid (Ex w v1) := Lib.hid ((Ex.refl w).chg X1.out (by omega))
  have KX : Hid (Blk v1 (w.heap.size) 36 [.slice a.b x.table.buckets.length a.bc, .slice a.f x.table.frames.length a.fc, .slice a.q x.cpus.length a.qc]) := Lib.hid (by rw [hv1]; repeat' (first | with_reducible exact Blk.new_at _ _ _ (by simp) | with_reducible refine Blk.alloc ?_ _ | with_reducible refine Blk.drew ?_ | with_reducible refine Blk.far ?_ (by simp; omega) _))
  have lX : w.heap.size < v1.heap.size := KX.out.lt
  have KY : Hid (Blk v1 (w.heap.size + 1) 36 [.slice b.b y.table.buckets.length b.bc, .slice b.f y.table.frames.length b.fc, .slice b.q y.cpus.length b.qc]) := Lib.hid (by rw [hv1]; repeat' (first | with_reducible exact Blk.new_at _ _ _ (by simp) | with_reducible refine Blk.alloc ?_ _ | with_reducible refine Blk.drew ?_ | with_reducible refine Blk.far ?_ (by simp; omega) _))
  have lY : w.heap.size + 1 < v1.heap.size := KY.out.lt
  have DX := Lib.hid (HX.out.ex Ev1.out)
  have DY := Lib.hid (HY.out.ex Ev1.out)
  clear hv1
  refine (C1.out _ DX.out DY.out).mono ?_; rintro r w1 ⟨rfl, hb1⟩
  have Y1 : Hid (Chg 0 0 v1 w1) := Lib.hid (Chg.of_ex hb1)
  have s1 : v1.heap.size ≤ w1.heap.size := Y1.out.size
  have Ew1 : Hid (Ex w w1) := Lib.hid (Ev1.out.chg Y1.out (by omega))
  clear hb1
  replace KX : Hid (Blk w1 (w.heap.size) 36 [.slice a.b x.table.buckets.length a.bc, .slice a.f x.table.frames.length a.fc, .slice a.q x.cpus.length a.qc]) := Lib.hid (KX.out.chg Y1.out (by omega))
  replace KY : Hid (Blk w1 (w.heap.size + 1) 36 [.slice b.b y.table.buckets.length b.bc, .slice b.f y.table.frames.length b.fc, .slice b.q y.cpus.length b.qc]) := Lib.hid (KY.out.chg Y1.out (by omega))
  replace DX := Lib.hid (HX.out.ex Ew1.out)
  replace DY := Lib.hid (HY.out.ex Ew1.out)
  obtain ⟨qX0, qX1, qX2⟩ := KX.out.c3
  have jX := KX.out.lt
  obtain ⟨qY0, qY1, qY2⟩ := KY.out.c3
  have jY := KY.out.lt
  go_wp2_with fail
  refine name_calls ?_; intro v2 hv2
  have X2 : Hid (Chg (0) (0) w1 v2) := Lib.hid (by rw [hv2]; repeat' (first | with_reducible exact Chg.refl _ _ _ | with_reducible refine Chg.alloc ?_ _ | with_reducible refine Chg.drew ?_ | with_reducible refine Chg.set ?_ (by omega) _))
  have t2 : w1.heap.size ≤ v2.heap.size := X2.out.size
  have Ev2 : Hid (Ex w v2) := Lib.hid (Ew1.out.chg X2.out (by omega))
  clear qX0 qX1 qX2 jX
  clear qY0 qY1 qY2 jY
  replace KX : Hid (Blk v2 (w.heap.size) 36 [.slice a.b x.table.buckets.length a.bc, .slice a.f x.table.frames.length a.fc, .slice a.q x.cpus.length a.qc]) := Lib.hid (KX.out.chg X2.out (by omega))
  replace KY : Hid (Blk v2 (w.heap.size + 1) 36 [.slice b.b y.table.buckets.length b.bc, .slice b.f y.table.frames.length b.fc, .slice b.q y.cpus.length b.qc]) := Lib.hid (KY.out.chg X2.out (by omega))
  replace DX := Lib.hid (HX.out.ex Ev2.out)
  replace DY := Lib.hid (HY.out.ex Ev2.out)
  clear hv2
  refine (C2.out _ DX.out DY.out).mono ?_; rintro r w2 ⟨rfl, hb2⟩
  have Y2 : Hid (Chg 0 0 v2 w2) := Lib.hid (Chg.of_ex hb2)
  have s2 : v2.heap.size ≤ w2.heap.size := Y2.out.size
  have Ew2 : Hid (Ex w w2) := Lib.hid (Ev2.out.chg Y2.out (by omega))
  clear hb2
  replace KX : Hid (Blk w2 (w.heap.size) 36 [.slice a.b x.table.buckets.length a.bc, .slice a.f x.table.frames.length a.fc, .slice a.q x.cpus.length a.qc]) := Lib.hid (KX.out.chg Y2.out (by omega))
  replace KY : Hid (Blk w2 (w.heap.size + 1) 36 [.slice b.b y.table.buckets.length b.bc, .slice b.f y.table.frames.length b.fc, .slice b.q y.cpus.length b.qc]) := Lib.hid (KY.out.chg Y2.out (by omega))
  replace DX := Lib.hid (HX.out.ex Ew2.out)
  replace DY := Lib.hid (HY.out.ex Ew2.out)
  obtain ⟨qX0, qX1, qX2⟩ := KX.out.c3
  have jX := KX.out.lt
  obtain ⟨qY0, qY1, qY2⟩ := KY.out.c3
  have jY := KY.out.lt
  go_wp2
  go_ret
  exact ⟨rfl, Ew2.out⟩
end Go.Proofs.Ytkoegcalfibinaa
