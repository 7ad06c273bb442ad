/- Contracts of the small functions over Frame: comparing, copying, counting, marking. Written by a program of mine from one pattern. -/
import Derived.Test.YtihlaecbdlgbiaaDoorChg
import Derived.Test.YtihlaecbdlgbiaaDoorRows
import Derived.Test.YtihlaecbdlgbiaaDoorMk
namespace Go.Proofs.YtihlaecbdlgbiaaDoor
open Go.ChangeShapes Go.WideShapes Go.ChangeAt Go.RowKit
open Rec (sz cs)
set_option linter.unusedVariables false
set_option maxRecDepth 100000

set_option maxHeartbeats 1000000 in
theorem eqFrame_self_c (x : FrameD) (w : World) : Calls Tryd.prog 82 #[.agg #[.bool x.used, .int .i64 x.key.space, .int .i64 x.key.page, .int .i64 x.rights, .int .i64 x.next], .agg #[.bool x.used, .int .i64 x.key.space, .int .i64 x.key.page, .int .i64 x.rights, .int .i64 x.next]] w
   fun r w' => r = .returned (.bool true) ∧ Ex w w' := by
  obtain ⟨a1, ⟨b1, c1⟩, d1, e1⟩ := x
  go_enter Tryd.func82, Tryd.ntmps82
  have hne0 : (a1 != a1) = false := by simp
  have hne1 : (b1 != b1) = false := by simp
  have hne2 : (c1 != c1) = false := by simp
  have hne3 : (d1 != d1) = false := by simp
  have hne4 : (e1 != e1) = false := by simp
  go_wp2_with fail
  refine name_calls ?_; intro v1 hv1
  have X1 : Hid (Chg (0) (0) w v1) := Lib.hid (by rw [hv1]; repeat' (first | with_reducible exact Chg.refl _ _ _ | with_reducible refine Chg.alloc ?_ _ | with_reducible refine Chg.drew ?_ | with_reducible refine Chg.set ?_ (by omega) _))
  have t1 : w.heap.size ≤ v1.heap.size := X1.out.size
  have Ev1 : Hid (Ex w v1) := Lib.hid ((Ex.refl w).chg X1.out (by omega))
  have KX : Hid (Blk v1 (w.heap.size) 72 [.bool a1, .int .i64 b1, .int .i64 c1, .int .i64 d1, .int .i64 e1]) := Lib.hid (by rw [hv1]; exact (Blk.new _ _ _).alloc _)
  have lX : w.heap.size < v1.heap.size := KX.out.lt
  have KY : Hid (Blk v1 (w.heap.size + 1) 72 [.bool a1, .int .i64 b1, .int .i64 c1, .int .i64 d1, .int .i64 e1]) := Lib.hid (by rw [hv1]; repeat' (first | with_reducible exact Blk.new_at _ _ _ (by simp) | with_reducible refine Blk.alloc ?_ _ | with_reducible refine Blk.drew ?_ | with_reducible refine Blk.far ?_ (by simp; omega) _))
  have lY : w.heap.size + 1 < v1.heap.size := KY.out.lt
  clear hv1
  refine (eqKey_self_c ⟨b1, c1⟩ _).mono ?_; rintro r w1 ⟨rfl, hb1⟩
  have Y1 : Hid (Chg 0 0 v1 w1) := Lib.hid (Chg.of_ex hb1)
  have s1 : v1.heap.size ≤ w1.heap.size := Y1.out.size
  have Ew1 : Hid (Ex w w1) := Lib.hid (Ev1.out.chg Y1.out (by omega))
  clear hb1
  replace KX : Hid (Blk w1 (w.heap.size) 72 [.bool a1, .int .i64 b1, .int .i64 c1, .int .i64 d1, .int .i64 e1]) := Lib.hid (KX.out.chg Y1.out (by omega))
  replace KY : Hid (Blk w1 (w.heap.size + 1) 72 [.bool a1, .int .i64 b1, .int .i64 c1, .int .i64 d1, .int .i64 e1]) := Lib.hid (KY.out.chg Y1.out (by omega))
  obtain ⟨qX0, qX1, qX2, qX3, qX4⟩ := KX.out.c5
  have jX := KX.out.lt
  obtain ⟨qY0, qY1, qY2, qY3, qY4⟩ := KY.out.c5
  have jY := KY.out.lt
  go_wp2
  go_ret
  exact ⟨rfl, Ew1.out⟩

set_option maxHeartbeats 1000000 in
theorem toFrame_c (x : FrameD) (w : World) :
    Calls Tryd.prog 78 #[.agg #[.bool x.used, .int .i64 x.key.space, .int .i64 x.key.page, .int .i64 x.rights, .int .i64 x.next]] w fun r w' => r = .returned (.agg #[.bool x.used, .int .i64 x.key.space, .int .i64 x.key.page, .int .i64 x.rights, .int .i64 x.next]) ∧ Ex w w' := by
  obtain ⟨a1, ⟨b1, c1⟩, d1, e1⟩ := x
  go_enter Tryd.func78, Tryd.ntmps78
  go_wp2_with fail
  refine name_calls ?_; intro v1 hv1
  have X1 : Hid (Chg (0) (0) w v1) := Lib.hid (by rw [hv1]; repeat' (first | with_reducible exact Chg.refl _ _ _ | with_reducible refine Chg.alloc ?_ _ | with_reducible refine Chg.drew ?_ | with_reducible refine Chg.set ?_ (by omega) _))
  have t1 : w.heap.size ≤ v1.heap.size := X1.out.size
  have Ev1 : Hid (Ex w v1) := Lib.hid ((Ex.refl w).chg X1.out (by omega))
  have KX : Hid (Blk v1 (w.heap.size) 123 [.bool a1, .int .i64 b1, .int .i64 c1, .int .i64 d1, .int .i64 e1]) := Lib.hid (by rw [hv1]; exact ((Blk.new _ _ _).alloc _).alloc _)
  have lX : w.heap.size < v1.heap.size := KX.out.lt
  have KR : Hid (Blk v1 (w.heap.size + 1) 72 [.bool false, .int .i64 0, .int .i64 0, .int .i64 0, .int .i64 0]) := Lib.hid (by rw [hv1]; exact (Blk.new_at _ _ _ (by simp)).alloc _)
  have lR : w.heap.size + 1 < v1.heap.size := KR.out.lt
  have KO : Hid (Blk v1 (w.heap.size + 1 + 1) 72 [.bool a1, .int .i64 0, .int .i64 0, .int .i64 0, .int .i64 0]) := Lib.hid (by rw [hv1]; exact Blk.new_at _ _ _ (by simp))
  have lO : w.heap.size + 1 + 1 < v1.heap.size := KO.out.lt
  clear hv1
  refine (toKey_c ⟨b1, c1⟩ _).mono ?_; rintro r w1 ⟨rfl, hb1⟩
  have Y1 : Hid (Chg 0 0 v1 w1) := Lib.hid (Chg.of_ex hb1)
  have s1 : v1.heap.size ≤ w1.heap.size := Y1.out.size
  have Ew1 : Hid (Ex w w1) := Lib.hid (Ev1.out.chg Y1.out (by omega))
  clear hb1
  replace KX : Hid (Blk w1 (w.heap.size) 123 [.bool a1, .int .i64 b1, .int .i64 c1, .int .i64 d1, .int .i64 e1]) := Lib.hid (KX.out.chg Y1.out (by omega))
  replace KR : Hid (Blk w1 (w.heap.size + 1) 72 [.bool false, .int .i64 0, .int .i64 0, .int .i64 0, .int .i64 0]) := Lib.hid (KR.out.chg Y1.out (by omega))
  replace KO : Hid (Blk w1 (w.heap.size + 1 + 1) 72 [.bool a1, .int .i64 0, .int .i64 0, .int .i64 0, .int .i64 0]) := Lib.hid (KO.out.chg Y1.out (by omega))
  obtain ⟨qX0, qX1, qX2, qX3, qX4⟩ := KX.out.c5
  have jX := KX.out.lt
  obtain ⟨qR0, qR1, qR2, qR3, qR4⟩ := KR.out.c5
  have jR := KR.out.lt
  have zR := KR.out.frozen
  obtain ⟨qO0, qO1, qO2, qO3, qO4⟩ := KO.out.c5
  have jO := KO.out.lt
  have zO := KO.out.frozen
  go_wp2
  exact bodyPost_ret (v := .agg #[.bool a1, .int .i64 b1, .int .i64 c1, .int .i64 d1, .int .i64 e1]) (by first | (simp [results, Tryd.results78, go_sem, qR0, qR1]; done) | (simp [results, Tryd.results78, go_sem, qR0, qR1, qR2, qR3, qR4]; done)) rfl ⟨rfl, (by repeat' (first | with_reducible exact Ew1.out | with_reducible refine Ex.alloc ?_ _ | with_reducible refine Ex.drew ?_ | with_reducible refine Ex.put ?_ (by omega) _))⟩

set_option maxHeartbeats 1000000 in
theorem eqFrameS_self_c (A B : Option Addr) (c d : Nat) (xs : List FrameD) (w : World) (hx : Rd w A xs) (hy : Rd w B xs) (hn : xs.length ≤ 1048576) :
   Calls Tryd.prog 72 #[.slice A xs.length c, .slice B xs.length d] w
   fun r w' => r = .returned (.bool true) ∧ Ex w w' := by
  obtain ⟨n, hn1⟩ : ∃ n, n = xs.length := ⟨_, rfl⟩
  rw [← hn1]
  have hn' : n ≤ 1048576 := by omega
  have HX := Lib.hid hn1
  have H1 := Lib.hid hx
  have H2 := Lib.hid hy
  clear hn hn1 hx hy
  go_enter Tryd.func72, Tryd.ntmps72
  go_wp2
  go_loopw [5] (fun i wr => ∃ k : Nat, k ≤ n ∧ i = .int .i64 k ∧ Ex w wr) (fun i _ => n - (intOf i).toNat)
  case atStart => exact ⟨0, Nat.zero_le _, rfl, Ex.refl _⟩
  case round =>
    obtain ⟨k, hk, rfl, hbel⟩ := hrel
    have HB := Lib.hid hbel
    clear hbel
    by_cases hlt : k < n
    · obtain ⟨b1, o1, x, rfl, hb1, hxk, h0, h1, h2, h3, h4⟩ := Rd.frame (H1.out.ex HB.out) (k := k) (by have := HX.out; omega)
      obtain ⟨b2, o2, y, rfl, hb2, hyk, g0, g1, g2, g3, g4⟩ := Rd.frame (H2.out.ex HB.out) (k := k) (by have := HX.out; omega)
      have e : y = x := by rw [hxk] at hyk; injection hyk with e; exact e.symm
      subst e
      clear hxk hyk
      go_wp2_with fail
      go_still_tail 8, (by kernel_rfl)
      change wpList _ _ _ _ _ wr.drew
      go_wp2_with (go_at_call 82; go_must (refine (eqFrame_self_c y _).mono ?_); rintro r w' ⟨rfl, hb⟩)
      go_roundw
      case rel => exact ⟨k + 1, by omega, by go_num, (HB.out.drew).trans hb⟩
      case measure => simp [intOf]; omega
    · go_wp2
      go_ret
      exact ⟨rfl, HB.out⟩

set_option maxHeartbeats 400000 in
theorem szFrameS_c (A : Option Addr) (n c : Nat) (l : Int) (w : World) (h0 : 0 ≤ l) (h1 : l ≤ 1048576) (hn : n ≤ maxLen) :
    Calls Tryd.prog 45 #[.slice A n c, .int .i64 l] w fun r w' => r = .returned (.int .i64 (szI l n)) ∧ w = w' := by
  unfold maxLen at hn
  by_cases hlt : l < n
  · have hd : l - n < 0 := by omega
    have HF := Lib.hid (szI_neg hlt)
    go_enter Tryd.func45, Tryd.ntmps45
    go_wp2
    go_ret
    exact ⟨ret_int HF.out.symm, rfl⟩
  · have hd : ¬ l - n < 0 := by omega
    have HF := Lib.hid (szI_pos hlt)
    go_enter Tryd.func45, Tryd.ntmps45
    go_wp2
    go_ret
    exact ⟨ret_int HF.out.symm, rfl⟩

theorem infoMFrame : (Tryd.prog.info? 72).map (fun i => (i.zero, i.size, i.bytes)) = some (some (.agg #[.bool false, .int .i64 0, .int .i64 0, .int .i64 0, .int .i64 0]), 5, 40) := by kernel_rfl

set_option maxHeartbeats 1000000 in
theorem toFrameS_c (A : Option Addr) (c : Nat) (xs : List FrameD) (w : World) (hx : Rd w A xs) (hn : xs.length ≤ 1048576) :
    Calls Tryd.prog 58 #[.slice A xs.length c] w
    fun r w' => ∃ A' c', r = .returned (.slice A' xs.length c') ∧ Fr 72 w' w.heap.size A' c' xs ∧ Ex w w' := by
  obtain ⟨n, hn1⟩ : ∃ n, n = xs.length := ⟨_, rfl⟩
  rw [← hn1]
  have hn' : n ≤ 1048576 := by omega
  have hmk := make_rec (P := Tryd.prog) (α := FrameD) 36 72 40 ⟨false, ⟨0, 0⟩, 0, 0⟩ _ Tryd.underlying36 infoMFrame rfl n (by omega) (by omega)
  have HX := Lib.hid hn1
  have H1 := Lib.hid hx
  clear hn hn1 hx
  go_enter Tryd.func58, Tryd.ntmps58
  go_wp2
  clear hmk
  go_loopw [4] (fun i wr => ∃ (k : Nat) (zs : List FrameD), k ≤ n ∧ i = .int .i64 k ∧ Ex w wr ∧ zs.length = n ∧ zs.take k = xs.take k ∧ Bk 72 wr w.heap.size zs []) (fun i _ => n - (intOf i).toNat)
  case atStart => exact ⟨0, List.replicate n ⟨false, ⟨0, 0⟩, 0, 0⟩, Nat.zero_le _, rfl, (Ex.refl _).alloc _, List.length_replicate, rfl, Bk.new _ _ _⟩
  case round =>
    obtain ⟨k, zs, hk, rfl, hbel, hzs, htk, hB⟩ := hrel
    have HT := Lib.hid htk
    have HZ := Lib.hid hzs
    have HB := Lib.hid hB
    clear htk hzs hB
    by_cases hlt : k < n
    · obtain ⟨b1, o1, x, rfl, hb1, hxk, h0, h1, h2, h3, h4⟩ := Rd.frame (H1.out.ex hbel) (k := k) (by have := HX.out; omega)
      obtain ⟨z, hzk⟩ : ∃ z, zs[k]? = some z := ⟨_, List.getElem?_eq_getElem (by have := HZ.out; omega)⟩
      have HXK := Lib.hid hxk
      have HZK := Lib.hid hzk
      clear hxk hzk
      go_wp2_with (go_at_call 78; go_must (refine (toFrame_c x _).mono ?_); rintro r w2 ⟨rfl, hb⟩; have hB2 := Lib.hid (HB.out.ex hb); obtain ⟨hc0, hc1, hc2, hc3, hc4⟩ := (HB.out.ex hb).frame HZK.out; have hfz := Bk.frozen (HB.out.ex hb))
      go_roundw
      case rel => exact ⟨k + 1, zs.set k x, by omega, by go_num, ((((((hbel.trans hb).set (Nat.le_refl _) _).set (Nat.le_refl _) _).set (Nat.le_refl _) _).set (Nat.le_refl _) _).set (Nat.le_refl _) _), by rw [List.length_set]; exact HZ.out, (by rw [List.take_succ_eq_append_getElem (by rw [List.length_set]; have := HZ.out; omega), List.getElem_set_self, List.take_set_of_le (Nat.le_refl _), HT.out, take_succ_of HXK.out]), hB2.out.set_frame x (by have := HZ.out; omega)⟩
      case measure => simp [intOf]; omega
    · go_wp2
      go_ret
      have e : zs = xs := eq_of_take HZ.out HX.out.symm (by rw [show n = k from by omega]; exact HT.out)
      subst e
      exact ⟨_, _, rfl, ⟨by have := HX.out; omega, by simp only [maxLen]; omega, .inr ⟨_, [], rfl, Nat.le_refl _, HB.out, by rw [HX.out, Nat.sub_self, Nat.zero_mul]; exact Nat.zero_le _⟩⟩, hbel⟩

def mkFrame (k : Int) : FrameD := ⟨(k) % 3 == 0, ⟨k + 1, k + 1 + 1⟩, k + 1 + 1 + 1, k + 1 + 1 + 1 + 1⟩

theorem fieldsFrame : Tryd.prog.underlying 72 = some (.struct (Tryd.prog.fieldsOf 72)) := by kernel_rfl
theorem heldFrame_ : Tryd.prog.stoodInHeld 72 = false := by kernel_rfl
theorem guardFrame : Tryd.prog.eqGuardType Tryd.prog.depth 72 = false := by kernel_rfl
theorem eqIn_frame (x y : FrameD) (w : World) : (Op.equalIn 10000 72 (.agg #[.bool x.used, .int .i64 x.key.space, .int .i64 x.key.page, .int .i64 x.rights, .int .i64 x.next]) (.agg #[.bool y.used, .int .i64 y.key.space, .int .i64 y.key.page, .int .i64 y.rights, .int .i64 y.next])).run Tryd.prog w = .ok (eqB x y) w := by
  obtain ⟨a1, ⟨b1, c1⟩, d1, e1⟩ := x
  obtain ⟨a2, ⟨b2, c2⟩, d2, e2⟩ := y
  rw [run_equalIn_agg w 9999 _ _ _ fieldsFrame heldFrame_]
  simp [go_sem, Tryd.underlying72, Tryd.underlying70]
  by_cases k0 : a1 = a2 <;> by_cases k1 : b1 = b2 <;> by_cases k2 : c1 = c2 <;> by_cases k3 : d1 = d2 <;> by_cases k4 : e1 = e2 <;> simp [eqB, *]
theorem neq_frame (x y : FrameD) (w : World) : (binOp .neq 72 (.agg #[.bool x.used, .int .i64 x.key.space, .int .i64 x.key.page, .int .i64 x.rights, .int .i64 x.next]) (.agg #[.bool y.used, .int .i64 y.key.space, .int .i64 y.key.page, .int .i64 y.rights, .int .i64 y.next])).run Tryd.prog w = .ok (.bool (!eqB x y)) w := by
  rw [run_neq_struct, eqIn_frame]; rfl
theorem eql_frame (x y : FrameD) (w : World) : (binOp .eql 72 (.agg #[.bool x.used, .int .i64 x.key.space, .int .i64 x.key.page, .int .i64 x.rights, .int .i64 x.next]) (.agg #[.bool y.used, .int .i64 y.key.space, .int .i64 y.key.page, .int .i64 y.rights, .int .i64 y.next])).run Tryd.prog w = .ok (.bool (eqB x y)) w := by
  rw [run_eql_struct, eqIn_frame]; rfl

end Go.Proofs.YtihlaecbdlgbiaaDoor
