/- Contracts of the small functions over Frame: comparing, copying, counting, marking. Written by a program of mine from one pattern. -/
import Derived.Test.YtkoegcalfibinaaChg
import Derived.Test.YtkoegcalfibinaaRows
import Derived.Test.YtkoegcalfibinaaMk
namespace Go.Proofs.Ytkoegcalfibinaa
open Go.ChangeShapes Go.WideShapes Go.ChangeAt Go.RowKit
open Rec (sz cs)
set_option linter.unusedVariables false
set_option maxRecDepth 100000

set_option maxHeartbeats 1000000 in
theorem eqFrame_self_c (x : FrameD) (w : World) : Calls Try.prog 69 #[.agg #[.bool x.used, .int .i64 x.key.space, .int .i64 x.key.page, .int .i64 x.rights, .int .i64 x.next], .agg #[.bool x.used, .int .i64 x.key.space, .int .i64 x.key.page, .int .i64 x.rights, .int .i64 x.next]] w
   fun r w' => r = .returned (.bool true) ∧ Ex w w' := by
  obtain ⟨a1, ⟨b1, c1⟩, d1, e1⟩ := x
  go_enter Try.func69, Try.ntmps69
  have hne0 : (a1 != a1) = false := by simp
  have hne1 : (b1 != b1) = false := by simp
  have hne2 : (c1 != c1) = false := by simp
  have hne3 : (d1 != d1) = false := by simp
  have hne4 : (e1 != e1) = false := by simp
  go_wp2_with fail
  refine name_calls ?_; intro v1 hv1
  have X1 : Hid (Chg (0) (0) w v1) := Lib.hid (by rw [hv1]; repeat' (first | with_reducible exact Chg.refl _ _ _ | with_reducible refine Chg.alloc ?_ _ | with_reducible refine Chg.drew ?_ | with_reducible refine Chg.set ?_ (by omega) _))
  have t1 : w.heap.size ≤ v1.heap.size := X1.out.size
  have Ev1 : Hid (Ex w v1) := Lib.hid ((Ex.refl w).chg X1.out (by omega))
  have KX : Hid (Blk v1 (w.heap.size) 100 [.bool a1, .int .i64 b1, .int .i64 c1, .int .i64 d1, .int .i64 e1]) := Lib.hid (by rw [hv1]; exact (Blk.new _ _ _).alloc _)
  have lX : w.heap.size < v1.heap.size := KX.out.lt
  have KY : Hid (Blk v1 (w.heap.size + 1) 100 [.bool a1, .int .i64 b1, .int .i64 c1, .int .i64 d1, .int .i64 e1]) := Lib.hid (by rw [hv1]; repeat' (first | with_reducible exact Blk.new_at _ _ _ (by simp) | with_reducible refine Blk.alloc ?_ _ | with_reducible refine Blk.drew ?_ | with_reducible refine Blk.far ?_ (by simp; omega) _))
  have lY : w.heap.size + 1 < v1.heap.size := KY.out.lt
  clear hv1
  refine (eqKey_self_c ⟨b1, c1⟩ _).mono ?_; rintro r w1 ⟨rfl, hb1⟩
  have Y1 : Hid (Chg 0 0 v1 w1) := Lib.hid (Chg.of_ex hb1)
  have s1 : v1.heap.size ≤ w1.heap.size := Y1.out.size
  have Ew1 : Hid (Ex w w1) := Lib.hid (Ev1.out.chg Y1.out (by omega))
  clear hb1
  replace KX : Hid (Blk w1 (w.heap.size) 100 [.bool a1, .int .i64 b1, .int .i64 c1, .int .i64 d1, .int .i64 e1]) := Lib.hid (KX.out.chg Y1.out (by omega))
  replace KY : Hid (Blk w1 (w.heap.size + 1) 100 [.bool a1, .int .i64 b1, .int .i64 c1, .int .i64 d1, .int .i64 e1]) := Lib.hid (KY.out.chg Y1.out (by omega))
  obtain ⟨qX0, qX1, qX2, qX3, qX4⟩ := KX.out.c5
  have jX := KX.out.lt
  obtain ⟨qY0, qY1, qY2, qY3, qY4⟩ := KY.out.c5
  have jY := KY.out.lt
  go_wp2
  go_ret
  exact ⟨rfl, Ew1.out⟩

set_option maxHeartbeats 1000000 in
theorem toFrame_c (x : FrameD) (w : World) :
    Calls Try.prog 67 #[.agg #[.bool x.used, .int .i64 x.key.space, .int .i64 x.key.page, .int .i64 x.rights, .int .i64 x.next]] w fun r w' => r = .returned (.agg #[.bool x.used, .int .i64 x.key.space, .int .i64 x.key.page, .int .i64 x.rights, .int .i64 x.next]) ∧ Ex w w' := by
  obtain ⟨a1, ⟨b1, c1⟩, d1, e1⟩ := x
  go_enter Try.func67, Try.ntmps67
  go_wp2_with fail
  refine name_calls ?_; intro v1 hv1
  have X1 : Hid (Chg (0) (0) w v1) := Lib.hid (by rw [hv1]; repeat' (first | with_reducible exact Chg.refl _ _ _ | with_reducible refine Chg.alloc ?_ _ | with_reducible refine Chg.drew ?_ | with_reducible refine Chg.set ?_ (by omega) _))
  have t1 : w.heap.size ≤ v1.heap.size := X1.out.size
  have Ev1 : Hid (Ex w v1) := Lib.hid ((Ex.refl w).chg X1.out (by omega))
  have KX : Hid (Blk v1 (w.heap.size) 120 [.bool a1, .int .i64 b1, .int .i64 c1, .int .i64 d1, .int .i64 e1]) := Lib.hid (by rw [hv1]; exact ((Blk.new _ _ _).alloc _).alloc _)
  have lX : w.heap.size < v1.heap.size := KX.out.lt
  have KR : Hid (Blk v1 (w.heap.size + 1) 100 [.bool false, .int .i64 0, .int .i64 0, .int .i64 0, .int .i64 0]) := Lib.hid (by rw [hv1]; exact (Blk.new_at _ _ _ (by simp)).alloc _)
  have lR : w.heap.size + 1 < v1.heap.size := KR.out.lt
  have KO : Hid (Blk v1 (w.heap.size + 1 + 1) 100 [.bool a1, .int .i64 0, .int .i64 0, .int .i64 0, .int .i64 0]) := Lib.hid (by rw [hv1]; exact Blk.new_at _ _ _ (by simp))
  have lO : w.heap.size + 1 + 1 < v1.heap.size := KO.out.lt
  clear hv1
  refine (toKey_c ⟨b1, c1⟩ _).mono ?_; rintro r w1 ⟨rfl, hb1⟩
  have Y1 : Hid (Chg 0 0 v1 w1) := Lib.hid (Chg.of_ex hb1)
  have s1 : v1.heap.size ≤ w1.heap.size := Y1.out.size
  have Ew1 : Hid (Ex w w1) := Lib.hid (Ev1.out.chg Y1.out (by omega))
  clear hb1
  replace KX : Hid (Blk w1 (w.heap.size) 120 [.bool a1, .int .i64 b1, .int .i64 c1, .int .i64 d1, .int .i64 e1]) := Lib.hid (KX.out.chg Y1.out (by omega))
  replace KR : Hid (Blk w1 (w.heap.size + 1) 100 [.bool false, .int .i64 0, .int .i64 0, .int .i64 0, .int .i64 0]) := Lib.hid (KR.out.chg Y1.out (by omega))
  replace KO : Hid (Blk w1 (w.heap.size + 1 + 1) 100 [.bool a1, .int .i64 0, .int .i64 0, .int .i64 0, .int .i64 0]) := Lib.hid (KO.out.chg Y1.out (by omega))
  obtain ⟨qX0, qX1, qX2, qX3, qX4⟩ := KX.out.c5
  have jX := KX.out.lt
  obtain ⟨qR0, qR1, qR2, qR3, qR4⟩ := KR.out.c5
  have jR := KR.out.lt
  have zR := KR.out.frozen
  obtain ⟨qO0, qO1, qO2, qO3, qO4⟩ := KO.out.c5
  have jO := KO.out.lt
  have zO := KO.out.frozen
  go_wp2
  exact bodyPost_ret (v := .agg #[.bool a1, .int .i64 b1, .int .i64 c1, .int .i64 d1, .int .i64 e1]) (by first | (simp [results, Try.results67, go_sem, qR0, qR1]; done) | (simp [results, Try.results67, go_sem, qR0, qR1, qR2, qR3, qR4]; done)) rfl ⟨rfl, (by repeat' (first | with_reducible exact Ew1.out | with_reducible refine Ex.alloc ?_ _ | with_reducible refine Ex.drew ?_ | with_reducible refine Ex.put ?_ (by omega) _))⟩

set_option maxHeartbeats 1000000 in
theorem eqFrameS_self_c (A B : Option Addr) (c d : Nat) (xs : List FrameD) (w : World) (hx : Rd w A xs) (hy : Rd w B xs) (hn : xs.length ≤ 1048576) :
   Calls Try.prog 56 #[.slice A xs.length c, .slice B xs.length d] w
   fun r w' => r = .returned (.bool true) ∧ Ex w w' := by
  obtain ⟨n, hn1⟩ : ∃ n, n = xs.length := ⟨_, rfl⟩
  rw [← hn1]
  have hn' : n ≤ 1048576 := by omega
  have HX := Lib.hid hn1
  have H1 := Lib.hid hx
  have H2 := Lib.hid hy
  clear hn hn1 hx hy
  go_enter Try.func56, Try.ntmps56
  go_wp2
  go_loopw [5] (fun i wr => ∃ k : Nat, k ≤ n ∧ i = .int .i64 k ∧ Ex w wr) (fun i _ => n - (intOf i).toNat)
  case atStart => exact ⟨0, Nat.zero_le _, rfl, Ex.refl _⟩
  case round =>
    obtain ⟨k, hk, rfl, hbel⟩ := hrel
    have HB := Lib.hid hbel
    clear hbel
    by_cases hlt : k < n
    · obtain ⟨b1, o1, x, rfl, hb1, hxk, h0, h1, h2, h3, h4⟩ := Rd.frame (H1.out.ex HB.out) (k := k) (by have := HX.out; omega)
      obtain ⟨b2, o2, y, rfl, hb2, hyk, g0, g1, g2, g3, g4⟩ := Rd.frame (H2.out.ex HB.out) (k := k) (by have := HX.out; omega)
      have e : y = x := by rw [hxk] at hyk; injection hyk with e; exact e.symm
      subst e
      clear hxk hyk
      go_wp2_with fail
      go_still_tail 8, (by kernel_rfl)
      change wpList _ _ _ _ _ wr.drew
      go_wp2_with (go_at_call 69; go_must (refine (eqFrame_self_c y _).mono ?_); rintro r w' ⟨rfl, hb⟩)
      go_roundw
      case rel => exact ⟨k + 1, by omega, by go_num, (HB.out.drew).trans hb⟩
      case measure => simp [intOf]; omega
    · go_wp2
      go_ret
      exact ⟨rfl, HB.out⟩

set_option maxHeartbeats 400000 in
theorem szFrameS_c (A : Option Addr) (n c : Nat) (l : Int) (w : World) (h0 : 0 ≤ l) (h1 : l ≤ 1048576) (hn : n ≤ maxLen) :
    Calls Try.prog 48 #[.slice A n c, .int .i64 l] w fun r w' => r = .returned (.int .i64 (szI l n)) ∧ w = w' := by
  unfold maxLen at hn
  by_cases hlt : l < n
  · have hd : l - n < 0 := by omega
    have HF := Lib.hid (szI_neg hlt)
    go_enter Try.func48, Try.ntmps48
    go_wp2
    go_ret
    exact ⟨ret_int HF.out.symm, rfl⟩
  · have hd : ¬ l - n < 0 := by omega
    have HF := Lib.hid (szI_pos hlt)
    go_enter Try.func48, Try.ntmps48
    go_wp2
    go_ret
    exact ⟨ret_int HF.out.symm, rfl⟩

theorem infoMFrame : (Try.prog.info? 100).map (fun i => (i.zero, i.size, i.bytes)) = some (some (.agg #[.bool false, .int .i64 0, .int .i64 0, .int .i64 0, .int .i64 0]), 5, 40) := by kernel_rfl

set_option maxHeartbeats 1000000 in
theorem toFrameS_c (A : Option Addr) (c : Nat) (xs : List FrameD) (w : World) (hx : Rd w A xs) (hn : xs.length ≤ 1048576) :
    Calls Try.prog 51 #[.slice A xs.length c] w
    fun r w' => ∃ A' c', r = .returned (.slice A' xs.length c') ∧ Fr 100 w' w.heap.size A' c' xs ∧ Ex w w' := by
  obtain ⟨n, hn1⟩ : ∃ n, n = xs.length := ⟨_, rfl⟩
  rw [← hn1]
  have hn' : n ≤ 1048576 := by omega
  have hmk := make_rec (P := Try.prog) (α := FrameD) 31 100 40 ⟨false, ⟨0, 0⟩, 0, 0⟩ _ Try.underlying31 infoMFrame rfl n (by omega) (by omega)
  have HX := Lib.hid hn1
  have H1 := Lib.hid hx
  clear hn hn1 hx
  go_enter Try.func51, Try.ntmps51
  go_wp2
  clear hmk
  go_loopw [4] (fun i wr => ∃ (k : Nat) (zs : List FrameD), k ≤ n ∧ i = .int .i64 k ∧ Ex w wr ∧ zs.length = n ∧ zs.take k = xs.take k ∧ Bk 100 wr w.heap.size zs []) (fun i _ => n - (intOf i).toNat)
  case atStart => exact ⟨0, List.replicate n ⟨false, ⟨0, 0⟩, 0, 0⟩, Nat.zero_le _, rfl, (Ex.refl _).alloc _, List.length_replicate, rfl, Bk.new _ _ _⟩
  case round =>
    obtain ⟨k, zs, hk, rfl, hbel, hzs, htk, hB⟩ := hrel
    have HT := Lib.hid htk
    have HZ := Lib.hid hzs
    have HB := Lib.hid hB
    clear htk hzs hB
    by_cases hlt : k < n
    · obtain ⟨b1, o1, x, rfl, hb1, hxk, h0, h1, h2, h3, h4⟩ := Rd.frame (H1.out.ex hbel) (k := k) (by have := HX.out; omega)
      obtain ⟨z, hzk⟩ : ∃ z, zs[k]? = some z := ⟨_, List.getElem?_eq_getElem (by have := HZ.out; omega)⟩
      have HXK := Lib.hid hxk
      have HZK := Lib.hid hzk
      clear hxk hzk
      go_wp2_with (go_at_call 67; go_must (refine (toFrame_c x _).mono ?_); rintro r w2 ⟨rfl, hb⟩; have hB2 := Lib.hid (HB.out.ex hb); obtain ⟨hc0, hc1, hc2, hc3, hc4⟩ := (HB.out.ex hb).frame HZK.out; have hfz := Bk.frozen (HB.out.ex hb))
      go_roundw
      case rel => exact ⟨k + 1, zs.set k x, by omega, by go_num, ((((((hbel.trans hb).set (Nat.le_refl _) _).set (Nat.le_refl _) _).set (Nat.le_refl _) _).set (Nat.le_refl _) _).set (Nat.le_refl _) _), by rw [List.length_set]; exact HZ.out, (by rw [List.take_succ_eq_append_getElem (by rw [List.length_set]; have := HZ.out; omega), List.getElem_set_self, List.take_set_of_le (Nat.le_refl _), HT.out, take_succ_of HXK.out]), hB2.out.set_frame x (by have := HZ.out; omega)⟩
      case measure => simp [intOf]; omega
    · go_wp2
      go_ret
      have e : zs = xs := eq_of_take HZ.out HX.out.symm (by rw [show n = k from by omega]; exact HT.out)
      subst e
      exact ⟨_, _, rfl, ⟨by have := HX.out; omega, by simp only [maxLen]; omega, .inr ⟨_, [], rfl, Nat.le_refl _, HB.out, by rw [HX.out, Nat.sub_self, Nat.zero_mul]; exact Nat.zero_le _⟩⟩, hbel⟩

def mkFrame (k : Int) : FrameD := ⟨(k) % 3 == 0, ⟨k + 1, k + 2⟩, k + 3, k + 4⟩

theorem fieldsFrame : Try.prog.underlying 100 = some (.struct (Try.prog.fieldsOf 100)) := by kernel_rfl
theorem heldFrame_ : Try.prog.stoodInHeld 100 = false := by kernel_rfl
theorem guardFrame : Try.prog.eqGuardType Try.prog.depth 100 = false := by kernel_rfl
theorem eqIn_frame (x y : FrameD) (w : World) : (Op.equalIn 10000 100 (.agg #[.bool x.used, .int .i64 x.key.space, .int .i64 x.key.page, .int .i64 x.rights, .int .i64 x.next]) (.agg #[.bool y.used, .int .i64 y.key.space, .int .i64 y.key.page, .int .i64 y.rights, .int .i64 y.next])).run Try.prog w = .ok (eqB x y) w := by
  obtain ⟨a1, ⟨b1, c1⟩, d1, e1⟩ := x
  obtain ⟨a2, ⟨b2, c2⟩, d2, e2⟩ := y
  rw [run_equalIn_agg w 9999 _ _ _ fieldsFrame heldFrame_]
  simp [go_sem, Try.underlying100, Try.underlying79]
  by_cases k0 : a1 = a2 <;> by_cases k1 : b1 = b2 <;> by_cases k2 : c1 = c2 <;> by_cases k3 : d1 = d2 <;> by_cases k4 : e1 = e2 <;> simp [eqB, *]
theorem neq_frame (x y : FrameD) (w : World) : (binOp .neq 100 (.agg #[.bool x.used, .int .i64 x.key.space, .int .i64 x.key.page, .int .i64 x.rights, .int .i64 x.next]) (.agg #[.bool y.used, .int .i64 y.key.space, .int .i64 y.key.page, .int .i64 y.rights, .int .i64 y.next])).run Try.prog w = .ok (.bool (!eqB x y)) w := by
  rw [run_neq_struct, eqIn_frame]; rfl
theorem eql_frame (x y : FrameD) (w : World) : (binOp .eql 100 (.agg #[.bool x.used, .int .i64 x.key.space, .int .i64 x.key.page, .int .i64 x.rights, .int .i64 x.next]) (.agg #[.bool y.used, .int .i64 y.key.space, .int .i64 y.key.page, .int .i64 y.rights, .int .i64 y.next])).run Try.prog w = .ok (.bool (eqB x y)) w := by
  rw [run_eql_struct, eqIn_frame]; rfl

set_option maxHeartbeats 1000000 in
theorem equalFrame_c (A B : Option Addr) (c d : Nat) (xs ys : List FrameD) (w : World) (hx : Rd w A xs) (hy : Rd w B ys) (hn : xs.length ≤ 1048576) (hm : ys.length ≤ 1048576) :
   Calls Try.prog 54 #[.slice A xs.length c, .slice B ys.length d] w
   fun r w' => r = .returned (.bool (eqB xs ys)) ∧ Ex w w' := by
  by_cases hl : xs.length = ys.length
  · obtain ⟨n, hn1⟩ : ∃ n, n = xs.length := ⟨_, rfl⟩
    obtain ⟨m, hm1⟩ : ∃ m, m = ys.length := ⟨_, rfl⟩
    rw [← hn1, ← hm1]
    obtain rfl : n = m := by omega
    have hn' : n ≤ 1048576 := by omega
    have HX := Lib.hid hn1
    have HY := Lib.hid hm1
    have H1 := Lib.hid hx
    have H2 := Lib.hid hy
    clear hn hm hn1 hm1 hx hy hl
    go_enter Try.func54, Try.ntmps54
    go_wp2
    go_loopw [13] (fun i wr => ∃ k : Nat, k ≤ n ∧ i = .int .i64 k ∧ Ex w wr ∧ xs.take k = ys.take k) (fun i _ => n - (intOf i).toNat)
    case atStart => exact ⟨0, Nat.zero_le _, rfl, Ex.refl _, rfl⟩
    case round =>
      obtain ⟨k, hk, rfl, hbel, htk⟩ := hrel
      have HT := Lib.hid htk
      clear htk
      by_cases hlt : k < n
      · obtain ⟨b1, o1, x, rfl, hb1, hxk, h0, h1, h2, h3, h4⟩ := Rd.frame (H1.out.ex hbel) (k := k) (by have := HX.out; omega)
        obtain ⟨b2, o2, y, rfl, hb2, hyk, g0, g1, g2, g3, g4⟩ := Rd.frame (H2.out.ex hbel) (k := k) (by have := HY.out; omega)
        have HXK := Lib.hid hxk
        have HYK := Lib.hid hyk
        clear hxk hyk
        have hneq := neq_frame x y
        have hgd := guardFrame
        cases hxy : eqB x y
        · have hne : x ≠ y := eqB_false.1 hxy
          skip
          go_wp2_with fail
          go_quiet (fail)
          clear hneq hgd
          go_wp2
          go_ret
          exact ⟨ret_bool (by rw [eq_comm, eqB_false]; exact ne_of_elem HXK.out HYK.out hne), hbel.drewN _⟩
        · have HE := Lib.hid (eqB_true.1 hxy)
          skip
          go_wp2_with fail
          go_quiet (fail)
          clear hneq hgd
          go_wp2
          go_roundw
          case rel => exact ⟨k + 1, by omega, by go_num, hbel.drewN _, (take_eq_step HXK.out HYK.out).2 ⟨HT.out, HE.out⟩⟩
          case measure => simp [intOf]; omega
      · go_wp2
        go_ret
        exact ⟨ret_bool (by rw [eq_comm, eqB_true]; exact eq_of_take HX.out.symm HY.out.symm (by rw [show n = k from by omega]; exact HT.out)), hbel⟩
  · have hne : ((xs.length : Int) != (ys.length : Int)) = true := by simp; omega
    go_enter Try.func54, Try.ntmps54
    go_wp2
    go_ret
    exact ⟨ret_bool (by rw [eq_comm, eqB_false]; intro h; exact hl (by rw [h])), Ex.refl _⟩
end Go.Proofs.Ytkoegcalfibinaa
