/- DropAll of both sides: the walks. -/
import Derived.Test.YtcaaficjcghheabCr
import Derived.Test.YtcaaficjcghheabCqA
namespace Go.Proofs.Ytcaaficjcghheab
open Go.ChangeShapes Go.WideShapes Go.ChangeAt Go.RowKit
open Rec (sz cs)
set_option linter.unusedVariables false
set_option maxRecDepth 100000

set_option maxHeartbeats 2000000 in
theorem dropAllS_c (t : CacheD) (A : Option Addr) (c : Nat) (w : World) (hx : Rd w A t.lines) (hn : t.lines.length ≤ 1048576) (hc : t.lines.length ≤ c) (hc2 : c ≤ maxLen) :
    Calls Try.prog 18 #[.agg #[.slice A t.lines.length c, .int .i64 t.hand]] w
    fun r w' => ∃ A' c', r = .returned (.tuple #[.agg #[.slice A' (dropAll t).1.lines.length c', .int .i64 (dropAll t).1.hand], .bool (dropAll t).2]) ∧ Fr 31 w' w.heap.size A' c' (dropAll t).1.lines ∧ Ex w w' := by
  have HX := Lib.hid hx
  clear hx
  unfold dropAll
  cases hv : cacheV t
  · simp only [Bool.false_eq_true, if_false]
    go_enter Try.func18, Try.ntmps18
    go_wp2_with fail
    refine name_calls ?_; intro v1 hv1
    have X1 : Hid (Chg (0) (0) w v1) := Lib.hid (by rw [hv1]; repeat' (first | with_reducible exact Chg.refl _ _ _ | with_reducible refine Chg.alloc ?_ _ | with_reducible refine Chg.drew ?_ | with_reducible refine Chg.set ?_ (by omega) _))
    have t1 : w.heap.size ≤ v1.heap.size := X1.out.size
    have Ev1 : Hid (Ex w v1) := Lib.hid ((Ex.refl w).chg X1.out (by omega))
    have KX : Hid (Blk v1 (w.heap.size) 25 [.slice A t.lines.length c, .int .i64 t.hand]) := Lib.hid (by rw [hv1]; repeat' (first | with_reducible exact Blk.new_at _ _ _ (by simp) | with_reducible refine Blk.alloc ?_ _ | with_reducible refine Blk.drew ?_ | with_reducible refine Blk.far ?_ (by simp; omega) _))
    have lX : w.heap.size < v1.heap.size := KX.out.lt
    have KR : Hid (Blk v1 (w.heap.size + 1) 25 [.slice none 0 0, .int .i64 0]) := Lib.hid (by rw [hv1]; repeat' (first | with_reducible exact Blk.new_at _ _ _ (by simp) | with_reducible refine Blk.alloc ?_ _ | with_reducible refine Blk.drew ?_ | with_reducible refine Blk.far ?_ (by simp; omega) _))
    have lR : w.heap.size + 1 < v1.heap.size := KR.out.lt
    have DX := Lib.hid (HX.out.ex Ev1.out)
    clear hv1
    refine (cacheValidS_c t A c _ DX.out hn hc).mono ?_; rintro r w1 ⟨rfl, hb1⟩
    have Y1 : Hid (Chg 0 0 v1 w1) := Lib.hid (Chg.of_ex hb1)
    have s1 : v1.heap.size ≤ w1.heap.size := Y1.out.size
    have Ew1 : Hid (Ex w w1) := Lib.hid (Ev1.out.chg Y1.out (by omega))
    clear hb1
    replace KX : Hid (Blk w1 (w.heap.size) 25 [.slice A t.lines.length c, .int .i64 t.hand]) := Lib.hid (KX.out.chg Y1.out (by omega))
    replace KR : Hid (Blk w1 (w.heap.size + 1) 25 [.slice none 0 0, .int .i64 0]) := Lib.hid (KR.out.chg Y1.out (by omega))
    replace DX := Lib.hid (HX.out.ex Ew1.out)
    obtain ⟨qX0, qX1⟩ := KX.out.c2
    have jX := KX.out.lt
    obtain ⟨qR0, qR1⟩ := KR.out.c2
    have jR := KR.out.lt
    have zR := KR.out.frozen
    rw [hv]
    go_wp2
    exact bodyPost_ret (v := .tuple #[.agg #[.slice none 0 0, .int .i64 0], .bool false]) (by simp [results, Try.results18, go_sem, qR0, qR1]) rfl
      ⟨none, 0, rfl, Fr.none_ _ _ _ _, (Ew1.out.set (Nat.le_add_right _ 1) _).set (Nat.le_add_right _ 1) _⟩
  · simp only [if_true]
    have h0 := cacheV_pos hv
    have HLN := Lib.hid (dropIf_len t (fun _ => true))
    have HDD : Hid (dropIf t (fun x => true || (x.tag == 0)) = dropIf t (fun _ => true)) := Lib.hid (by simp)
    have HDH : Hid ((dropIf t (fun _ => true)).hand = t.hand) := Lib.hid rfl
    go_enter Try.func18, Try.ntmps18
    go_wp2_with fail
    refine name_calls ?_; intro v1 hv1
    have X1 : Hid (Chg (0) (0) w v1) := Lib.hid (by rw [hv1]; repeat' (first | with_reducible exact Chg.refl _ _ _ | with_reducible refine Chg.alloc ?_ _ | with_reducible refine Chg.drew ?_ | with_reducible refine Chg.set ?_ (by omega) _))
    have t1 : w.heap.size ≤ v1.heap.size := X1.out.size
    have Ev1 : Hid (Ex w v1) := Lib.hid ((Ex.refl w).chg X1.out (by omega))
    have KX : Hid (Blk v1 (w.heap.size) 25 [.slice A t.lines.length c, .int .i64 t.hand]) := Lib.hid (by rw [hv1]; repeat' (first | with_reducible exact Blk.new_at _ _ _ (by simp) | with_reducible refine Blk.alloc ?_ _ | with_reducible refine Blk.drew ?_ | with_reducible refine Blk.far ?_ (by simp; omega) _))
    have lX : w.heap.size < v1.heap.size := KX.out.lt
    have KR : Hid (Blk v1 (w.heap.size + 1) 25 [.slice none 0 0, .int .i64 0]) := Lib.hid (by rw [hv1]; repeat' (first | with_reducible exact Blk.new_at _ _ _ (by simp) | with_reducible refine Blk.alloc ?_ _ | with_reducible refine Blk.drew ?_ | with_reducible refine Blk.far ?_ (by simp; omega) _))
    have lR : w.heap.size + 1 < v1.heap.size := KR.out.lt
    have DX := Lib.hid (HX.out.ex Ev1.out)
    clear hv1
    refine (cacheValidS_c t A c _ DX.out hn hc).mono ?_; rintro r w1 ⟨rfl, hb1⟩
    have Y1 : Hid (Chg 0 0 v1 w1) := Lib.hid (Chg.of_ex hb1)
    have s1 : v1.heap.size ≤ w1.heap.size := Y1.out.size
    have Ew1 : Hid (Ex w w1) := Lib.hid (Ev1.out.chg Y1.out (by omega))
    clear hb1
    replace KX : Hid (Blk w1 (w.heap.size) 25 [.slice A t.lines.length c, .int .i64 t.hand]) := Lib.hid (KX.out.chg Y1.out (by omega))
    replace KR : Hid (Blk w1 (w.heap.size + 1) 25 [.slice none 0 0, .int .i64 0]) := Lib.hid (KR.out.chg Y1.out (by omega))
    replace DX := Lib.hid (HX.out.ex Ew1.out)
    obtain ⟨qX0, qX1⟩ := KX.out.c2
    have jX := KX.out.lt
    obtain ⟨qR0, qR1⟩ := KR.out.c2
    have jR := KR.out.lt
    have zR := KR.out.frozen
    rw [hv]
    go_wp2_with fail
    refine name_calls ?_; intro v2 hv2
    have X2 : Hid (Chg (0) (0) w1 v2) := Lib.hid (by rw [hv2]; repeat' (first | with_reducible exact Chg.refl _ _ _ | with_reducible refine Chg.alloc ?_ _ | with_reducible refine Chg.drew ?_ | with_reducible refine Chg.set ?_ (by omega) _))
    have t2 : w1.heap.size ≤ v2.heap.size := X2.out.size
    have Ev2 : Hid (Ex w v2) := Lib.hid (Ew1.out.chg X2.out (by omega))
    clear qX0 qX1 jX
    clear qR0 qR1 jR zR
    replace KX : Hid (Blk v2 (w.heap.size) 25 [.slice A t.lines.length c, .int .i64 t.hand]) := Lib.hid (KX.out.chg X2.out (by omega))
    replace KR : Hid (Blk v2 (w.heap.size + 1) 25 [.slice none 0 0, .int .i64 0]) := Lib.hid (KR.out.chg X2.out (by omega))
    replace DX := Lib.hid (HX.out.ex Ev2.out)
    clear hv2
    refine (l4Drop_c t 0 true A c _ DX.out hn hc hc2 h0).mono ?_; rintro r w2 ⟨A2, c2, rfl, hf2, hb2⟩
    have Y2 : Hid (Chg 0 0 v2 w2) := Lib.hid (Chg.of_ex hb2)
    have s2 : v2.heap.size ≤ w2.heap.size := Y2.out.size
    have Ew2 : Hid (Ex w w2) := Lib.hid (Ev2.out.chg Y2.out (by omega))
    clear hb2
    replace KX : Hid (Blk w2 (w.heap.size) 25 [.slice A t.lines.length c, .int .i64 t.hand]) := Lib.hid (KX.out.chg Y2.out (by omega))
    replace KR : Hid (Blk w2 (w.heap.size + 1) 25 [.slice none 0 0, .int .i64 0]) := Lib.hid (KR.out.chg Y2.out (by omega))
    replace DX := Lib.hid (HX.out.ex Ew2.out)
    have HF2 := Lib.hid hf2; clear hf2
    have WHF2 := Lib.hid HF2.out.row
    obtain ⟨qX0, qX1⟩ := KX.out.c2
    have jX := KX.out.lt
    obtain ⟨qR0, qR1⟩ := KR.out.c2
    have jR := KR.out.lt
    have zR := KR.out.frozen
    have HF3 : Hid (Fr 31 w2 v2.heap.size A2 c2 (dropIf t (fun _ => true)).lines) := Lib.hid (by rw [← HDD.out]; exact HF2.out)
    go_wp2
    exact bodyPost_ret (v := .tuple #[.agg #[.slice A2 t.lines.length c2, .int .i64 t.hand], .bool true]) (by simp [results, Try.results18, go_sem, qR0, qR1]) rfl
      ⟨A2, c2, by rw [HLN.out]; rfl, Fr.mono (B := v2.heap.size) (by repeat' (first | with_reducible exact HF3.out | with_reducible refine Fr.alloc ?_ _ | with_reducible refine Fr.drew ?_ | with_reducible refine Fr.set_below ?_ (by first | (simp; done) | (simp; omega)) _)) (by omega), (Ew2.out.set (Nat.le_add_right _ 1) _).set (Nat.le_add_right _ 1) _⟩

set_option maxHeartbeats 2000000 in
theorem dropAllI_c (t : CacheD) (A : Option Addr) (c : Nat) (w : World) (hx : Rd w A t.lines) (hn : t.lines.length ≤ 1048576) (hc : t.lines.length ≤ c) (hc2 : c ≤ maxLen) :
    Calls Try.prog 17 #[.agg #[.slice A t.lines.length c, .int .i64 t.hand]] w
    fun r w' => ∃ A' c', r = .returned (.tuple #[.agg #[.slice A' (dropAll t).1.lines.length c', .int .i64 (dropAll t).1.hand], .bool (dropAll t).2]) ∧ Fr 31 w' w.heap.size A' c' (dropAll t).1.lines ∧ Ex w w' := by
  have HX := Lib.hid hx
  clear hx
  unfold dropAll
  cases hv : cacheV t
  · simp only [Bool.false_eq_true, if_false]
    go_enter Try.func17, Try.ntmps17
    go_wp2_with fail
    refine name_calls ?_; intro v1 hv1
    have X1 : Hid (Chg (0) (0) w v1) := Lib.hid (by rw [hv1]; repeat' (first | with_reducible exact Chg.refl _ _ _ | with_reducible refine Chg.alloc ?_ _ | with_reducible refine Chg.drew ?_ | with_reducible refine Chg.set ?_ (by omega) _))
    have t1 : w.heap.size ≤ v1.heap.size := X1.out.size
    have Ev1 : Hid (Ex w v1) := Lib.hid ((Ex.refl w).chg X1.out (by omega))
    have KX : Hid (Blk v1 (w.heap.size) 25 [.slice A t.lines.length c, .int .i64 t.hand]) := Lib.hid (by rw [hv1]; repeat' (first | with_reducible exact Blk.new_at _ _ _ (by simp) | with_reducible refine Blk.alloc ?_ _ | with_reducible refine Blk.drew ?_ | with_reducible refine Blk.far ?_ (by simp; omega) _))
    have lX : w.heap.size < v1.heap.size := KX.out.lt
    have KR : Hid (Blk v1 (w.heap.size + 1) 25 [.slice none 0 0, .int .i64 0]) := Lib.hid (by rw [hv1]; repeat' (first | with_reducible exact Blk.new_at _ _ _ (by simp) | with_reducible refine Blk.alloc ?_ _ | with_reducible refine Blk.drew ?_ | with_reducible refine Blk.far ?_ (by simp; omega) _))
    have lR : w.heap.size + 1 < v1.heap.size := KR.out.lt
    have DX := Lib.hid (HX.out.ex Ev1.out)
    clear hv1
    refine (cacheValidI_c t A c _ DX.out hn hc).mono ?_; rintro r w1 ⟨rfl, hb1⟩
    have Y1 : Hid (Chg 0 0 v1 w1) := Lib.hid (Chg.of_ex hb1)
    have s1 : v1.heap.size ≤ w1.heap.size := Y1.out.size
    have Ew1 : Hid (Ex w w1) := Lib.hid (Ev1.out.chg Y1.out (by omega))
    clear hb1
    replace KX : Hid (Blk w1 (w.heap.size) 25 [.slice A t.lines.length c, .int .i64 t.hand]) := Lib.hid (KX.out.chg Y1.out (by omega))
    replace KR : Hid (Blk w1 (w.heap.size + 1) 25 [.slice none 0 0, .int .i64 0]) := Lib.hid (KR.out.chg Y1.out (by omega))
    replace DX := Lib.hid (HX.out.ex Ew1.out)
    obtain ⟨qX0, qX1⟩ := KX.out.c2
    have jX := KX.out.lt
    obtain ⟨qR0, qR1⟩ := KR.out.c2
    have jR := KR.out.lt
    have zR := KR.out.frozen
    rw [hv]
    go_wp2
    exact bodyPost_ret (v := .tuple #[.agg #[.slice none 0 0, .int .i64 0], .bool false]) (by simp [results, Try.results17, go_sem, qR0, qR1]) rfl
      ⟨none, 0, rfl, Fr.none_ _ _ _ _, (Ew1.out.set (Nat.le_add_right _ 1) _).set (Nat.le_add_right _ 1) _⟩
  · simp only [if_true]
    have h0 := cacheV_pos hv
    have HLN := Lib.hid (dropIf_len t (fun _ => true))
    go_enter Try.func17, Try.ntmps17
    go_wp2_with fail
    refine name_calls ?_; intro v1 hv1
    have X1 : Hid (Chg (0) (0) w v1) := Lib.hid (by rw [hv1]; repeat' (first | with_reducible exact Chg.refl _ _ _ | with_reducible refine Chg.alloc ?_ _ | with_reducible refine Chg.drew ?_ | with_reducible refine Chg.set ?_ (by omega) _))
    have t1 : w.heap.size ≤ v1.heap.size := X1.out.size
    have Ev1 : Hid (Ex w v1) := Lib.hid ((Ex.refl w).chg X1.out (by omega))
    have KX : Hid (Blk v1 (w.heap.size) 25 [.slice A t.lines.length c, .int .i64 t.hand]) := Lib.hid (by rw [hv1]; repeat' (first | with_reducible exact Blk.new_at _ _ _ (by simp) | with_reducible refine Blk.alloc ?_ _ | with_reducible refine Blk.drew ?_ | with_reducible refine Blk.far ?_ (by simp; omega) _))
    have lX : w.heap.size < v1.heap.size := KX.out.lt
    have KR : Hid (Blk v1 (w.heap.size + 1) 25 [.slice none 0 0, .int .i64 0]) := Lib.hid (by rw [hv1]; repeat' (first | with_reducible exact Blk.new_at _ _ _ (by simp) | with_reducible refine Blk.alloc ?_ _ | with_reducible refine Blk.drew ?_ | with_reducible refine Blk.far ?_ (by simp; omega) _))
    have lR : w.heap.size + 1 < v1.heap.size := KR.out.lt
    have DX := Lib.hid (HX.out.ex Ev1.out)
    clear hv1
    refine (cacheValidI_c t A c _ DX.out hn hc).mono ?_; rintro r w1 ⟨rfl, hb1⟩
    have Y1 : Hid (Chg 0 0 v1 w1) := Lib.hid (Chg.of_ex hb1)
    have s1 : v1.heap.size ≤ w1.heap.size := Y1.out.size
    have Ew1 : Hid (Ex w w1) := Lib.hid (Ev1.out.chg Y1.out (by omega))
    clear hb1
    replace KX : Hid (Blk w1 (w.heap.size) 25 [.slice A t.lines.length c, .int .i64 t.hand]) := Lib.hid (KX.out.chg Y1.out (by omega))
    replace KR : Hid (Blk w1 (w.heap.size + 1) 25 [.slice none 0 0, .int .i64 0]) := Lib.hid (KR.out.chg Y1.out (by omega))
    replace DX := Lib.hid (HX.out.ex Ew1.out)
    obtain ⟨qX0, qX1⟩ := KX.out.c2
    have jX := KX.out.lt
    obtain ⟨qR0, qR1⟩ := KR.out.c2
    have jR := KR.out.lt
    have zR := KR.out.frozen
    rw [hv]
    go_wp2_with fail
    refine name_calls ?_; intro v2 hv2
    have X2 : Hid (Chg (0) (0) w1 v2) := Lib.hid (by rw [hv2]; repeat' (first | with_reducible exact Chg.refl _ _ _ | with_reducible refine Chg.alloc ?_ _ | with_reducible refine Chg.drew ?_ | with_reducible refine Chg.set ?_ (by omega) _))
    have t2 : w1.heap.size ≤ v2.heap.size := X2.out.size
    have Ev2 : Hid (Ex w v2) := Lib.hid (Ew1.out.chg X2.out (by omega))
    clear qX0 qX1 jX
    clear qR0 qR1 jR zR
    replace KX : Hid (Blk v2 (w.heap.size) 25 [.slice A t.lines.length c, .int .i64 t.hand]) := Lib.hid (KX.out.chg X2.out (by omega))
    replace KR : Hid (Blk v2 (w.heap.size + 1) 25 [.slice none 0 0, .int .i64 0]) := Lib.hid (KR.out.chg X2.out (by omega))
    replace DX := Lib.hid (HX.out.ex Ev2.out)
    clear hv2
    refine (dropIfA_c t A c _ DX.out hn hc hc2 h0).mono ?_; rintro r w2 ⟨A2, rfl, hf2, hb2⟩
    have Y2 : Hid (Chg 0 0 v2 w2) := Lib.hid (Chg.of_ex hb2)
    have s2 : v2.heap.size ≤ w2.heap.size := Y2.out.size
    have Ew2 : Hid (Ex w w2) := Lib.hid (Ev2.out.chg Y2.out (by omega))
    clear hb2
    replace KX : Hid (Blk w2 (w.heap.size) 25 [.slice A t.lines.length c, .int .i64 t.hand]) := Lib.hid (KX.out.chg Y2.out (by omega))
    replace KR : Hid (Blk w2 (w.heap.size + 1) 25 [.slice none 0 0, .int .i64 0]) := Lib.hid (KR.out.chg Y2.out (by omega))
    replace DX := Lib.hid (HX.out.ex Ew2.out)
    have HF2 := Lib.hid hf2; clear hf2
    have WHF2 := Lib.hid HF2.out.row
    obtain ⟨qX0, qX1⟩ := KX.out.c2
    have jX := KX.out.lt
    obtain ⟨qR0, qR1⟩ := KR.out.c2
    have jR := KR.out.lt
    have zR := KR.out.frozen
    go_wp2
    exact bodyPost_ret (v := .tuple #[.agg #[.slice A2 t.lines.length t.lines.length, .int .i64 t.hand], .bool true]) (by simp [results, Try.results17, go_sem, qR0, qR1]) rfl
      ⟨A2, t.lines.length, by rw [HLN.out]; rfl, ((HF2.out.set_below (by simp; omega) _).set_below (by simp; omega) _).mono (by omega), (Ew2.out.set (Nat.le_add_right _ 1) _).set (Nat.le_add_right _ 1) _⟩
end Go.Proofs.Ytcaaficjcghheab
