/- DropTag of both sides: the walks. -/
import Derived.Test.YtcaaficjcghheabCr
import Derived.Test.YtcaaficjcghheabCqT
namespace Go.Proofs.Ytcaaficjcghheab
open Go.ChangeShapes Go.WideShapes Go.ChangeAt Go.RowKit
open Rec (sz cs)
set_option linter.unusedVariables false
set_option maxRecDepth 100000

set_option maxHeartbeats 2000000 in
theorem dropTagS_c (t : CacheD) (tag : Int) (A : Option Addr) (c : Nat) (w : World) (hx : Rd w A t.lines) (hn : t.lines.length ≤ 1048576) (hc : t.lines.length ≤ c) (hc2 : c ≤ maxLen) :
    Calls Try.prog 21 #[.agg #[.slice A t.lines.length c, .int .i64 t.hand], .int .i64 tag] w
    fun r w' => ∃ A' c', r = .returned (.tuple #[.agg #[.slice A' (dropTag t tag).1.lines.length c', .int .i64 (dropTag t tag).1.hand], .bool (dropTag t tag).2]) ∧ Fr 31 w' w.heap.size A' c' (dropTag t tag).1.lines ∧ Ex w w' := by
  have HX := Lib.hid hx
  clear hx
  unfold dropTag
  cases hv : cacheV t
  · simp only [Bool.false_and, Bool.false_eq_true, if_false]
    go_enter Try.func21, Try.ntmps21
    go_wp2_with fail
    refine name_calls ?_; intro v1 hv1
    have X1 : Hid (Chg (0) (0) w v1) := Lib.hid (by rw [hv1]; repeat' (first | with_reducible exact Chg.refl _ _ _ | with_reducible refine Chg.alloc ?_ _ | with_reducible refine Chg.drew ?_ | with_reducible refine Chg.set ?_ (by omega) _))
    have t1 : w.heap.size ≤ v1.heap.size := X1.out.size
    have Ev1 : Hid (Ex w v1) := Lib.hid ((Ex.refl w).chg X1.out (by omega))
    have KX : Hid (Blk v1 (w.heap.size) 25 [.slice A t.lines.length c, .int .i64 t.hand]) := Lib.hid (by rw [hv1]; repeat' (first | with_reducible exact Blk.new_at _ _ _ (by simp) | with_reducible refine Blk.alloc ?_ _ | with_reducible refine Blk.drew ?_ | with_reducible refine Blk.far ?_ (by simp; omega) _))
    have lX : w.heap.size < v1.heap.size := KX.out.lt
    have KR : Hid (Blk v1 (w.heap.size + 1) 25 [.slice none 0 0, .int .i64 0]) := Lib.hid (by rw [hv1]; repeat' (first | with_reducible exact Blk.new_at _ _ _ (by simp) | with_reducible refine Blk.alloc ?_ _ | with_reducible refine Blk.drew ?_ | with_reducible refine Blk.far ?_ (by simp; omega) _))
    have lR : w.heap.size + 1 < v1.heap.size := KR.out.lt
    have DX := Lib.hid (HX.out.ex Ev1.out)
    clear hv1
    refine (cacheValidS_c t A c _ DX.out hn hc).mono ?_; rintro r w1 ⟨rfl, hb1⟩
    have Y1 : Hid (Chg 0 0 v1 w1) := Lib.hid (Chg.of_ex hb1)
    have s1 : v1.heap.size ≤ w1.heap.size := Y1.out.size
    have Ew1 : Hid (Ex w w1) := Lib.hid (Ev1.out.chg Y1.out (by omega))
    clear hb1
    replace KX : Hid (Blk w1 (w.heap.size) 25 [.slice A t.lines.length c, .int .i64 t.hand]) := Lib.hid (KX.out.chg Y1.out (by omega))
    replace KR : Hid (Blk w1 (w.heap.size + 1) 25 [.slice none 0 0, .int .i64 0]) := Lib.hid (KR.out.chg Y1.out (by omega))
    replace DX := Lib.hid (HX.out.ex Ew1.out)
    obtain ⟨qX0, qX1⟩ := KX.out.c2
    have jX := KX.out.lt
    obtain ⟨qR0, qR1⟩ := KR.out.c2
    have jR := KR.out.lt
    have zR := KR.out.frozen
    rw [hv]
    go_wp2
    exact bodyPost_ret (v := .tuple #[.agg #[.slice none 0 0, .int .i64 0], .bool false]) (by simp [results, Try.results21, go_sem, qR0, qR1]) rfl
      ⟨none, 0, rfl, Fr.none_ _ _ _ _, (Ew1.out.set (Nat.le_add_right _ 1) _).set (Nat.le_add_right _ 1) _⟩
  cases ht : tagB tag
  · simp only [Bool.and_false, Bool.false_eq_true, if_false]
    go_enter Try.func21, Try.ntmps21
    go_wp2_with fail
    refine name_calls ?_; intro v1 hv1
    have X1 : Hid (Chg (0) (0) w v1) := Lib.hid (by rw [hv1]; repeat' (first | with_reducible exact Chg.refl _ _ _ | with_reducible refine Chg.alloc ?_ _ | with_reducible refine Chg.drew ?_ | with_reducible refine Chg.set ?_ (by omega) _))
    have t1 : w.heap.size ≤ v1.heap.size := X1.out.size
    have Ev1 : Hid (Ex w v1) := Lib.hid ((Ex.refl w).chg X1.out (by omega))
    have KX : Hid (Blk v1 (w.heap.size) 25 [.slice A t.lines.length c, .int .i64 t.hand]) := Lib.hid (by rw [hv1]; repeat' (first | with_reducible exact Blk.new_at _ _ _ (by simp) | with_reducible refine Blk.alloc ?_ _ | with_reducible refine Blk.drew ?_ | with_reducible refine Blk.far ?_ (by simp; omega) _))
    have lX : w.heap.size < v1.heap.size := KX.out.lt
    have KR : Hid (Blk v1 (w.heap.size + 1) 25 [.slice none 0 0, .int .i64 0]) := Lib.hid (by rw [hv1]; repeat' (first | with_reducible exact Blk.new_at _ _ _ (by simp) | with_reducible refine Blk.alloc ?_ _ | with_reducible refine Blk.drew ?_ | with_reducible refine Blk.far ?_ (by simp; omega) _))
    have lR : w.heap.size + 1 < v1.heap.size := KR.out.lt
    have DX := Lib.hid (HX.out.ex Ev1.out)
    clear hv1
    refine (cacheValidS_c t A c _ DX.out hn hc).mono ?_; rintro r w1 ⟨rfl, hb1⟩
    have Y1 : Hid (Chg 0 0 v1 w1) := Lib.hid (Chg.of_ex hb1)
    have s1 : v1.heap.size ≤ w1.heap.size := Y1.out.size
    have Ew1 : Hid (Ex w w1) := Lib.hid (Ev1.out.chg Y1.out (by omega))
    clear hb1
    replace KX : Hid (Blk w1 (w.heap.size) 25 [.slice A t.lines.length c, .int .i64 t.hand]) := Lib.hid (KX.out.chg Y1.out (by omega))
    replace KR : Hid (Blk w1 (w.heap.size + 1) 25 [.slice none 0 0, .int .i64 0]) := Lib.hid (KR.out.chg Y1.out (by omega))
    replace DX := Lib.hid (HX.out.ex Ew1.out)
    obtain ⟨qX0, qX1⟩ := KX.out.c2
    have jX := KX.out.lt
    obtain ⟨qR0, qR1⟩ := KR.out.c2
    have jR := KR.out.lt
    have zR := KR.out.frozen
    rw [hv]
    go_wp2_with fail
    refine (l4Tag_c tag _).mono ?_; rintro r wq2 ⟨rfl, rfl⟩
    rw [ht]
    go_wp2
    exact bodyPost_ret (v := .tuple #[.agg #[.slice none 0 0, .int .i64 0], .bool false]) (by simp [results, Try.results21, go_sem, qR0, qR1]) rfl
      ⟨none, 0, rfl, Fr.none_ _ _ _ _, (Ew1.out.set (Nat.le_add_right _ 1) _).set (Nat.le_add_right _ 1) _⟩
  · simp only [Bool.and_true, if_true]
    have h0 := cacheV_pos hv
    have HLN := Lib.hid (dropIf_len t (fun x => x.tag == tag))
    have HDD : Hid (dropIf t (fun x => false || (x.tag == tag)) = dropIf t (fun x => x.tag == tag)) := Lib.hid (by simp)
    go_enter Try.func21, Try.ntmps21
    go_wp2_with fail
    refine name_calls ?_; intro v1 hv1
    have X1 : Hid (Chg (0) (0) w v1) := Lib.hid (by rw [hv1]; repeat' (first | with_reducible exact Chg.refl _ _ _ | with_reducible refine Chg.alloc ?_ _ | with_reducible refine Chg.drew ?_ | with_reducible refine Chg.set ?_ (by omega) _))
    have t1 : w.heap.size ≤ v1.heap.size := X1.out.size
    have Ev1 : Hid (Ex w v1) := Lib.hid ((Ex.refl w).chg X1.out (by omega))
    have KX : Hid (Blk v1 (w.heap.size) 25 [.slice A t.lines.length c, .int .i64 t.hand]) := Lib.hid (by rw [hv1]; repeat' (first | with_reducible exact Blk.new_at _ _ _ (by simp) | with_reducible refine Blk.alloc ?_ _ | with_reducible refine Blk.drew ?_ | with_reducible refine Blk.far ?_ (by simp; omega) _))
    have lX : w.heap.size < v1.heap.size := KX.out.lt
    have KR : Hid (Blk v1 (w.heap.size + 1) 25 [.slice none 0 0, .int .i64 0]) := Lib.hid (by rw [hv1]; repeat' (first | with_reducible exact Blk.new_at _ _ _ (by simp) | with_reducible refine Blk.alloc ?_ _ | with_reducible refine Blk.drew ?_ | with_reducible refine Blk.far ?_ (by simp; omega) _))
    have lR : w.heap.size + 1 < v1.heap.size := KR.out.lt
    have DX := Lib.hid (HX.out.ex Ev1.out)
    clear hv1
    refine (cacheValidS_c t A c _ DX.out hn hc).mono ?_; rintro r w1 ⟨rfl, hb1⟩
    have Y1 : Hid (Chg 0 0 v1 w1) := Lib.hid (Chg.of_ex hb1)
    have s1 : v1.heap.size ≤ w1.heap.size := Y1.out.size
    have Ew1 : Hid (Ex w w1) := Lib.hid (Ev1.out.chg Y1.out (by omega))
    clear hb1
    replace KX : Hid (Blk w1 (w.heap.size) 25 [.slice A t.lines.length c, .int .i64 t.hand]) := Lib.hid (KX.out.chg Y1.out (by omega))
    replace KR : Hid (Blk w1 (w.heap.size + 1) 25 [.slice none 0 0, .int .i64 0]) := Lib.hid (KR.out.chg Y1.out (by omega))
    replace DX := Lib.hid (HX.out.ex Ew1.out)
    obtain ⟨qX0, qX1⟩ := KX.out.c2
    have jX := KX.out.lt
    obtain ⟨qR0, qR1⟩ := KR.out.c2
    have jR := KR.out.lt
    have zR := KR.out.frozen
    rw [hv]
    go_wp2_with fail
    refine (l4Tag_c tag _).mono ?_; rintro r wq2 ⟨rfl, rfl⟩
    rw [ht]
    go_wp2_with fail
    refine name_calls ?_; intro v3 hv3
    have X3 : Hid (Chg (0) (0) w1 v3) := Lib.hid (by rw [hv3]; repeat' (first | with_reducible exact Chg.refl _ _ _ | with_reducible refine Chg.alloc ?_ _ | with_reducible refine Chg.drew ?_ | with_reducible refine Chg.set ?_ (by omega) _))
    have t3 : w1.heap.size ≤ v3.heap.size := X3.out.size
    have Ev3 : Hid (Ex w v3) := Lib.hid (Ew1.out.chg X3.out (by omega))
    clear qX0 qX1 jX
    clear qR0 qR1 jR zR
    replace KX : Hid (Blk v3 (w.heap.size) 25 [.slice A t.lines.length c, .int .i64 t.hand]) := Lib.hid (KX.out.chg X3.out (by omega))
    replace KR : Hid (Blk v3 (w.heap.size + 1) 25 [.slice none 0 0, .int .i64 0]) := Lib.hid (KR.out.chg X3.out (by omega))
    replace DX := Lib.hid (HX.out.ex Ev3.out)
    clear hv3
    refine (l4Drop_c t tag false A c _ DX.out hn hc hc2 h0).mono ?_; rintro r w3 ⟨A2, c2, rfl, hf2, hb3⟩
    have Y3 : Hid (Chg 0 0 v3 w3) := Lib.hid (Chg.of_ex hb3)
    have s3 : v3.heap.size ≤ w3.heap.size := Y3.out.size
    have Ew3 : Hid (Ex w w3) := Lib.hid (Ev3.out.chg Y3.out (by omega))
    clear hb3
    replace KX : Hid (Blk w3 (w.heap.size) 25 [.slice A t.lines.length c, .int .i64 t.hand]) := Lib.hid (KX.out.chg Y3.out (by omega))
    replace KR : Hid (Blk w3 (w.heap.size + 1) 25 [.slice none 0 0, .int .i64 0]) := Lib.hid (KR.out.chg Y3.out (by omega))
    replace DX := Lib.hid (HX.out.ex Ew3.out)
    have HF2 := Lib.hid hf2; clear hf2
    have WHF2 := Lib.hid HF2.out.row
    obtain ⟨qX0, qX1⟩ := KX.out.c2
    have jX := KX.out.lt
    obtain ⟨qR0, qR1⟩ := KR.out.c2
    have jR := KR.out.lt
    have zR := KR.out.frozen
    have HF3 : Hid (Fr 31 w3 v3.heap.size A2 c2 (dropIf t (fun x => x.tag == tag)).lines) := Lib.hid (by rw [← HDD.out]; exact HF2.out)
    go_wp2
    exact bodyPost_ret (v := .tuple #[.agg #[.slice A2 t.lines.length c2, .int .i64 t.hand], .bool true]) (by simp [results, Try.results21, go_sem, qR0, qR1]) rfl
      ⟨A2, c2, by rw [HLN.out]; rfl, Fr.mono (B := v3.heap.size) (by repeat' (first | with_reducible exact HF3.out | with_reducible refine Fr.alloc ?_ _ | with_reducible refine Fr.drew ?_ | with_reducible refine Fr.set_below ?_ (by first | (simp; done) | (simp; omega)) _)) (by omega), (Ew3.out.set (Nat.le_add_right _ 1) _).set (Nat.le_add_right _ 1) _⟩

set_option maxHeartbeats 2000000 in
theorem dropTagI_c (t : CacheD) (tag : Int) (A : Option Addr) (c : Nat) (w : World) (hx : Rd w A t.lines) (hn : t.lines.length ≤ 1048576) (hc : t.lines.length ≤ c) (hc2 : c ≤ maxLen) :
    Calls Try.prog 23 #[.agg #[.slice A t.lines.length c, .int .i64 t.hand], .int .i64 tag] w
    fun r w' => ∃ A' c', r = .returned (.tuple #[.agg #[.slice A' (dropTag t tag).1.lines.length c', .int .i64 (dropTag t tag).1.hand], .bool (dropTag t tag).2]) ∧ Fr 31 w' w.heap.size A' c' (dropTag t tag).1.lines ∧ Ex w w' := by
  have HX := Lib.hid hx
  clear hx
  unfold dropTag
  have hmf : ∀ (fn : Fn) (first cap : Array Value) (w : World), (Instr.makeFunc fn first cap).run Try.prog w = .ok (.func fn first cap) w := fun _ _ _ _ => rfl
  cases hv : cacheV t
  · simp only [Bool.false_and, Bool.false_eq_true, if_false]
    go_enter Try.func23, Try.ntmps23
    go_wp2_with fail
    refine name_calls ?_; intro v1 hv1
    have X1 : Hid (Chg (0) (0) w v1) := Lib.hid (by rw [hv1]; repeat' (first | with_reducible exact Chg.refl _ _ _ | with_reducible refine Chg.alloc ?_ _ | with_reducible refine Chg.drew ?_ | with_reducible refine Chg.set ?_ (by omega) _))
    have t1 : w.heap.size ≤ v1.heap.size := X1.out.size
    have Ev1 : Hid (Ex w v1) := Lib.hid ((Ex.refl w).chg X1.out (by omega))
    have KX : Hid (Blk v1 (w.heap.size) 25 [.slice A t.lines.length c, .int .i64 t.hand]) := Lib.hid (by rw [hv1]; repeat' (first | with_reducible exact Blk.new_at _ _ _ (by simp) | with_reducible refine Blk.alloc ?_ _ | with_reducible refine Blk.drew ?_ | with_reducible refine Blk.far ?_ (by simp; omega) _))
    have lX : w.heap.size < v1.heap.size := KX.out.lt
    have KT : Hid (Blk v1 (w.heap.size + 1) 3 [.int .i64 tag]) := Lib.hid (by rw [hv1]; repeat' (first | with_reducible exact Blk.new_at _ _ _ (by simp) | with_reducible refine Blk.alloc ?_ _ | with_reducible refine Blk.drew ?_ | with_reducible refine Blk.far ?_ (by simp; omega) _))
    have lT : w.heap.size + 1 < v1.heap.size := KT.out.lt
    have KR : Hid (Blk v1 (w.heap.size + 1 + 1) 25 [.slice none 0 0, .int .i64 0]) := Lib.hid (by rw [hv1]; repeat' (first | with_reducible exact Blk.new_at _ _ _ (by simp) | with_reducible refine Blk.alloc ?_ _ | with_reducible refine Blk.drew ?_ | with_reducible refine Blk.far ?_ (by simp; omega) _))
    have lR : w.heap.size + 1 + 1 < v1.heap.size := KR.out.lt
    have DX := Lib.hid (HX.out.ex Ev1.out)
    clear hv1
    refine (cacheValidI_c t A c _ DX.out hn hc).mono ?_; rintro r w1 ⟨rfl, hb1⟩
    have Y1 : Hid (Chg 0 0 v1 w1) := Lib.hid (Chg.of_ex hb1)
    have s1 : v1.heap.size ≤ w1.heap.size := Y1.out.size
    have Ew1 : Hid (Ex w w1) := Lib.hid (Ev1.out.chg Y1.out (by omega))
    clear hb1
    replace KX : Hid (Blk w1 (w.heap.size) 25 [.slice A t.lines.length c, .int .i64 t.hand]) := Lib.hid (KX.out.chg Y1.out (by omega))
    replace KT : Hid (Blk w1 (w.heap.size + 1) 3 [.int .i64 tag]) := Lib.hid (KT.out.chg Y1.out (by omega))
    replace KR : Hid (Blk w1 (w.heap.size + 1 + 1) 25 [.slice none 0 0, .int .i64 0]) := Lib.hid (KR.out.chg Y1.out (by omega))
    replace DX := Lib.hid (HX.out.ex Ew1.out)
    obtain ⟨qX0, qX1⟩ := KX.out.c2
    have jX := KX.out.lt
    have qT0 := KT.out.c1
    have jT := KT.out.lt
    obtain ⟨qR0, qR1⟩ := KR.out.c2
    have jR := KR.out.lt
    have zR := KR.out.frozen
    rw [hv]
    go_wp2
    exact bodyPost_ret (v := .tuple #[.agg #[.slice none 0 0, .int .i64 0], .bool false]) (by simp [results, Try.results23, go_sem, qR0, qR1]) rfl
      ⟨none, 0, rfl, Fr.none_ _ _ _ _, (Ew1.out.set (Nat.le_add_right _ 2) _).set (Nat.le_add_right _ 2) _⟩
  cases ht : tagB tag
  · simp only [Bool.and_false, Bool.false_eq_true, if_false]
    go_enter Try.func23, Try.ntmps23
    go_wp2_with fail
    refine name_calls ?_; intro v1 hv1
    have X1 : Hid (Chg (0) (0) w v1) := Lib.hid (by rw [hv1]; repeat' (first | with_reducible exact Chg.refl _ _ _ | with_reducible refine Chg.alloc ?_ _ | with_reducible refine Chg.drew ?_ | with_reducible refine Chg.set ?_ (by omega) _))
    have t1 : w.heap.size ≤ v1.heap.size := X1.out.size
    have Ev1 : Hid (Ex w v1) := Lib.hid ((Ex.refl w).chg X1.out (by omega))
    have KX : Hid (Blk v1 (w.heap.size) 25 [.slice A t.lines.length c, .int .i64 t.hand]) := Lib.hid (by rw [hv1]; repeat' (first | with_reducible exact Blk.new_at _ _ _ (by simp) | with_reducible refine Blk.alloc ?_ _ | with_reducible refine Blk.drew ?_ | with_reducible refine Blk.far ?_ (by simp; omega) _))
    have lX : w.heap.size < v1.heap.size := KX.out.lt
    have KT : Hid (Blk v1 (w.heap.size + 1) 3 [.int .i64 tag]) := Lib.hid (by rw [hv1]; repeat' (first | with_reducible exact Blk.new_at _ _ _ (by simp) | with_reducible refine Blk.alloc ?_ _ | with_reducible refine Blk.drew ?_ | with_reducible refine Blk.far ?_ (by simp; omega) _))
    have lT : w.heap.size + 1 < v1.heap.size := KT.out.lt
    have KR : Hid (Blk v1 (w.heap.size + 1 + 1) 25 [.slice none 0 0, .int .i64 0]) := Lib.hid (by rw [hv1]; repeat' (first | with_reducible exact Blk.new_at _ _ _ (by simp) | with_reducible refine Blk.alloc ?_ _ | with_reducible refine Blk.drew ?_ | with_reducible refine Blk.far ?_ (by simp; omega) _))
    have lR : w.heap.size + 1 + 1 < v1.heap.size := KR.out.lt
    have DX := Lib.hid (HX.out.ex Ev1.out)
    clear hv1
    refine (cacheValidI_c t A c _ DX.out hn hc).mono ?_; rintro r w1 ⟨rfl, hb1⟩
    have Y1 : Hid (Chg 0 0 v1 w1) := Lib.hid (Chg.of_ex hb1)
    have s1 : v1.heap.size ≤ w1.heap.size := Y1.out.size
    have Ew1 : Hid (Ex w w1) := Lib.hid (Ev1.out.chg Y1.out (by omega))
    clear hb1
    replace KX : Hid (Blk w1 (w.heap.size) 25 [.slice A t.lines.length c, .int .i64 t.hand]) := Lib.hid (KX.out.chg Y1.out (by omega))
    replace KT : Hid (Blk w1 (w.heap.size + 1) 3 [.int .i64 tag]) := Lib.hid (KT.out.chg Y1.out (by omega))
    replace KR : Hid (Blk w1 (w.heap.size + 1 + 1) 25 [.slice none 0 0, .int .i64 0]) := Lib.hid (KR.out.chg Y1.out (by omega))
    replace DX := Lib.hid (HX.out.ex Ew1.out)
    obtain ⟨qX0, qX1⟩ := KX.out.c2
    have jX := KX.out.lt
    have qT0 := KT.out.c1
    have jT := KT.out.lt
    obtain ⟨qR0, qR1⟩ := KR.out.c2
    have jR := KR.out.lt
    have zR := KR.out.frozen
    rw [hv]
    go_wp2_with fail
    refine (tagValid_c tag _).mono ?_; rintro r wq2 ⟨rfl, rfl⟩
    rw [ht]
    go_wp2
    exact bodyPost_ret (v := .tuple #[.agg #[.slice none 0 0, .int .i64 0], .bool false]) (by simp [results, Try.results23, go_sem, qR0, qR1]) rfl
      ⟨none, 0, rfl, Fr.none_ _ _ _ _, (Ew1.out.set (Nat.le_add_right _ 2) _).set (Nat.le_add_right _ 2) _⟩
  · simp only [Bool.and_true, if_true]
    have h0 := cacheV_pos hv
    have HLN := Lib.hid (dropIf_len t (fun x => x.tag == tag))
    go_enter Try.func23, Try.ntmps23
    go_wp2_with fail
    refine name_calls ?_; intro v1 hv1
    have X1 : Hid (Chg (0) (0) w v1) := Lib.hid (by rw [hv1]; repeat' (first | with_reducible exact Chg.refl _ _ _ | with_reducible refine Chg.alloc ?_ _ | with_reducible refine Chg.drew ?_ | with_reducible refine Chg.set ?_ (by omega) _))
    have t1 : w.heap.size ≤ v1.heap.size := X1.out.size
    have Ev1 : Hid (Ex w v1) := Lib.hid ((Ex.refl w).chg X1.out (by omega))
    have KX : Hid (Blk v1 (w.heap.size) 25 [.slice A t.lines.length c, .int .i64 t.hand]) := Lib.hid (by rw [hv1]; repeat' (first | with_reducible exact Blk.new_at _ _ _ (by simp) | with_reducible refine Blk.alloc ?_ _ | with_reducible refine Blk.drew ?_ | with_reducible refine Blk.far ?_ (by simp; omega) _))
    have lX : w.heap.size < v1.heap.size := KX.out.lt
    have KT : Hid (Blk v1 (w.heap.size + 1) 3 [.int .i64 tag]) := Lib.hid (by rw [hv1]; repeat' (first | with_reducible exact Blk.new_at _ _ _ (by simp) | with_reducible refine Blk.alloc ?_ _ | with_reducible refine Blk.drew ?_ | with_reducible refine Blk.far ?_ (by simp; omega) _))
    have lT : w.heap.size + 1 < v1.heap.size := KT.out.lt
    have KR : Hid (Blk v1 (w.heap.size + 1 + 1) 25 [.slice none 0 0, .int .i64 0]) := Lib.hid (by rw [hv1]; repeat' (first | with_reducible exact Blk.new_at _ _ _ (by simp) | with_reducible refine Blk.alloc ?_ _ | with_reducible refine Blk.drew ?_ | with_reducible refine Blk.far ?_ (by simp; omega) _))
    have lR : w.heap.size + 1 + 1 < v1.heap.size := KR.out.lt
    have DX := Lib.hid (HX.out.ex Ev1.out)
    clear hv1
    refine (cacheValidI_c t A c _ DX.out hn hc).mono ?_; rintro r w1 ⟨rfl, hb1⟩
    have Y1 : Hid (Chg 0 0 v1 w1) := Lib.hid (Chg.of_ex hb1)
    have s1 : v1.heap.size ≤ w1.heap.size := Y1.out.size
    have Ew1 : Hid (Ex w w1) := Lib.hid (Ev1.out.chg Y1.out (by omega))
    clear hb1
    replace KX : Hid (Blk w1 (w.heap.size) 25 [.slice A t.lines.length c, .int .i64 t.hand]) := Lib.hid (KX.out.chg Y1.out (by omega))
    replace KT : Hid (Blk w1 (w.heap.size + 1) 3 [.int .i64 tag]) := Lib.hid (KT.out.chg Y1.out (by omega))
    replace KR : Hid (Blk w1 (w.heap.size + 1 + 1) 25 [.slice none 0 0, .int .i64 0]) := Lib.hid (KR.out.chg Y1.out (by omega))
    replace DX := Lib.hid (HX.out.ex Ew1.out)
    obtain ⟨qX0, qX1⟩ := KX.out.c2
    have jX := KX.out.lt
    have qT0 := KT.out.c1
    have jT := KT.out.lt
    obtain ⟨qR0, qR1⟩ := KR.out.c2
    have jR := KR.out.lt
    have zR := KR.out.frozen
    rw [hv]
    go_wp2_with fail
    refine (tagValid_c tag _).mono ?_; rintro r wq2 ⟨rfl, rfl⟩
    rw [ht]
    go_wp2_with fail
    refine name_calls ?_; intro v3 hv3
    have X3 : Hid (Chg (0) (0) w1 v3) := Lib.hid (by rw [hv3]; repeat' (first | with_reducible exact Chg.refl _ _ _ | with_reducible refine Chg.alloc ?_ _ | with_reducible refine Chg.drew ?_ | with_reducible refine Chg.set ?_ (by omega) _))
    have t3 : w1.heap.size ≤ v3.heap.size := X3.out.size
    have Ev3 : Hid (Ex w v3) := Lib.hid (Ew1.out.chg X3.out (by omega))
    clear qX0 qX1 jX
    clear qT0 jT
    clear qR0 qR1 jR zR
    replace KX : Hid (Blk v3 (w.heap.size) 25 [.slice A t.lines.length c, .int .i64 t.hand]) := Lib.hid (KX.out.chg X3.out (by omega))
    replace KT : Hid (Blk v3 (w.heap.size + 1) 3 [.int .i64 tag]) := Lib.hid (KT.out.chg X3.out (by omega))
    replace KR : Hid (Blk v3 (w.heap.size + 1 + 1) 25 [.slice none 0 0, .int .i64 0]) := Lib.hid (KR.out.chg X3.out (by omega))
    replace DX := Lib.hid (HX.out.ex Ev3.out)
    clear hv3
    refine (dropIfT_c t tag _ A c _ DX.out hn hc hc2 h0 KT.out).mono ?_; rintro r w3 ⟨A2, rfl, hf2, hb3⟩
    have Y3 : Hid (Chg 0 0 v3 w3) := Lib.hid (Chg.of_ex hb3)
    have s3 : v3.heap.size ≤ w3.heap.size := Y3.out.size
    have Ew3 : Hid (Ex w w3) := Lib.hid (Ev3.out.chg Y3.out (by omega))
    clear hb3
    replace KX : Hid (Blk w3 (w.heap.size) 25 [.slice A t.lines.length c, .int .i64 t.hand]) := Lib.hid (KX.out.chg Y3.out (by omega))
    replace KT : Hid (Blk w3 (w.heap.size + 1) 3 [.int .i64 tag]) := Lib.hid (KT.out.chg Y3.out (by omega))
    replace KR : Hid (Blk w3 (w.heap.size + 1 + 1) 25 [.slice none 0 0, .int .i64 0]) := Lib.hid (KR.out.chg Y3.out (by omega))
    replace DX := Lib.hid (HX.out.ex Ew3.out)
    have HF2 := Lib.hid hf2; clear hf2
    have WHF2 := Lib.hid HF2.out.row
    obtain ⟨qX0, qX1⟩ := KX.out.c2
    have jX := KX.out.lt
    have qT0 := KT.out.c1
    have jT := KT.out.lt
    obtain ⟨qR0, qR1⟩ := KR.out.c2
    have jR := KR.out.lt
    have zR := KR.out.frozen
    go_wp2
    exact bodyPost_ret (v := .tuple #[.agg #[.slice A2 t.lines.length t.lines.length, .int .i64 t.hand], .bool true]) (by simp [results, Try.results23, go_sem, qR0, qR1]) rfl
      ⟨A2, t.lines.length, by rw [HLN.out]; rfl, ((HF2.out.set_below (by simp; omega) _).set_below (by simp; omega) _).mono (by omega), (Ew3.out.set (Nat.le_add_right _ 2) _).set (Nat.le_add_right _ 2) _⟩
end Go.Proofs.Ytcaaficjcghheab
