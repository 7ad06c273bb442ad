/- TakeTag of the program: the walk. -/
import Derived.Test.YtkoegcalfibinaaDoorTx
import Derived.Test.YtkoegcalfibinaaDoorTh
import Derived.RegionTactic
import Derived.ChangeAlike
namespace Go.Proofs.YtkoegcalfibinaaDoor
open Go.ChangeShapes Go.WideShapes Go.ChangeAt Go.RowKit
open Rec (sz cs)
set_option linter.unusedVariables false
set_option maxRecDepth 100000


set_option maxHeartbeats 4000000 in
theorem takeTagI_c (t : TagsD) (s : Int) (A : Option Addr) (c : Nat) (w : World) (hx : Rd w A t.owns) (hn : t.owns.length ≤ 1048576) (hc : t.owns.length ≤ c) (hc2 : c ≤ maxLen) :
    Calls Tryd.prog 42 #[.agg #[.int .i64 t.count, .int .i64 t.next, .int .i64 t.round, .slice A t.owns.length c], .int .i64 s] w
    fun r w' => ∃ A' c', r = .returned (.tuple #[.agg #[.int .i64 (takeTag t s).1.count, .int .i64 (takeTag t s).1.next, .int .i64 (takeTag t s).1.round, .slice A' (takeTag t s).1.owns.length c'], .int .i64 (takeTag t s).2.1, .bool (takeTag t s).2.2.1, .bool (takeTag t s).2.2.2]) ∧ Fr 129 w' w.heap.size A' c' (takeTag t s).1.owns ∧ Ex w w' := by
  have HX := Lib.hid hx
  have C1 := Lib.hid (ownI_c t s)
  clear hx
  obtain ⟨i0, hi, hz0, hz1, hz2⟩ := info_parts infoOwn
  cases hv : tagsV t
  · have e : takeTag t s = (noTags, 0, false, false) := if_neg (fun h => by rw [hv] at h; cases h.1)
    rw [e]
    clear e
    go_enter Tryd.func42, Tryd.ntmps42
    go_wp2_with fail
    refine name_calls ?_; intro v1 hv1
    have X1 : Hid (Chg (0) (0) w v1) := Lib.hid (by rw [hv1]; repeat' (first | with_reducible exact Chg.refl _ _ _ | with_reducible refine Chg.alloc ?_ _ | with_reducible refine Chg.drew ?_ | with_reducible refine Chg.set ?_ (by omega) _))
    have t1 : w.heap.size ≤ v1.heap.size := X1.out.size
    have Ev1 : Hid (Ex w v1) := Lib.hid ((Ex.refl w).chg X1.out (by omega))
    have KX : Hid (Blk v1 (w.heap.size) 39 [.int .i64 t.count, .int .i64 t.next, .int .i64 t.round, .slice A t.owns.length c]) := Lib.hid (by rw [hv1]; repeat' (first | with_reducible exact Blk.new_at _ _ _ (by simp) | with_reducible refine Blk.alloc ?_ _ | with_reducible refine Blk.drew ?_ | with_reducible refine Blk.far ?_ (by simp; omega) _))
    have lX : w.heap.size < v1.heap.size := KX.out.lt
    have KR : Hid (Blk v1 (w.heap.size + 1) 39 [.int .i64 0, .int .i64 0, .int .i64 0, .slice none 0 0]) := Lib.hid (by rw [hv1]; repeat' (first | with_reducible exact Blk.new_at _ _ _ (by simp) | with_reducible refine Blk.alloc ?_ _ | with_reducible refine Blk.drew ?_ | with_reducible refine Blk.far ?_ (by simp; omega) _))
    have lR : w.heap.size + 1 < v1.heap.size := KR.out.lt
    have DX := Lib.hid (HX.out.ex Ev1.out)
    clear hv1
    refine (tagsValidI_c t A c _ DX.out hn hc).mono ?_; rintro r w1 ⟨rfl, hb1⟩
    have Y1 : Hid (Chg 0 0 v1 w1) := Lib.hid (Chg.of_ex hb1)
    have s1 : v1.heap.size ≤ w1.heap.size := Y1.out.size
    have Ew1 : Hid (Ex w w1) := Lib.hid (Ev1.out.chg Y1.out (by omega))
    clear hb1
    replace KX : Hid (Blk w1 (w.heap.size) 39 [.int .i64 t.count, .int .i64 t.next, .int .i64 t.round, .slice A t.owns.length c]) := Lib.hid (KX.out.chg Y1.out (by omega))
    replace KR : Hid (Blk w1 (w.heap.size + 1) 39 [.int .i64 0, .int .i64 0, .int .i64 0, .slice none 0 0]) := Lib.hid (KR.out.chg Y1.out (by omega))
    replace DX := Lib.hid (HX.out.ex Ew1.out)
    obtain ⟨qX0, qX1, qX2, qX3⟩ := KX.out.c4
    have jX := KX.out.lt
    obtain ⟨qR0, qR1, qR2, qR3⟩ := KR.out.c4
    have jR := KR.out.lt
    have zR := KR.out.frozen
    rw [hv]
    go_wp2
    exact bodyPost_ret (v := .tuple #[.agg #[.int .i64 0, .int .i64 0, .int .i64 0, .slice none 0 0], .int .i64 0, .bool false, .bool false]) (by first | (simp [results, Tryd.results42, go_sem, qR0, qR1]; done) | (simp [results, Tryd.results42, go_sem, qR0, qR1, qR2, qR3]; done)) rfl
      ⟨none, 0, rfl, Fr.none_ _ _ _ _, (by repeat' (first | with_reducible exact Ew1.out | with_reducible refine Ex.alloc ?_ _ | with_reducible refine Ex.drew ?_ | with_reducible refine Ex.put ?_ (by omega) _))⟩
  cases hb : inB s 16
  · have e : takeTag t s = (noTags, 0, false, false) := if_neg (fun h => by rw [hb] at h; cases h.2)
    rw [e]
    clear e
    go_enter Tryd.func42, Tryd.ntmps42
    go_wp2_with fail
    refine name_calls ?_; intro v1 hv1
    have X1 : Hid (Chg (0) (0) w v1) := Lib.hid (by rw [hv1]; repeat' (first | with_reducible exact Chg.refl _ _ _ | with_reducible refine Chg.alloc ?_ _ | with_reducible refine Chg.drew ?_ | with_reducible refine Chg.set ?_ (by omega) _))
    have t1 : w.heap.size ≤ v1.heap.size := X1.out.size
    have Ev1 : Hid (Ex w v1) := Lib.hid ((Ex.refl w).chg X1.out (by omega))
    have KX : Hid (Blk v1 (w.heap.size) 39 [.int .i64 t.count, .int .i64 t.next, .int .i64 t.round, .slice A t.owns.length c]) := Lib.hid (by rw [hv1]; repeat' (first | with_reducible exact Blk.new_at _ _ _ (by simp) | with_reducible refine Blk.alloc ?_ _ | with_reducible refine Blk.drew ?_ | with_reducible refine Blk.far ?_ (by simp; omega) _))
    have lX : w.heap.size < v1.heap.size := KX.out.lt
    have KR : Hid (Blk v1 (w.heap.size + 1) 39 [.int .i64 0, .int .i64 0, .int .i64 0, .slice none 0 0]) := Lib.hid (by rw [hv1]; repeat' (first | with_reducible exact Blk.new_at _ _ _ (by simp) | with_reducible refine Blk.alloc ?_ _ | with_reducible refine Blk.drew ?_ | with_reducible refine Blk.far ?_ (by simp; omega) _))
    have lR : w.heap.size + 1 < v1.heap.size := KR.out.lt
    have DX := Lib.hid (HX.out.ex Ev1.out)
    clear hv1
    refine (tagsValidI_c t A c _ DX.out hn hc).mono ?_; rintro r w1 ⟨rfl, hb1⟩
    have Y1 : Hid (Chg 0 0 v1 w1) := Lib.hid (Chg.of_ex hb1)
    have s1 : v1.heap.size ≤ w1.heap.size := Y1.out.size
    have Ew1 : Hid (Ex w w1) := Lib.hid (Ev1.out.chg Y1.out (by omega))
    clear hb1
    replace KX : Hid (Blk w1 (w.heap.size) 39 [.int .i64 t.count, .int .i64 t.next, .int .i64 t.round, .slice A t.owns.length c]) := Lib.hid (KX.out.chg Y1.out (by omega))
    replace KR : Hid (Blk w1 (w.heap.size + 1) 39 [.int .i64 0, .int .i64 0, .int .i64 0, .slice none 0 0]) := Lib.hid (KR.out.chg Y1.out (by omega))
    replace DX := Lib.hid (HX.out.ex Ew1.out)
    obtain ⟨qX0, qX1, qX2, qX3⟩ := KX.out.c4
    have jX := KX.out.lt
    obtain ⟨qR0, qR1, qR2, qR3⟩ := KR.out.c4
    have jR := KR.out.lt
    have zR := KR.out.frozen
    rw [hv]
    go_wp2_with fail
    refine (within_c s 16 _).mono ?_; rintro r wq2 ⟨rfl, rfl⟩
    rw [hb]
    go_wp2
    exact bodyPost_ret (v := .tuple #[.agg #[.int .i64 0, .int .i64 0, .int .i64 0, .slice none 0 0], .int .i64 0, .bool false, .bool false]) (by first | (simp [results, Tryd.results42, go_sem, qR0, qR1]; done) | (simp [results, Tryd.results42, go_sem, qR0, qR1, qR2, qR3]; done)) rfl
      ⟨none, 0, rfl, Fr.none_ _ _ _ _, (by repeat' (first | with_reducible exact Ew1.out | with_reducible refine Ex.alloc ?_ _ | with_reducible refine Ex.drew ?_ | with_reducible refine Ex.put ?_ (by omega) _))⟩
  have hh := tv_head hv
  unfold TagsHead at hh
  obtain ⟨g1, g2, g3, g4, g5, g6⟩ := hh
  rcases place_or t.owns s with ⟨hp, hnone⟩ | ⟨k, x, hp, hxk, hs⟩
  rotate_left
  · have e : takeTag t s = (t, x.tag, false, true) := by rw [← hs]; exact take_again hv hxk
    rw [e]
    clear e
    rw [hp] at C1
    have HXK := Lib.hid hxk
    have hkn := getElem?_lt hxk
    clear hxk hp hs
    obtain ⟨b1, o1, hA, hb1, -⟩ := HX.out (by omega)
    subst hA
    have hk0 : ¬ (k : Int) < 0 := by omega
    have hk1 : (0 : Int) ≤ (k : Int) := by omega
    have hkl : (k : Int) < (t.owns.length : Int) := by omega
    go_enter Tryd.func42, Tryd.ntmps42
    go_wp2_with fail
    refine name_calls ?_; intro v1 hv1
    have X1 : Hid (Chg (0) (0) w v1) := Lib.hid (by rw [hv1]; repeat' (first | with_reducible exact Chg.refl _ _ _ | with_reducible refine Chg.alloc ?_ _ | with_reducible refine Chg.drew ?_ | with_reducible refine Chg.set ?_ (by omega) _))
    have t1 : w.heap.size ≤ v1.heap.size := X1.out.size
    have Ev1 : Hid (Ex w v1) := Lib.hid ((Ex.refl w).chg X1.out (by omega))
    have KX : Hid (Blk v1 (w.heap.size) 39 [.int .i64 t.count, .int .i64 t.next, .int .i64 t.round, .slice (some ⟨b1, o1, none⟩) t.owns.length c]) := Lib.hid (by rw [hv1]; repeat' (first | with_reducible exact Blk.new_at _ _ _ (by simp) | with_reducible refine Blk.alloc ?_ _ | with_reducible refine Blk.drew ?_ | with_reducible refine Blk.far ?_ (by simp; omega) _))
    have lX : w.heap.size < v1.heap.size := KX.out.lt
    have KR : Hid (Blk v1 (w.heap.size + 1) 39 [.int .i64 0, .int .i64 0, .int .i64 0, .slice none 0 0]) := Lib.hid (by rw [hv1]; repeat' (first | with_reducible exact Blk.new_at _ _ _ (by simp) | with_reducible refine Blk.alloc ?_ _ | with_reducible refine Blk.drew ?_ | with_reducible refine Blk.far ?_ (by simp; omega) _))
    have lR : w.heap.size + 1 < v1.heap.size := KR.out.lt
    have DX := Lib.hid (HX.out.ex Ev1.out)
    clear hv1
    refine (tagsValidI_c t _ c _ DX.out hn hc).mono ?_; rintro r w1 ⟨rfl, hb1⟩
    have Y1 : Hid (Chg 0 0 v1 w1) := Lib.hid (Chg.of_ex hb1)
    have s1 : v1.heap.size ≤ w1.heap.size := Y1.out.size
    have Ew1 : Hid (Ex w w1) := Lib.hid (Ev1.out.chg Y1.out (by omega))
    clear hb1
    replace KX : Hid (Blk w1 (w.heap.size) 39 [.int .i64 t.count, .int .i64 t.next, .int .i64 t.round, .slice (some ⟨b1, o1, none⟩) t.owns.length c]) := Lib.hid (KX.out.chg Y1.out (by omega))
    replace KR : Hid (Blk w1 (w.heap.size + 1) 39 [.int .i64 0, .int .i64 0, .int .i64 0, .slice none 0 0]) := Lib.hid (KR.out.chg Y1.out (by omega))
    replace DX := Lib.hid (HX.out.ex Ew1.out)
    obtain ⟨qX0, qX1, qX2, qX3⟩ := KX.out.c4
    have jX := KX.out.lt
    obtain ⟨qR0, qR1, qR2, qR3⟩ := KR.out.c4
    have jR := KR.out.lt
    have zR := KR.out.frozen
    rw [hv]
    go_wp2_with fail
    refine (within_c s 16 _).mono ?_; rintro r wq2 ⟨rfl, rfl⟩
    rw [hb]
    go_wp2_with fail
    refine name_calls ?_; intro v3 hv3
    have X3 : Hid (Chg (0) (0) w1 v3) := Lib.hid (by rw [hv3]; repeat' (first | with_reducible exact Chg.refl _ _ _ | with_reducible refine Chg.alloc ?_ _ | with_reducible refine Chg.drew ?_ | with_reducible refine Chg.set ?_ (by omega) _))
    have t3 : w1.heap.size ≤ v3.heap.size := X3.out.size
    have Ev3 : Hid (Ex w v3) := Lib.hid (Ew1.out.chg X3.out (by omega))
    clear qX0 qX1 qX2 qX3 jX
    clear qR0 qR1 qR2 qR3 jR zR
    replace KX : Hid (Blk v3 (w.heap.size) 39 [.int .i64 t.count, .int .i64 t.next, .int .i64 t.round, .slice (some ⟨b1, o1, none⟩) t.owns.length c]) := Lib.hid (KX.out.chg X3.out (by omega))
    replace KR : Hid (Blk v3 (w.heap.size + 1) 39 [.int .i64 0, .int .i64 0, .int .i64 0, .slice none 0 0]) := Lib.hid (KR.out.chg X3.out (by omega))
    have KO : Hid (Blk v3 (w1.heap.size) 39 [.int .i64 t.count, .int .i64 t.next, .int .i64 t.round, .slice (some ⟨b1, o1, none⟩) t.owns.length c]) := Lib.hid (by rw [hv3]; repeat' (first | with_reducible exact Blk.new_at _ _ _ (by simp) | with_reducible refine Blk.alloc ?_ _ | with_reducible refine Blk.drew ?_ | with_reducible refine Blk.far ?_ (by simp; omega) _))
    have lO : w1.heap.size < v3.heap.size := KO.out.lt
    replace DX := Lib.hid (HX.out.ex Ev3.out)
    clear hv3
    refine (cloneOwn_c _ c t.owns _ DX.out hn hc hc2).mono ?_; rintro r w3 ⟨A3, c3, rfl, hf3, hb3⟩
    have Y3 : Hid (Chg 0 0 v3 w3) := Lib.hid (Chg.of_ex hb3)
    have s3 : v3.heap.size ≤ w3.heap.size := Y3.out.size
    have Ew3 : Hid (Ex w w3) := Lib.hid (Ev3.out.chg Y3.out (by omega))
    clear hb3
    replace KX : Hid (Blk w3 (w.heap.size) 39 [.int .i64 t.count, .int .i64 t.next, .int .i64 t.round, .slice (some ⟨b1, o1, none⟩) t.owns.length c]) := Lib.hid (KX.out.chg Y3.out (by omega))
    replace KR : Hid (Blk w3 (w.heap.size + 1) 39 [.int .i64 0, .int .i64 0, .int .i64 0, .slice none 0 0]) := Lib.hid (KR.out.chg Y3.out (by omega))
    replace KO : Hid (Blk w3 (w1.heap.size) 39 [.int .i64 t.count, .int .i64 t.next, .int .i64 t.round, .slice (some ⟨b1, o1, none⟩) t.owns.length c]) := Lib.hid (KO.out.chg Y3.out (by omega))
    replace DX := Lib.hid (HX.out.ex Ew3.out)
    have HF3 := Lib.hid hf3; clear hf3
    have WHF3 := Lib.hid HF3.out.row
    obtain ⟨qX0, qX1, qX2, qX3⟩ := KX.out.c4
    have jX := KX.out.lt
    obtain ⟨qR0, qR1, qR2, qR3⟩ := KR.out.c4
    have jR := KR.out.lt
    have zR := KR.out.frozen
    obtain ⟨qO0, qO1, qO2, qO3⟩ := KO.out.c4
    have jO := KO.out.lt
    have zO := KO.out.frozen
    go_wp2_with fail
    refine (clipOwn_c A3 t.owns.length c3 _ HF3.out.le HF3.out.cap).mono ?_; rintro r wq4 ⟨rfl, rfl⟩
    go_wp2_with fail
    refine name_calls ?_; intro v5 hv5
    have X5 : Hid (Chg (w1.heap.size) (w1.heap.size + 1) w3 v5) := Lib.hid (by rw [hv5]; repeat' (first | with_reducible exact Chg.refl _ _ _ | with_reducible refine Chg.alloc ?_ _ | with_reducible refine Chg.drew ?_ | with_reducible refine Chg.set ?_ (by omega) _))
    have t5 : w3.heap.size ≤ v5.heap.size := X5.out.size
    have Ev5 : Hid (Ex w v5) := Lib.hid (Ew3.out.chg X5.out (by omega))
    clear qX0 qX1 qX2 qX3 jX
    clear qR0 qR1 qR2 qR3 jR zR
    clear qO0 qO1 qO2 qO3 jO zO
    replace KO : Hid (Blk v5 (w1.heap.size) 39 [.int .i64 t.count, .int .i64 t.next, .int .i64 t.round, .slice A3 t.owns.length t.owns.length]) := Lib.hid (by rw [hv5]; exact KO.out.set 3 _)
    replace KX : Hid (Blk v5 (w.heap.size) 39 [.int .i64 t.count, .int .i64 t.next, .int .i64 t.round, .slice (some ⟨b1, o1, none⟩) t.owns.length c]) := Lib.hid (KX.out.chg X5.out (by omega))
    replace KR : Hid (Blk v5 (w.heap.size + 1) 39 [.int .i64 0, .int .i64 0, .int .i64 0, .slice none 0 0]) := Lib.hid (KR.out.chg X5.out (by omega))
    replace HF3 := Lib.hid (HF3.out.chg X5.out WHF3.out (by omega))
    replace DX := Lib.hid (HX.out.ex Ev5.out)
    clear hv5
    refine (C1.out _ c _ DX.out hn).mono ?_; rintro r w5 ⟨rfl, hb5⟩
    have Y5 : Hid (Chg 0 0 v5 w5) := Lib.hid (Chg.of_ex hb5)
    have s5 : v5.heap.size ≤ w5.heap.size := Y5.out.size
    have Ew5 : Hid (Ex w w5) := Lib.hid (Ev5.out.chg Y5.out (by omega))
    clear hb5
    replace KX : Hid (Blk w5 (w.heap.size) 39 [.int .i64 t.count, .int .i64 t.next, .int .i64 t.round, .slice (some ⟨b1, o1, none⟩) t.owns.length c]) := Lib.hid (KX.out.chg Y5.out (by omega))
    replace KR : Hid (Blk w5 (w.heap.size + 1) 39 [.int .i64 0, .int .i64 0, .int .i64 0, .slice none 0 0]) := Lib.hid (KR.out.chg Y5.out (by omega))
    replace KO : Hid (Blk w5 (w1.heap.size) 39 [.int .i64 t.count, .int .i64 t.next, .int .i64 t.round, .slice A3 t.owns.length t.owns.length]) := Lib.hid (KO.out.chg Y5.out (by omega))
    replace HF3 := Lib.hid (HF3.out.chg Y5.out WHF3.out (by omega))
    replace DX := Lib.hid (HX.out.ex Ew5.out)
    obtain ⟨qX0, qX1, qX2, qX3⟩ := KX.out.c4
    have jX := KX.out.lt
    obtain ⟨qR0, qR1, qR2, qR3⟩ := KR.out.c4
    have jR := KR.out.lt
    have zR := KR.out.frozen
    obtain ⟨qO0, qO1, qO2, qO3⟩ := KO.out.c4
    have jO := KO.out.lt
    have zO := KO.out.frozen
    obtain ⟨x', hb1', hxk', h0, h1⟩ := Rd.own_known DX.out (k := k) hkn
    obtain rfl : x = x' := by have := HXK.out; rw [hxk'] at this; injection this with this; exact this.symm
    clear hxk' h0
    have hRO : ¬ w.heap.size + 1 = w1.heap.size := by omega
    have hRB : ¬ w.heap.size + 1 = b1 := by omega
    have zR := KR.out.frozen
    go_wp2_with fail
    go_region
    go_wp2
    exact bodyPost_ret (v := .tuple #[.agg #[.int .i64 t.count, .int .i64 t.next, .int .i64 t.round, .slice A3 t.owns.length t.owns.length], .int .i64 x.tag, .bool false, .bool true]) (by first | (simp [results, Tryd.results42, go_sem, qR0, qR1]; done) | (simp [results, Tryd.results42, go_sem, qR0, qR1, qR2, qR3]; done)) rfl
      ⟨A3, t.owns.length, rfl, Fr.mono (B := v3.heap.size) (Fr.clip (c := c3) (by repeat' (first | with_reducible exact HF3.out | with_reducible refine Fr.drew ?_ | with_reducible refine Fr.alloc ?_ _ | with_reducible refine Fr.put ?_ (fun b hb => by have := WHF3.out b hb; omega) _)) rfl) (by omega), (by repeat' (first | with_reducible exact Ew5.out | with_reducible refine Ex.alloc ?_ _ | with_reducible refine Ex.drew ?_ | with_reducible refine Ex.put ?_ (by omega) _))⟩
  by_cases hnc : t.next = t.count
  · by_cases hr : t.round = 1000000
    · have e : takeTag t s = (noTags, 0, false, false) := by unfold takeTag; rw [if_pos ⟨hv, hb⟩, if_neg (by omega), if_pos hnc, if_pos hr]
      rw [e]
      clear e
      rw [hp] at C1
      have hnb : (t.next == t.count) = true := by simp [hnc]
      have hrb : (t.round == 1000000) = true := by simp [hr]
      have hr2 : (1000000 : Int) < t.round + 1 := by omega
      have hr3 : t.round + 1 ≤ 1000001 := by omega
      clear hnone hp hnc hr
      go_enter Tryd.func42, Tryd.ntmps42
      go_wp2_with fail
      refine name_calls ?_; intro v1 hv1
      have X1 : Hid (Chg (0) (0) w v1) := Lib.hid (by rw [hv1]; repeat' (first | with_reducible exact Chg.refl _ _ _ | with_reducible refine Chg.alloc ?_ _ | with_reducible refine Chg.drew ?_ | with_reducible refine Chg.set ?_ (by omega) _))
      have t1 : w.heap.size ≤ v1.heap.size := X1.out.size
      have Ev1 : Hid (Ex w v1) := Lib.hid ((Ex.refl w).chg X1.out (by omega))
      have KX : Hid (Blk v1 (w.heap.size) 39 [.int .i64 t.count, .int .i64 t.next, .int .i64 t.round, .slice A t.owns.length c]) := Lib.hid (by rw [hv1]; repeat' (first | with_reducible exact Blk.new_at _ _ _ (by simp) | with_reducible refine Blk.alloc ?_ _ | with_reducible refine Blk.drew ?_ | with_reducible refine Blk.far ?_ (by simp; omega) _))
      have lX : w.heap.size < v1.heap.size := KX.out.lt
      have KR : Hid (Blk v1 (w.heap.size + 1) 39 [.int .i64 0, .int .i64 0, .int .i64 0, .slice none 0 0]) := Lib.hid (by rw [hv1]; repeat' (first | with_reducible exact Blk.new_at _ _ _ (by simp) | with_reducible refine Blk.alloc ?_ _ | with_reducible refine Blk.drew ?_ | with_reducible refine Blk.far ?_ (by simp; omega) _))
      have lR : w.heap.size + 1 < v1.heap.size := KR.out.lt
      have DX := Lib.hid (HX.out.ex Ev1.out)
      clear hv1
      refine (tagsValidI_c t A c _ DX.out hn hc).mono ?_; rintro r w1 ⟨rfl, hb1⟩
      have Y1 : Hid (Chg 0 0 v1 w1) := Lib.hid (Chg.of_ex hb1)
      have s1 : v1.heap.size ≤ w1.heap.size := Y1.out.size
      have Ew1 : Hid (Ex w w1) := Lib.hid (Ev1.out.chg Y1.out (by omega))
      clear hb1
      replace KX : Hid (Blk w1 (w.heap.size) 39 [.int .i64 t.count, .int .i64 t.next, .int .i64 t.round, .slice A t.owns.length c]) := Lib.hid (KX.out.chg Y1.out (by omega))
      replace KR : Hid (Blk w1 (w.heap.size + 1) 39 [.int .i64 0, .int .i64 0, .int .i64 0, .slice none 0 0]) := Lib.hid (KR.out.chg Y1.out (by omega))
      replace DX := Lib.hid (HX.out.ex Ew1.out)
      obtain ⟨qX0, qX1, qX2, qX3⟩ := KX.out.c4
      have jX := KX.out.lt
      obtain ⟨qR0, qR1, qR2, qR3⟩ := KR.out.c4
      have jR := KR.out.lt
      have zR := KR.out.frozen
      rw [hv]
      go_wp2_with fail
      refine (within_c s 16 _).mono ?_; rintro r wq2 ⟨rfl, rfl⟩
      rw [hb]
      go_wp2_with fail
      refine name_calls ?_; intro v3 hv3
      have X3 : Hid (Chg (0) (0) w1 v3) := Lib.hid (by rw [hv3]; repeat' (first | with_reducible exact Chg.refl _ _ _ | with_reducible refine Chg.alloc ?_ _ | with_reducible refine Chg.drew ?_ | with_reducible refine Chg.set ?_ (by omega) _))
      have t3 : w1.heap.size ≤ v3.heap.size := X3.out.size
      have Ev3 : Hid (Ex w v3) := Lib.hid (Ew1.out.chg X3.out (by omega))
      clear qX0 qX1 qX2 qX3 jX
      clear qR0 qR1 qR2 qR3 jR zR
      replace KX : Hid (Blk v3 (w.heap.size) 39 [.int .i64 t.count, .int .i64 t.next, .int .i64 t.round, .slice A t.owns.length c]) := Lib.hid (KX.out.chg X3.out (by omega))
      replace KR : Hid (Blk v3 (w.heap.size + 1) 39 [.int .i64 0, .int .i64 0, .int .i64 0, .slice none 0 0]) := Lib.hid (KR.out.chg X3.out (by omega))
      have KO : Hid (Blk v3 (w1.heap.size) 39 [.int .i64 t.count, .int .i64 t.next, .int .i64 t.round, .slice A t.owns.length c]) := Lib.hid (by rw [hv3]; repeat' (first | with_reducible exact Blk.new_at _ _ _ (by simp) | with_reducible refine Blk.alloc ?_ _ | with_reducible refine Blk.drew ?_ | with_reducible refine Blk.far ?_ (by simp; omega) _))
      have lO : w1.heap.size < v3.heap.size := KO.out.lt
      replace DX := Lib.hid (HX.out.ex Ev3.out)
      clear hv3
      refine (cloneOwn_c A c t.owns _ DX.out hn hc hc2).mono ?_; rintro r w3 ⟨A3, c3, rfl, hf3, hb3⟩
      have Y3 : Hid (Chg 0 0 v3 w3) := Lib.hid (Chg.of_ex hb3)
      have s3 : v3.heap.size ≤ w3.heap.size := Y3.out.size
      have Ew3 : Hid (Ex w w3) := Lib.hid (Ev3.out.chg Y3.out (by omega))
      clear hb3
      replace KX : Hid (Blk w3 (w.heap.size) 39 [.int .i64 t.count, .int .i64 t.next, .int .i64 t.round, .slice A t.owns.length c]) := Lib.hid (KX.out.chg Y3.out (by omega))
      replace KR : Hid (Blk w3 (w.heap.size + 1) 39 [.int .i64 0, .int .i64 0, .int .i64 0, .slice none 0 0]) := Lib.hid (KR.out.chg Y3.out (by omega))
      replace KO : Hid (Blk w3 (w1.heap.size) 39 [.int .i64 t.count, .int .i64 t.next, .int .i64 t.round, .slice A t.owns.length c]) := Lib.hid (KO.out.chg Y3.out (by omega))
      replace DX := Lib.hid (HX.out.ex Ew3.out)
      have HF3 := Lib.hid hf3; clear hf3
      have WHF3 := Lib.hid HF3.out.row
      obtain ⟨qX0, qX1, qX2, qX3⟩ := KX.out.c4
      have jX := KX.out.lt
      obtain ⟨qR0, qR1, qR2, qR3⟩ := KR.out.c4
      have jR := KR.out.lt
      have zR := KR.out.frozen
      obtain ⟨qO0, qO1, qO2, qO3⟩ := KO.out.c4
      have jO := KO.out.lt
      have zO := KO.out.frozen
      go_wp2_with fail
      refine (clipOwn_c A3 t.owns.length c3 _ HF3.out.le HF3.out.cap).mono ?_; rintro r wq4 ⟨rfl, rfl⟩
      go_wp2_with fail
      refine name_calls ?_; intro v5 hv5
      have X5 : Hid (Chg (w1.heap.size) (w1.heap.size + 1) w3 v5) := Lib.hid (by rw [hv5]; repeat' (first | with_reducible exact Chg.refl _ _ _ | with_reducible refine Chg.alloc ?_ _ | with_reducible refine Chg.drew ?_ | with_reducible refine Chg.set ?_ (by omega) _))
      have t5 : w3.heap.size ≤ v5.heap.size := X5.out.size
      have Ev5 : Hid (Ex w v5) := Lib.hid (Ew3.out.chg X5.out (by omega))
      clear qX0 qX1 qX2 qX3 jX
      clear qR0 qR1 qR2 qR3 jR zR
      clear qO0 qO1 qO2 qO3 jO zO
      replace KO : Hid (Blk v5 (w1.heap.size) 39 [.int .i64 t.count, .int .i64 t.next, .int .i64 t.round, .slice A3 t.owns.length t.owns.length]) := Lib.hid (by rw [hv5]; exact KO.out.set 3 _)
      replace KX : Hid (Blk v5 (w.heap.size) 39 [.int .i64 t.count, .int .i64 t.next, .int .i64 t.round, .slice A t.owns.length c]) := Lib.hid (KX.out.chg X5.out (by omega))
      replace KR : Hid (Blk v5 (w.heap.size + 1) 39 [.int .i64 0, .int .i64 0, .int .i64 0, .slice none 0 0]) := Lib.hid (KR.out.chg X5.out (by omega))
      replace HF3 := Lib.hid (HF3.out.chg X5.out WHF3.out (by omega))
      replace DX := Lib.hid (HX.out.ex Ev5.out)
      clear hv5
      refine (C1.out A c _ DX.out hn).mono ?_; rintro r w5 ⟨rfl, hb5⟩
      have Y5 : Hid (Chg 0 0 v5 w5) := Lib.hid (Chg.of_ex hb5)
      have s5 : v5.heap.size ≤ w5.heap.size := Y5.out.size
      have Ew5 : Hid (Ex w w5) := Lib.hid (Ev5.out.chg Y5.out (by omega))
      clear hb5
      replace KX : Hid (Blk w5 (w.heap.size) 39 [.int .i64 t.count, .int .i64 t.next, .int .i64 t.round, .slice A t.owns.length c]) := Lib.hid (KX.out.chg Y5.out (by omega))
      replace KR : Hid (Blk w5 (w.heap.size + 1) 39 [.int .i64 0, .int .i64 0, .int .i64 0, .slice none 0 0]) := Lib.hid (KR.out.chg Y5.out (by omega))
      replace KO : Hid (Blk w5 (w1.heap.size) 39 [.int .i64 t.count, .int .i64 t.next, .int .i64 t.round, .slice A3 t.owns.length t.owns.length]) := Lib.hid (KO.out.chg Y5.out (by omega))
      replace HF3 := Lib.hid (HF3.out.chg Y5.out WHF3.out (by omega))
      replace DX := Lib.hid (HX.out.ex Ew5.out)
      obtain ⟨qX0, qX1, qX2, qX3⟩ := KX.out.c4
      have jX := KX.out.lt
      obtain ⟨qR0, qR1, qR2, qR3⟩ := KR.out.c4
      have jR := KR.out.lt
      have zR := KR.out.frozen
      obtain ⟨qO0, qO1, qO2, qO3⟩ := KO.out.c4
      have jO := KO.out.lt
      have zO := KO.out.frozen
      have hRO : ¬ w.heap.size + 1 = w1.heap.size := by omega
      go_wp2
      exact bodyPost_ret (v := .tuple #[.agg #[.int .i64 0, .int .i64 0, .int .i64 0, .slice none 0 0], .int .i64 0, .bool false, .bool false]) (by first | (simp [results, Tryd.results42, go_sem, qR0, qR1]; done) | (simp [results, Tryd.results42, go_sem, qR0, qR1, qR2, qR3]; done)) rfl
        ⟨none, 0, rfl, Fr.none_ _ _ _ _, (by repeat' (first | with_reducible exact Ew5.out | with_reducible refine Ex.alloc ?_ _ | with_reducible refine Ex.drew ?_ | with_reducible refine Ex.put ?_ (by omega) _))⟩
    · have e : takeTag t s = (⟨t.count, 1, t.round + 1, [⟨s, 0⟩]⟩, 0, true, true) := by unfold takeTag; rw [if_pos ⟨hv, hb⟩, if_neg (by omega), if_pos hnc, if_neg hr]
      rw [e]
      clear e
      rw [hp] at C1
      have hnb : (t.next == t.count) = true := by simp [hnc]
      have hrb : (t.round == 1000000) = false := by simp [hr]
      have hr2 : ¬ (1000000 : Int) < t.round + 1 := by omega
      clear hnone hp hnc hr
      go_enter Tryd.func42, Tryd.ntmps42
      go_wp2_with fail
      refine name_calls ?_; intro v1 hv1
      have X1 : Hid (Chg (0) (0) w v1) := Lib.hid (by rw [hv1]; repeat' (first | with_reducible exact Chg.refl _ _ _ | with_reducible refine Chg.alloc ?_ _ | with_reducible refine Chg.drew ?_ | with_reducible refine Chg.set ?_ (by omega) _))
      have t1 : w.heap.size ≤ v1.heap.size := X1.out.size
      have Ev1 : Hid (Ex w v1) := Lib.hid ((Ex.refl w).chg X1.out (by omega))
      have KX : Hid (Blk v1 (w.heap.size) 39 [.int .i64 t.count, .int .i64 t.next, .int .i64 t.round, .slice A t.owns.length c]) := Lib.hid (by rw [hv1]; repeat' (first | with_reducible exact Blk.new_at _ _ _ (by simp) | with_reducible refine Blk.alloc ?_ _ | with_reducible refine Blk.drew ?_ | with_reducible refine Blk.far ?_ (by simp; omega) _))
      have lX : w.heap.size < v1.heap.size := KX.out.lt
      have KR : Hid (Blk v1 (w.heap.size + 1) 39 [.int .i64 0, .int .i64 0, .int .i64 0, .slice none 0 0]) := Lib.hid (by rw [hv1]; repeat' (first | with_reducible exact Blk.new_at _ _ _ (by simp) | with_reducible refine Blk.alloc ?_ _ | with_reducible refine Blk.drew ?_ | with_reducible refine Blk.far ?_ (by simp; omega) _))
      have lR : w.heap.size + 1 < v1.heap.size := KR.out.lt
      have DX := Lib.hid (HX.out.ex Ev1.out)
      clear hv1
      refine (tagsValidI_c t A c _ DX.out hn hc).mono ?_; rintro r w1 ⟨rfl, hb1⟩
      have Y1 : Hid (Chg 0 0 v1 w1) := Lib.hid (Chg.of_ex hb1)
      have s1 : v1.heap.size ≤ w1.heap.size := Y1.out.size
      have Ew1 : Hid (Ex w w1) := Lib.hid (Ev1.out.chg Y1.out (by omega))
      clear hb1
      replace KX : Hid (Blk w1 (w.heap.size) 39 [.int .i64 t.count, .int .i64 t.next, .int .i64 t.round, .slice A t.owns.length c]) := Lib.hid (KX.out.chg Y1.out (by omega))
      replace KR : Hid (Blk w1 (w.heap.size + 1) 39 [.int .i64 0, .int .i64 0, .int .i64 0, .slice none 0 0]) := Lib.hid (KR.out.chg Y1.out (by omega))
      replace DX := Lib.hid (HX.out.ex Ew1.out)
      obtain ⟨qX0, qX1, qX2, qX3⟩ := KX.out.c4
      have jX := KX.out.lt
      obtain ⟨qR0, qR1, qR2, qR3⟩ := KR.out.c4
      have jR := KR.out.lt
      have zR := KR.out.frozen
      rw [hv]
      go_wp2_with fail
      refine (within_c s 16 _).mono ?_; rintro r wq2 ⟨rfl, rfl⟩
      rw [hb]
      go_wp2_with fail
      refine name_calls ?_; intro v3 hv3
      have X3 : Hid (Chg (0) (0) w1 v3) := Lib.hid (by rw [hv3]; repeat' (first | with_reducible exact Chg.refl _ _ _ | with_reducible refine Chg.alloc ?_ _ | with_reducible refine Chg.drew ?_ | with_reducible refine Chg.set ?_ (by omega) _))
      have t3 : w1.heap.size ≤ v3.heap.size := X3.out.size
      have Ev3 : Hid (Ex w v3) := Lib.hid (Ew1.out.chg X3.out (by omega))
      clear qX0 qX1 qX2 qX3 jX
      clear qR0 qR1 qR2 qR3 jR zR
      replace KX : Hid (Blk v3 (w.heap.size) 39 [.int .i64 t.count, .int .i64 t.next, .int .i64 t.round, .slice A t.owns.length c]) := Lib.hid (KX.out.chg X3.out (by omega))
      replace KR : Hid (Blk v3 (w.heap.size + 1) 39 [.int .i64 0, .int .i64 0, .int .i64 0, .slice none 0 0]) := Lib.hid (KR.out.chg X3.out (by omega))
      have KO : Hid (Blk v3 (w1.heap.size) 39 [.int .i64 t.count, .int .i64 t.next, .int .i64 t.round, .slice A t.owns.length c]) := Lib.hid (by rw [hv3]; repeat' (first | with_reducible exact Blk.new_at _ _ _ (by simp) | with_reducible refine Blk.alloc ?_ _ | with_reducible refine Blk.drew ?_ | with_reducible refine Blk.far ?_ (by simp; omega) _))
      have lO : w1.heap.size < v3.heap.size := KO.out.lt
      replace DX := Lib.hid (HX.out.ex Ev3.out)
      clear hv3
      refine (cloneOwn_c A c t.owns _ DX.out hn hc hc2).mono ?_; rintro r w3 ⟨A3, c3, rfl, hf3, hb3⟩
      have Y3 : Hid (Chg 0 0 v3 w3) := Lib.hid (Chg.of_ex hb3)
      have s3 : v3.heap.size ≤ w3.heap.size := Y3.out.size
      have Ew3 : Hid (Ex w w3) := Lib.hid (Ev3.out.chg Y3.out (by omega))
      clear hb3
      replace KX : Hid (Blk w3 (w.heap.size) 39 [.int .i64 t.count, .int .i64 t.next, .int .i64 t.round, .slice A t.owns.length c]) := Lib.hid (KX.out.chg Y3.out (by omega))
      replace KR : Hid (Blk w3 (w.heap.size + 1) 39 [.int .i64 0, .int .i64 0, .int .i64 0, .slice none 0 0]) := Lib.hid (KR.out.chg Y3.out (by omega))
      replace KO : Hid (Blk w3 (w1.heap.size) 39 [.int .i64 t.count, .int .i64 t.next, .int .i64 t.round, .slice A t.owns.length c]) := Lib.hid (KO.out.chg Y3.out (by omega))
      replace DX := Lib.hid (HX.out.ex Ew3.out)
      have HF3 := Lib.hid hf3; clear hf3
      have WHF3 := Lib.hid HF3.out.row
      obtain ⟨qX0, qX1, qX2, qX3⟩ := KX.out.c4
      have jX := KX.out.lt
      obtain ⟨qR0, qR1, qR2, qR3⟩ := KR.out.c4
      have jR := KR.out.lt
      have zR := KR.out.frozen
      obtain ⟨qO0, qO1, qO2, qO3⟩ := KO.out.c4
      have jO := KO.out.lt
      have zO := KO.out.frozen
      go_wp2_with fail
      refine (clipOwn_c A3 t.owns.length c3 _ HF3.out.le HF3.out.cap).mono ?_; rintro r wq4 ⟨rfl, rfl⟩
      go_wp2_with fail
      refine name_calls ?_; intro v5 hv5
      have X5 : Hid (Chg (w1.heap.size) (w1.heap.size + 1) w3 v5) := Lib.hid (by rw [hv5]; repeat' (first | with_reducible exact Chg.refl _ _ _ | with_reducible refine Chg.alloc ?_ _ | with_reducible refine Chg.drew ?_ | with_reducible refine Chg.set ?_ (by omega) _))
      have t5 : w3.heap.size ≤ v5.heap.size := X5.out.size
      have Ev5 : Hid (Ex w v5) := Lib.hid (Ew3.out.chg X5.out (by omega))
      clear qX0 qX1 qX2 qX3 jX
      clear qR0 qR1 qR2 qR3 jR zR
      clear qO0 qO1 qO2 qO3 jO zO
      replace KO : Hid (Blk v5 (w1.heap.size) 39 [.int .i64 t.count, .int .i64 t.next, .int .i64 t.round, .slice A3 t.owns.length t.owns.length]) := Lib.hid (by rw [hv5]; exact KO.out.set 3 _)
      replace KX : Hid (Blk v5 (w.heap.size) 39 [.int .i64 t.count, .int .i64 t.next, .int .i64 t.round, .slice A t.owns.length c]) := Lib.hid (KX.out.chg X5.out (by omega))
      replace KR : Hid (Blk v5 (w.heap.size + 1) 39 [.int .i64 0, .int .i64 0, .int .i64 0, .slice none 0 0]) := Lib.hid (KR.out.chg X5.out (by omega))
      replace HF3 := Lib.hid (HF3.out.chg X5.out WHF3.out (by omega))
      replace DX := Lib.hid (HX.out.ex Ev5.out)
      clear hv5
      refine (C1.out A c _ DX.out hn).mono ?_; rintro r w5 ⟨rfl, hb5⟩
      have Y5 : Hid (Chg 0 0 v5 w5) := Lib.hid (Chg.of_ex hb5)
      have s5 : v5.heap.size ≤ w5.heap.size := Y5.out.size
      have Ew5 : Hid (Ex w w5) := Lib.hid (Ev5.out.chg Y5.out (by omega))
      clear hb5
      replace KX : Hid (Blk w5 (w.heap.size) 39 [.int .i64 t.count, .int .i64 t.next, .int .i64 t.round, .slice A t.owns.length c]) := Lib.hid (KX.out.chg Y5.out (by omega))
      replace KR : Hid (Blk w5 (w.heap.size + 1) 39 [.int .i64 0, .int .i64 0, .int .i64 0, .slice none 0 0]) := Lib.hid (KR.out.chg Y5.out (by omega))
      replace KO : Hid (Blk w5 (w1.heap.size) 39 [.int .i64 t.count, .int .i64 t.next, .int .i64 t.round, .slice A3 t.owns.length t.owns.length]) := Lib.hid (KO.out.chg Y5.out (by omega))
      replace HF3 := Lib.hid (HF3.out.chg Y5.out WHF3.out (by omega))
      replace DX := Lib.hid (HX.out.ex Ew5.out)
      obtain ⟨qX0, qX1, qX2, qX3⟩ := KX.out.c4
      have jX := KX.out.lt
      obtain ⟨qR0, qR1, qR2, qR3⟩ := KR.out.c4
      have jR := KR.out.lt
      have zR := KR.out.frozen
      obtain ⟨qO0, qO1, qO2, qO3⟩ := KO.out.c4
      have jO := KO.out.lt
      have zO := KO.out.frozen
      clear HF3 WHF3
      have zO := KO.out.frozen
      have h63 : 0 + 1 ≤ maxLen := by simp [maxLen]
      have hby : (0 + 1) * 16 ≤ 140737488355328 := by omega
      have HO : Hid (∀ (w1 : World) (a : Option Addr), Fr 129 w1 w5.heap.size a 0 ([] : List OwnD)) := Lib.hid (fun w1 a => Fr.none_ _ _ _ _)
      go_wp2_with (at_builtin; refine wpList_append_fr (α := OwnD) rfl _ _ 37 rfl 129 i0 _ 16 w5.heap.size Tryd.underlying37 hi hz0 hz1 hz2 rfl _ 0 0 [] rfl rfl (HO.out _ _) _ 1 1 [(⟨s, 0⟩ : OwnD)] rfl rfl (one_own_at _ _ _ (by simp)) h63 hby (by simp <;> omega) ?_)
      intro A6 c6 w6 ha
      have HA := Lib.hid ha
      clear ha
      have hex := (Ex.refl _).grown HA.out.grown (fun g hg => by simp [rowOf] at hg)
      have Y6 : Hid (Chg w1.heap.size (w1.heap.size + 1) w5 w6) := Lib.hid (by
        refine Chg.trans ?_ ((Chg.of_ex hex).mono' _ _)
        repeat' (first | with_reducible exact Chg.refl _ _ _ | with_reducible refine Chg.alloc ?_ _ | with_reducible refine Chg.drew ?_ | with_reducible refine Chg.set ?_ (by omega) _))
      have KO6 : Hid (Blk w6 w1.heap.size 39 [.int .i64 t.count, .int .i64 0, .int .i64 (t.round + 1), .slice none 0 0]) := Lib.hid (by
        refine Blk.ex ?_ hex
        repeat' (first | with_reducible exact KO.out | with_reducible refine Blk.alloc ?_ _ | with_reducible exact Blk.put4 KO.out | with_reducible exact Blk.put4 (KO.out.alloc _)))
      clear hex
      clear qO0 qO1 qO2 qO3 jO zO
      clear KO
      have s6 : w5.heap.size ≤ w6.heap.size := Y6.out.size
      have Ew6 : Hid (Ex w w6) := Lib.hid (Ew5.out.chg Y6.out (by omega))
      clear qX0 qX1 qX2 qX3 jX
      clear qR0 qR1 qR2 qR3 jR zR
      replace KX : Hid (Blk w6 (w.heap.size) 39 [.int .i64 t.count, .int .i64 t.next, .int .i64 t.round, .slice A t.owns.length c]) := Lib.hid (KX.out.chg Y6.out (by omega))
      replace KR : Hid (Blk w6 (w.heap.size + 1) 39 [.int .i64 0, .int .i64 0, .int .i64 0, .slice none 0 0]) := Lib.hid (KR.out.chg Y6.out (by omega))
      replace DX := Lib.hid (HX.out.ex Ew6.out)
      obtain ⟨qX0, qX1, qX2, qX3⟩ := KX.out.c4
      have jX := KX.out.lt
      obtain ⟨qR0, qR1, qR2, qR3⟩ := KR.out.c4
      have jR := KR.out.lt
      have zR := KR.out.frozen
      have KO := KO6
      obtain ⟨qO0, qO1, qO2, qO3⟩ := KO.out.c4
      have jO := KO.out.lt
      have HF6 := Lib.hid HA.out.fr
      have WHF6 := Lib.hid HF6.out.row
      have hle6 := HF6.out.le
      have hca6 := HF6.out.cap
      clear HA
      simp only [List.length_cons, List.length_nil] at hle6
      have zO := KO.out.frozen
      have zR := KR.out.frozen
      go_wp2_with fail
      refine (clipOwn_c A6 1 c6 _ hle6 hca6).mono ?_; rintro r wq7 ⟨rfl, rfl⟩
      have hRO : ¬ w.heap.size + 1 = w1.heap.size := by omega
      have hRO' : ¬ w1.heap.size = w.heap.size + 1 := by omega
      go_wp2
      exact bodyPost_ret (v := .tuple #[.agg #[.int .i64 t.count, .int .i64 1, .int .i64 (t.round + 1), .slice A6 1 1], .int .i64 0, .bool true, .bool true]) (by first | (simp [results, Tryd.results42, go_sem, qR0, qR1]; done) | (simp [results, Tryd.results42, go_sem, qR0, qR1, qR2, qR3]; done)) rfl
        ⟨A6, 1, rfl, Fr.mono (B := w5.heap.size) (Fr.clip (c := c6) (by repeat' (first | with_reducible exact HF6.out | with_reducible refine Fr.drew ?_ | with_reducible refine Fr.alloc ?_ _ | with_reducible refine Fr.put ?_ (fun b hb => by have := WHF6.out b hb; omega) _)) rfl) (by omega), (by repeat' (first | with_reducible exact Ew6.out | with_reducible refine Ex.alloc ?_ _ | with_reducible refine Ex.drew ?_ | with_reducible refine Ex.put ?_ (by omega) _))⟩
  · have e : takeTag t s = (⟨t.count, t.next + 1, t.round, t.owns ++ [⟨s, t.next⟩]⟩, t.next, false, true) := by unfold takeTag; rw [if_pos ⟨hv, hb⟩, if_neg (by omega), if_neg hnc]
    rw [e]
    clear e
    rw [hp] at C1
    have hnb : (t.next == t.count) = false := by simp [hnc]
    have hr2 : ¬ (1000000 : Int) < t.round := by omega
    have hfew := (tv_few hv).2
    clear hnone hp hnc
    go_enter Tryd.func42, Tryd.ntmps42
    go_wp2_with fail
    refine name_calls ?_; intro v1 hv1
    have X1 : Hid (Chg (0) (0) w v1) := Lib.hid (by rw [hv1]; repeat' (first | with_reducible exact Chg.refl _ _ _ | with_reducible refine Chg.alloc ?_ _ | with_reducible refine Chg.drew ?_ | with_reducible refine Chg.set ?_ (by omega) _))
    have t1 : w.heap.size ≤ v1.heap.size := X1.out.size
    have Ev1 : Hid (Ex w v1) := Lib.hid ((Ex.refl w).chg X1.out (by omega))
    have KX : Hid (Blk v1 (w.heap.size) 39 [.int .i64 t.count, .int .i64 t.next, .int .i64 t.round, .slice A t.owns.length c]) := Lib.hid (by rw [hv1]; repeat' (first | with_reducible exact Blk.new_at _ _ _ (by simp) | with_reducible refine Blk.alloc ?_ _ | with_reducible refine Blk.drew ?_ | with_reducible refine Blk.far ?_ (by simp; omega) _))
    have lX : w.heap.size < v1.heap.size := KX.out.lt
    have KR : Hid (Blk v1 (w.heap.size + 1) 39 [.int .i64 0, .int .i64 0, .int .i64 0, .slice none 0 0]) := Lib.hid (by rw [hv1]; repeat' (first | with_reducible exact Blk.new_at _ _ _ (by simp) | with_reducible refine Blk.alloc ?_ _ | with_reducible refine Blk.drew ?_ | with_reducible refine Blk.far ?_ (by simp; omega) _))
    have lR : w.heap.size + 1 < v1.heap.size := KR.out.lt
    have DX := Lib.hid (HX.out.ex Ev1.out)
    clear hv1
    refine (tagsValidI_c t A c _ DX.out hn hc).mono ?_; rintro r w1 ⟨rfl, hb1⟩
    have Y1 : Hid (Chg 0 0 v1 w1) := Lib.hid (Chg.of_ex hb1)
    have s1 : v1.heap.size ≤ w1.heap.size := Y1.out.size
    have Ew1 : Hid (Ex w w1) := Lib.hid (Ev1.out.chg Y1.out (by omega))
    clear hb1
    replace KX : Hid (Blk w1 (w.heap.size) 39 [.int .i64 t.count, .int .i64 t.next, .int .i64 t.round, .slice A t.owns.length c]) := Lib.hid (KX.out.chg Y1.out (by omega))
    replace KR : Hid (Blk w1 (w.heap.size + 1) 39 [.int .i64 0, .int .i64 0, .int .i64 0, .slice none 0 0]) := Lib.hid (KR.out.chg Y1.out (by omega))
    replace DX := Lib.hid (HX.out.ex Ew1.out)
    obtain ⟨qX0, qX1, qX2, qX3⟩ := KX.out.c4
    have jX := KX.out.lt
    obtain ⟨qR0, qR1, qR2, qR3⟩ := KR.out.c4
    have jR := KR.out.lt
    have zR := KR.out.frozen
    rw [hv]
    go_wp2_with fail
    refine (within_c s 16 _).mono ?_; rintro r wq2 ⟨rfl, rfl⟩
    rw [hb]
    go_wp2_with fail
    refine name_calls ?_; intro v3 hv3
    have X3 : Hid (Chg (0) (0) w1 v3) := Lib.hid (by rw [hv3]; repeat' (first | with_reducible exact Chg.refl _ _ _ | with_reducible refine Chg.alloc ?_ _ | with_reducible refine Chg.drew ?_ | with_reducible refine Chg.set ?_ (by omega) _))
    have t3 : w1.heap.size ≤ v3.heap.size := X3.out.size
    have Ev3 : Hid (Ex w v3) := Lib.hid (Ew1.out.chg X3.out (by omega))
    clear qX0 qX1 qX2 qX3 jX
    clear qR0 qR1 qR2 qR3 jR zR
    replace KX : Hid (Blk v3 (w.heap.size) 39 [.int .i64 t.count, .int .i64 t.next, .int .i64 t.round, .slice A t.owns.length c]) := Lib.hid (KX.out.chg X3.out (by omega))
    replace KR : Hid (Blk v3 (w.heap.size + 1) 39 [.int .i64 0, .int .i64 0, .int .i64 0, .slice none 0 0]) := Lib.hid (KR.out.chg X3.out (by omega))
    have KO : Hid (Blk v3 (w1.heap.size) 39 [.int .i64 t.count, .int .i64 t.next, .int .i64 t.round, .slice A t.owns.length c]) := Lib.hid (by rw [hv3]; repeat' (first | with_reducible exact Blk.new_at _ _ _ (by simp) | with_reducible refine Blk.alloc ?_ _ | with_reducible refine Blk.drew ?_ | with_reducible refine Blk.far ?_ (by simp; omega) _))
    have lO : w1.heap.size < v3.heap.size := KO.out.lt
    replace DX := Lib.hid (HX.out.ex Ev3.out)
    clear hv3
    refine (cloneOwn_c A c t.owns _ DX.out hn hc hc2).mono ?_; rintro r w3 ⟨A3, c3, rfl, hf3, hb3⟩
    have Y3 : Hid (Chg 0 0 v3 w3) := Lib.hid (Chg.of_ex hb3)
    have s3 : v3.heap.size ≤ w3.heap.size := Y3.out.size
    have Ew3 : Hid (Ex w w3) := Lib.hid (Ev3.out.chg Y3.out (by omega))
    clear hb3
    replace KX : Hid (Blk w3 (w.heap.size) 39 [.int .i64 t.count, .int .i64 t.next, .int .i64 t.round, .slice A t.owns.length c]) := Lib.hid (KX.out.chg Y3.out (by omega))
    replace KR : Hid (Blk w3 (w.heap.size + 1) 39 [.int .i64 0, .int .i64 0, .int .i64 0, .slice none 0 0]) := Lib.hid (KR.out.chg Y3.out (by omega))
    replace KO : Hid (Blk w3 (w1.heap.size) 39 [.int .i64 t.count, .int .i64 t.next, .int .i64 t.round, .slice A t.owns.length c]) := Lib.hid (KO.out.chg Y3.out (by omega))
    replace DX := Lib.hid (HX.out.ex Ew3.out)
    have HF3 := Lib.hid hf3; clear hf3
    have WHF3 := Lib.hid HF3.out.row
    obtain ⟨qX0, qX1, qX2, qX3⟩ := KX.out.c4
    have jX := KX.out.lt
    obtain ⟨qR0, qR1, qR2, qR3⟩ := KR.out.c4
    have jR := KR.out.lt
    have zR := KR.out.frozen
    obtain ⟨qO0, qO1, qO2, qO3⟩ := KO.out.c4
    have jO := KO.out.lt
    have zO := KO.out.frozen
    go_wp2_with fail
    refine (clipOwn_c A3 t.owns.length c3 _ HF3.out.le HF3.out.cap).mono ?_; rintro r wq4 ⟨rfl, rfl⟩
    go_wp2_with fail
    refine name_calls ?_; intro v5 hv5
    have X5 : Hid (Chg (w1.heap.size) (w1.heap.size + 1) w3 v5) := Lib.hid (by rw [hv5]; repeat' (first | with_reducible exact Chg.refl _ _ _ | with_reducible refine Chg.alloc ?_ _ | with_reducible refine Chg.drew ?_ | with_reducible refine Chg.set ?_ (by omega) _))
    have t5 : w3.heap.size ≤ v5.heap.size := X5.out.size
    have Ev5 : Hid (Ex w v5) := Lib.hid (Ew3.out.chg X5.out (by omega))
    clear qX0 qX1 qX2 qX3 jX
    clear qR0 qR1 qR2 qR3 jR zR
    clear qO0 qO1 qO2 qO3 jO zO
    replace KO : Hid (Blk v5 (w1.heap.size) 39 [.int .i64 t.count, .int .i64 t.next, .int .i64 t.round, .slice A3 t.owns.length t.owns.length]) := Lib.hid (by rw [hv5]; exact KO.out.set 3 _)
    replace KX : Hid (Blk v5 (w.heap.size) 39 [.int .i64 t.count, .int .i64 t.next, .int .i64 t.round, .slice A t.owns.length c]) := Lib.hid (KX.out.chg X5.out (by omega))
    replace KR : Hid (Blk v5 (w.heap.size + 1) 39 [.int .i64 0, .int .i64 0, .int .i64 0, .slice none 0 0]) := Lib.hid (KR.out.chg X5.out (by omega))
    replace HF3 := Lib.hid (HF3.out.chg X5.out WHF3.out (by omega))
    replace DX := Lib.hid (HX.out.ex Ev5.out)
    clear hv5
    refine (C1.out A c _ DX.out hn).mono ?_; rintro r w5 ⟨rfl, hb5⟩
    have Y5 : Hid (Chg 0 0 v5 w5) := Lib.hid (Chg.of_ex hb5)
    have s5 : v5.heap.size ≤ w5.heap.size := Y5.out.size
    have Ew5 : Hid (Ex w w5) := Lib.hid (Ev5.out.chg Y5.out (by omega))
    clear hb5
    replace KX : Hid (Blk w5 (w.heap.size) 39 [.int .i64 t.count, .int .i64 t.next, .int .i64 t.round, .slice A t.owns.length c]) := Lib.hid (KX.out.chg Y5.out (by omega))
    replace KR : Hid (Blk w5 (w.heap.size + 1) 39 [.int .i64 0, .int .i64 0, .int .i64 0, .slice none 0 0]) := Lib.hid (KR.out.chg Y5.out (by omega))
    replace KO : Hid (Blk w5 (w1.heap.size) 39 [.int .i64 t.count, .int .i64 t.next, .int .i64 t.round, .slice A3 t.owns.length t.owns.length]) := Lib.hid (KO.out.chg Y5.out (by omega))
    replace HF3 := Lib.hid (HF3.out.chg Y5.out WHF3.out (by omega))
    replace DX := Lib.hid (HX.out.ex Ew5.out)
    obtain ⟨qX0, qX1, qX2, qX3⟩ := KX.out.c4
    have jX := KX.out.lt
    obtain ⟨qR0, qR1, qR2, qR3⟩ := KR.out.c4
    have jR := KR.out.lt
    have zR := KR.out.frozen
    obtain ⟨qO0, qO1, qO2, qO3⟩ := KO.out.c4
    have jO := KO.out.lt
    have zO := KO.out.frozen
    have zO := KO.out.frozen
    have h63 : t.owns.length + 1 ≤ maxLen := by simp [maxLen]; omega
    have hby : (t.owns.length + 1) * 16 ≤ 140737488355328 := by omega
    go_wp2_with (at_builtin; refine wpList_append_fr (α := OwnD) rfl _ _ 37 rfl 129 i0 _ 16 v3.heap.size Tryd.underlying37 hi hz0 hz1 hz2 rfl _ _ _ t.owns rfl rfl ((HF3.out.alloc _).clip rfl) _ 1 1 [(⟨s, t.next⟩ : OwnD)] rfl rfl (one_own _ _ _) h63 hby (by simp <;> omega) ?_)
    intro A6 c6 w6 ha
    have HA := Lib.hid ha
    clear ha
    have Y6 : Hid (Chg v3.heap.size w3.heap.size w5 w6) := Lib.hid (((Chg.refl _ _ w5).alloc _).trans (Chg.of_grown HA.out.grown (fun b hb => WHF3.out b (rowOf_clip HF3.out.le hb))))
    have WNE6 : Hid (∀ b, rowOf A6 c6 = some b → b ≠ w1.heap.size ∧ b ≠ w.heap.size + 1) := Lib.hid (fun b hb => by
      rcases HA.out.row with e | e
      · rw [hb] at e
        have := (fun b hb => WHF3.out b (rowOf_clip HF3.out.le hb)) b e.symm
        omega
      · rw [hb] at e
        injection e with e
        simp at e
        omega)
    clear HF3 WHF3
    have s6 : w5.heap.size ≤ w6.heap.size := Y6.out.size
    have Ew6 : Hid (Ex w w6) := Lib.hid (Ew5.out.chg Y6.out (by omega))
    clear qX0 qX1 qX2 qX3 jX
    clear qR0 qR1 qR2 qR3 jR zR
    clear qO0 qO1 qO2 qO3 jO zO
    replace KX : Hid (Blk w6 (w.heap.size) 39 [.int .i64 t.count, .int .i64 t.next, .int .i64 t.round, .slice A t.owns.length c]) := Lib.hid (KX.out.chg Y6.out (by omega))
    replace KR : Hid (Blk w6 (w.heap.size + 1) 39 [.int .i64 0, .int .i64 0, .int .i64 0, .slice none 0 0]) := Lib.hid (KR.out.chg Y6.out (by omega))
    replace KO : Hid (Blk w6 (w1.heap.size) 39 [.int .i64 t.count, .int .i64 t.next, .int .i64 t.round, .slice A3 t.owns.length t.owns.length]) := Lib.hid (KO.out.chg Y6.out (by omega))
    replace DX := Lib.hid (HX.out.ex Ew6.out)
    obtain ⟨qX0, qX1, qX2, qX3⟩ := KX.out.c4
    have jX := KX.out.lt
    obtain ⟨qR0, qR1, qR2, qR3⟩ := KR.out.c4
    have jR := KR.out.lt
    have zR := KR.out.frozen
    obtain ⟨qO0, qO1, qO2, qO3⟩ := KO.out.c4
    have jO := KO.out.lt
    have zO := KO.out.frozen
    have HF6 := Lib.hid HA.out.fr
    have WHF6 := Lib.hid HF6.out.row
    have hle6 := HF6.out.le
    have hca6 := HF6.out.cap
    clear HA
    rw [List.length_append] at hle6
    have zO := KO.out.frozen
    have zR := KR.out.frozen
    go_wp2_with fail
    refine (clipOwn_c A6 _ c6 _ hle6 hca6).mono ?_; rintro r wq7 ⟨rfl, rfl⟩
    have hRO : ¬ w.heap.size + 1 = w1.heap.size := by omega
    have hRO' : ¬ w1.heap.size = w.heap.size + 1 := by omega
    go_wp2
    exact bodyPost_ret (v := .tuple #[.agg #[.int .i64 t.count, .int .i64 (t.next + 1), .int .i64 t.round, .slice A6 (t.owns.length + 1) (t.owns.length + 1)], .int .i64 t.next, .bool false, .bool true]) (by first | (simp [results, Tryd.results42, go_sem, qR0, qR1]; done) | (simp [results, Tryd.results42, go_sem, qR0, qR1, qR2, qR3]; done)) rfl
      ⟨A6, (t.owns.length + 1), by simp, Fr.mono (B := v3.heap.size) (Fr.clip (c := c6) (by repeat' (first | with_reducible exact HF6.out | with_reducible refine Fr.drew ?_ | with_reducible refine Fr.alloc ?_ _ | with_reducible refine Fr.put ?_ (fun b hb => by have := WNE6.out b hb; omega) _)) (by simp)) (by omega), (by repeat' (first | with_reducible exact Ew6.out | with_reducible refine Ex.alloc ?_ _ | with_reducible refine Ex.drew ?_ | with_reducible refine Ex.put ?_ (by omega) _))⟩
end Go.Proofs.YtkoegcalfibinaaDoor
