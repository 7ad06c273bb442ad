/- LeaveTag of the reference: the walk. -/
import Derived.Test.YtidnefcnojedoaaTg
import Derived.Test.YtidnefcnojedoaaTr
import Derived.Test.YtidnefcnojedoaaTh
import Derived.Deep.RegionHeld3
namespace Go.Proofs.Ytidnefcnojedoaa
open Go.ChangeShapes Go.WideShapes Go.ChangeAt Go.RowKit
open Rec (sz cs)
set_option linter.unusedVariables false
set_option maxRecDepth 100000

set_option maxHeartbeats 4000000 in
theorem leaveTagS_c (t : TagsD) (s : Int) (A : Option Addr) (c : Nat) (w : World) (hx : Rd w A t.owns) (hn : t.owns.length ≤ 1048576) (hc : t.owns.length ≤ c) (hc2 : c ≤ maxLen) :
    Calls Try.prog 40 #[.agg #[.int .i64 t.count, .int .i64 t.next, .int .i64 t.round, .slice A t.owns.length c], .int .i64 s] w
    fun r w' => ∃ A' c', r = .returned (.tuple #[.agg #[.int .i64 (leaveTag t s).1.count, .int .i64 (leaveTag t s).1.next, .int .i64 (leaveTag t s).1.round, .slice A' (leaveTag t s).1.owns.length c'], .bool (leaveTag t s).2]) ∧ Fr 50 w' w.heap.size A' c' (leaveTag t s).1.owns ∧ Ex w w' := by
  have HX := Lib.hid hx
  have C1 := Lib.hid (l5Find_c t s)
  clear hx
  obtain ⟨i0, hi, hz0, hz1, hz2⟩ := info_parts infoOwn
  cases hv : tagsV t
  · have e : leaveTag t s = (noTags, false) := if_neg (fun h => by rw [hv] at h; cases h.1)
    rw [e]
    clear e
    generalize ownPlace t.owns s = p at C1
    go_enter Try.func40, Try.ntmps40
    go_wp2_with fail
    refine name_calls ?_; intro v1 hv1
    have X1 : Hid (Chg (0) (0) w v1) := Lib.hid (by rw [hv1]; repeat' (first | with_reducible exact Chg.refl _ _ _ | with_reducible refine Chg.alloc ?_ _ | with_reducible refine Chg.drew ?_ | with_reducible refine Chg.set ?_ (by omega) _))
    have t1 : w.heap.size ≤ v1.heap.size := X1.out.size
    have Ev1 : Hid (Ex w v1) := Lib.hid ((Ex.refl w).chg X1.out (by omega))
    have KX : Hid (Blk v1 (w.heap.size) 25 [.int .i64 t.count, .int .i64 t.next, .int .i64 t.round, .slice A t.owns.length c]) := Lib.hid (by rw [hv1]; repeat' (first | with_reducible exact Blk.new_at _ _ _ (by simp) | with_reducible refine Blk.alloc ?_ _ | with_reducible refine Blk.drew ?_ | with_reducible refine Blk.far ?_ (by simp; omega) _))
    have lX : w.heap.size < v1.heap.size := KX.out.lt
    have KR : Hid (Blk v1 (w.heap.size + 1) 25 [.int .i64 0, .int .i64 0, .int .i64 0, .slice none 0 0]) := Lib.hid (by rw [hv1]; repeat' (first | with_reducible exact Blk.new_at _ _ _ (by simp) | with_reducible refine Blk.alloc ?_ _ | with_reducible refine Blk.drew ?_ | with_reducible refine Blk.far ?_ (by simp; omega) _))
    have lR : w.heap.size + 1 < v1.heap.size := KR.out.lt
    have DX := Lib.hid (HX.out.ex Ev1.out)
    clear hv1
    refine (C1.out _ c _ DX.out hn).mono ?_; rintro r w1 ⟨rfl, hb1⟩
    have Y1 : Hid (Chg 0 0 v1 w1) := Lib.hid (Chg.of_ex hb1)
    have s1 : v1.heap.size ≤ w1.heap.size := Y1.out.size
    have Ew1 : Hid (Ex w w1) := Lib.hid (Ev1.out.chg Y1.out (by omega))
    clear hb1
    replace KX : Hid (Blk w1 (w.heap.size) 25 [.int .i64 t.count, .int .i64 t.next, .int .i64 t.round, .slice A t.owns.length c]) := Lib.hid (KX.out.chg Y1.out (by omega))
    replace KR : Hid (Blk w1 (w.heap.size + 1) 25 [.int .i64 0, .int .i64 0, .int .i64 0, .slice none 0 0]) := Lib.hid (KR.out.chg Y1.out (by omega))
    replace DX := Lib.hid (HX.out.ex Ew1.out)
    obtain ⟨qX0, qX1, qX2, qX3⟩ := KX.out.c4
    have jX := KX.out.lt
    obtain ⟨qR0, qR1, qR2, qR3⟩ := KR.out.c4
    have jR := KR.out.lt
    have zR := KR.out.frozen
    go_wp2_with fail
    refine name_calls ?_; intro v2 hv2
    have X2 : Hid (Chg (0) (0) w1 v2) := Lib.hid (by rw [hv2]; repeat' (first | with_reducible exact Chg.refl _ _ _ | with_reducible refine Chg.alloc ?_ _ | with_reducible refine Chg.drew ?_ | with_reducible refine Chg.set ?_ (by omega) _))
    have t2 : w1.heap.size ≤ v2.heap.size := X2.out.size
    have Ev2 : Hid (Ex w v2) := Lib.hid (Ew1.out.chg X2.out (by omega))
    clear qX0 qX1 qX2 qX3 jX
    clear qR0 qR1 qR2 qR3 jR zR
    replace KX : Hid (Blk v2 (w.heap.size) 25 [.int .i64 t.count, .int .i64 t.next, .int .i64 t.round, .slice A t.owns.length c]) := Lib.hid (KX.out.chg X2.out (by omega))
    replace KR : Hid (Blk v2 (w.heap.size + 1) 25 [.int .i64 0, .int .i64 0, .int .i64 0, .slice none 0 0]) := Lib.hid (KR.out.chg X2.out (by omega))
    replace DX := Lib.hid (HX.out.ex Ev2.out)
    clear hv2
    refine (tagsValidS_c t _ c _ DX.out hn hc).mono ?_; rintro r w2 ⟨rfl, hb2⟩
    have Y2 : Hid (Chg 0 0 v2 w2) := Lib.hid (Chg.of_ex hb2)
    have s2 : v2.heap.size ≤ w2.heap.size := Y2.out.size
    have Ew2 : Hid (Ex w w2) := Lib.hid (Ev2.out.chg Y2.out (by omega))
    clear hb2
    replace KX : Hid (Blk w2 (w.heap.size) 25 [.int .i64 t.count, .int .i64 t.next, .int .i64 t.round, .slice A t.owns.length c]) := Lib.hid (KX.out.chg Y2.out (by omega))
    replace KR : Hid (Blk w2 (w.heap.size + 1) 25 [.int .i64 0, .int .i64 0, .int .i64 0, .slice none 0 0]) := Lib.hid (KR.out.chg Y2.out (by omega))
    replace DX := Lib.hid (HX.out.ex Ew2.out)
    obtain ⟨qX0, qX1, qX2, qX3⟩ := KX.out.c4
    have jX := KX.out.lt
    obtain ⟨qR0, qR1, qR2, qR3⟩ := KR.out.c4
    have jR := KR.out.lt
    have zR := KR.out.frozen
    rw [hv]
    go_wp2
    exact bodyPost_ret (v := .tuple #[.agg #[.int .i64 0, .int .i64 0, .int .i64 0, .slice none 0 0], .bool false]) (by first | (simp [results, Try.results40, go_sem, qR0, qR1]; done) | (simp [results, Try.results40, go_sem, qR0, qR1, qR2, qR3]; done)) rfl
      ⟨none, 0, rfl, Fr.none_ _ _ _ _, (by repeat' (first | with_reducible exact Ew2.out | with_reducible refine Ex.alloc ?_ _ | with_reducible refine Ex.drew ?_ | with_reducible refine Ex.put ?_ (by omega) _))⟩
  rcases place_or t.owns s with ⟨hp, hnone⟩ | ⟨k, x, hp, hxk, hs⟩
  · have e : leaveTag t s = (noTags, false) := if_neg (fun h => by have := h.2; rw [hp] at this; omega)
    rw [e]
    clear e hnone
    rw [hp] at C1
    clear hp
    go_enter Try.func40, Try.ntmps40
    go_wp2_with fail
    refine name_calls ?_; intro v1 hv1
    have X1 : Hid (Chg (0) (0) w v1) := Lib.hid (by rw [hv1]; repeat' (first | with_reducible exact Chg.refl _ _ _ | with_reducible refine Chg.alloc ?_ _ | with_reducible refine Chg.drew ?_ | with_reducible refine Chg.set ?_ (by omega) _))
    have t1 : w.heap.size ≤ v1.heap.size := X1.out.size
    have Ev1 : Hid (Ex w v1) := Lib.hid ((Ex.refl w).chg X1.out (by omega))
    have KX : Hid (Blk v1 (w.heap.size) 25 [.int .i64 t.count, .int .i64 t.next, .int .i64 t.round, .slice A t.owns.length c]) := Lib.hid (by rw [hv1]; repeat' (first | with_reducible exact Blk.new_at _ _ _ (by simp) | with_reducible refine Blk.alloc ?_ _ | with_reducible refine Blk.drew ?_ | with_reducible refine Blk.far ?_ (by simp; omega) _))
    have lX : w.heap.size < v1.heap.size := KX.out.lt
    have KR : Hid (Blk v1 (w.heap.size + 1) 25 [.int .i64 0, .int .i64 0, .int .i64 0, .slice none 0 0]) := Lib.hid (by rw [hv1]; repeat' (first | with_reducible exact Blk.new_at _ _ _ (by simp) | with_reducible refine Blk.alloc ?_ _ | with_reducible refine Blk.drew ?_ | with_reducible refine Blk.far ?_ (by simp; omega) _))
    have lR : w.heap.size + 1 < v1.heap.size := KR.out.lt
    have DX := Lib.hid (HX.out.ex Ev1.out)
    clear hv1
    refine (C1.out _ c _ DX.out hn).mono ?_; rintro r w1 ⟨rfl, hb1⟩
    have Y1 : Hid (Chg 0 0 v1 w1) := Lib.hid (Chg.of_ex hb1)
    have s1 : v1.heap.size ≤ w1.heap.size := Y1.out.size
    have Ew1 : Hid (Ex w w1) := Lib.hid (Ev1.out.chg Y1.out (by omega))
    clear hb1
    replace KX : Hid (Blk w1 (w.heap.size) 25 [.int .i64 t.count, .int .i64 t.next, .int .i64 t.round, .slice A t.owns.length c]) := Lib.hid (KX.out.chg Y1.out (by omega))
    replace KR : Hid (Blk w1 (w.heap.size + 1) 25 [.int .i64 0, .int .i64 0, .int .i64 0, .slice none 0 0]) := Lib.hid (KR.out.chg Y1.out (by omega))
    replace DX := Lib.hid (HX.out.ex Ew1.out)
    obtain ⟨qX0, qX1, qX2, qX3⟩ := KX.out.c4
    have jX := KX.out.lt
    obtain ⟨qR0, qR1, qR2, qR3⟩ := KR.out.c4
    have jR := KR.out.lt
    have zR := KR.out.frozen
    go_wp2_with fail
    refine name_calls ?_; intro v2 hv2
    have X2 : Hid (Chg (0) (0) w1 v2) := Lib.hid (by rw [hv2]; repeat' (first | with_reducible exact Chg.refl _ _ _ | with_reducible refine Chg.alloc ?_ _ | with_reducible refine Chg.drew ?_ | with_reducible refine Chg.set ?_ (by omega) _))
    have t2 : w1.heap.size ≤ v2.heap.size := X2.out.size
    have Ev2 : Hid (Ex w v2) := Lib.hid (Ew1.out.chg X2.out (by omega))
    clear qX0 qX1 qX2 qX3 jX
    clear qR0 qR1 qR2 qR3 jR zR
    replace KX : Hid (Blk v2 (w.heap.size) 25 [.int .i64 t.count, .int .i64 t.next, .int .i64 t.round, .slice A t.owns.length c]) := Lib.hid (KX.out.chg X2.out (by omega))
    replace KR : Hid (Blk v2 (w.heap.size + 1) 25 [.int .i64 0, .int .i64 0, .int .i64 0, .slice none 0 0]) := Lib.hid (KR.out.chg X2.out (by omega))
    replace DX := Lib.hid (HX.out.ex Ev2.out)
    clear hv2
    refine (tagsValidS_c t _ c _ DX.out hn hc).mono ?_; rintro r w2 ⟨rfl, hb2⟩
    have Y2 : Hid (Chg 0 0 v2 w2) := Lib.hid (Chg.of_ex hb2)
    have s2 : v2.heap.size ≤ w2.heap.size := Y2.out.size
    have Ew2 : Hid (Ex w w2) := Lib.hid (Ev2.out.chg Y2.out (by omega))
    clear hb2
    replace KX : Hid (Blk w2 (w.heap.size) 25 [.int .i64 t.count, .int .i64 t.next, .int .i64 t.round, .slice A t.owns.length c]) := Lib.hid (KX.out.chg Y2.out (by omega))
    replace KR : Hid (Blk w2 (w.heap.size + 1) 25 [.int .i64 0, .int .i64 0, .int .i64 0, .slice none 0 0]) := Lib.hid (KR.out.chg Y2.out (by omega))
    replace DX := Lib.hid (HX.out.ex Ew2.out)
    obtain ⟨qX0, qX1, qX2, qX3⟩ := KX.out.c4
    have jX := KX.out.lt
    obtain ⟨qR0, qR1, qR2, qR3⟩ := KR.out.c4
    have jR := KR.out.lt
    have zR := KR.out.frozen
    rw [hv]
    go_wp2
    exact bodyPost_ret (v := .tuple #[.agg #[.int .i64 0, .int .i64 0, .int .i64 0, .slice none 0 0], .bool false]) (by first | (simp [results, Try.results40, go_sem, qR0, qR1]; done) | (simp [results, Try.results40, go_sem, qR0, qR1, qR2, qR3]; done)) rfl
      ⟨none, 0, rfl, Fr.none_ _ _ _ _, (by repeat' (first | with_reducible exact Ew2.out | with_reducible refine Ex.alloc ?_ _ | with_reducible refine Ex.drew ?_ | with_reducible refine Ex.put ?_ (by omega) _))⟩
  have e : leaveTag t s = (⟨t.count, t.next, t.round, t.owns.take k ++ t.owns.drop (k + 1)⟩, true) := by
    unfold leaveTag
    rw [hp, if_pos ⟨hv, by omega⟩, Int.toNat_natCast]
  rw [e]
  clear e
  rw [hp] at C1
  have hkn := getElem?_lt hxk
  clear hxk hp hs
  obtain ⟨b1, o1, hA, hb1, -⟩ := HX.out (by omega)
  subst hA
  have hk0 : ¬ (k : Int) < 0 := by omega
  have hkl : (k : Int) < (t.owns.length : Int) := by omega
  have hkc : (k : Int) ≤ (c : Int) := by omega
  have hk1 : (k : Int) + 1 ≤ (t.owns.length : Int) := by omega
  have hk2 : (0 : Int) ≤ (k : Int) + 1 := by omega
  have hk3 : (0 : Int) ≤ (k : Int) := by omega
  have htn : ((k : Int) + 1).toNat = k + 1 := by omega
  have hwr : IntKind.i64.wrap ((k : Int) + 1) = (k : Int) + 1 := IntWalk.i64_in _ (by omega)
  have HTK : Hid (k = (t.owns.take k).length) := Lib.hid (by rw [List.length_take]; omega)
  have HTZ : Hid (0 + k = (t.owns.take k).length) := Lib.hid (by rw [List.length_take]; omega)
  have HK1 : Hid (k ≤ 1048576) := Lib.hid (by omega)
  by_cases hck : c = k + 1
  · subst hck
    have hkd : (k : Int) ≤ (k : Int) + 1 := by omega
    have hke : (t.owns.length : Int) ≤ (k : Int) + 1 := by omega
    have HDR : Hid (0 = ([] : List OwnD).length) := Lib.hid (by simp)
    rw [List.drop_of_length_le (l := t.owns) (i := k + 1) (by omega)]
    have HLN : Hid (k = (t.owns.take k ++ ([] : List OwnD)).length) := Lib.hid (by rw [List.length_append, ← HTK.out, ← HDR.out]; try omega)
    have HK2 : Hid (0 ≤ 1048576) := Lib.hid (by omega)
    go_enter Try.func40, Try.ntmps40
    go_wp2_with fail
    refine name_calls ?_; intro v1 hv1
    have X1 : Hid (Chg (0) (0) w v1) := Lib.hid (by rw [hv1]; repeat' (first | with_reducible exact Chg.refl _ _ _ | with_reducible refine Chg.alloc ?_ _ | with_reducible refine Chg.drew ?_ | with_reducible refine Chg.set ?_ (by omega) _))
    have t1 : w.heap.size ≤ v1.heap.size := X1.out.size
    have Ev1 : Hid (Ex w v1) := Lib.hid ((Ex.refl w).chg X1.out (by omega))
    have KX : Hid (Blk v1 (w.heap.size) 25 [.int .i64 t.count, .int .i64 t.next, .int .i64 t.round, .slice (some ⟨b1, o1, none⟩) t.owns.length (k + 1)]) := Lib.hid (by rw [hv1]; repeat' (first | with_reducible exact Blk.new_at _ _ _ (by simp) | with_reducible refine Blk.alloc ?_ _ | with_reducible refine Blk.drew ?_ | with_reducible refine Blk.far ?_ (by simp; omega) _))
    have lX : w.heap.size < v1.heap.size := KX.out.lt
    have KR : Hid (Blk v1 (w.heap.size + 1) 25 [.int .i64 0, .int .i64 0, .int .i64 0, .slice none 0 0]) := Lib.hid (by rw [hv1]; repeat' (first | with_reducible exact Blk.new_at _ _ _ (by simp) | with_reducible refine Blk.alloc ?_ _ | with_reducible refine Blk.drew ?_ | with_reducible refine Blk.far ?_ (by simp; omega) _))
    have lR : w.heap.size + 1 < v1.heap.size := KR.out.lt
    have DX := Lib.hid (HX.out.ex Ev1.out)
    clear hv1
    refine (C1.out _ (k + 1) _ DX.out hn).mono ?_; rintro r w1 ⟨rfl, hb1⟩
    have Y1 : Hid (Chg 0 0 v1 w1) := Lib.hid (Chg.of_ex hb1)
    have s1 : v1.heap.size ≤ w1.heap.size := Y1.out.size
    have Ew1 : Hid (Ex w w1) := Lib.hid (Ev1.out.chg Y1.out (by omega))
    clear hb1
    replace KX : Hid (Blk w1 (w.heap.size) 25 [.int .i64 t.count, .int .i64 t.next, .int .i64 t.round, .slice (some ⟨b1, o1, none⟩) t.owns.length (k + 1)]) := Lib.hid (KX.out.chg Y1.out (by omega))
    replace KR : Hid (Blk w1 (w.heap.size + 1) 25 [.int .i64 0, .int .i64 0, .int .i64 0, .slice none 0 0]) := Lib.hid (KR.out.chg Y1.out (by omega))
    replace DX := Lib.hid (HX.out.ex Ew1.out)
    obtain ⟨qX0, qX1, qX2, qX3⟩ := KX.out.c4
    have jX := KX.out.lt
    obtain ⟨qR0, qR1, qR2, qR3⟩ := KR.out.c4
    have jR := KR.out.lt
    have zR := KR.out.frozen
    go_wp2_with fail
    refine name_calls ?_; intro v2 hv2
    have X2 : Hid (Chg (0) (0) w1 v2) := Lib.hid (by rw [hv2]; repeat' (first | with_reducible exact Chg.refl _ _ _ | with_reducible refine Chg.alloc ?_ _ | with_reducible refine Chg.drew ?_ | with_reducible refine Chg.set ?_ (by omega) _))
    have t2 : w1.heap.size ≤ v2.heap.size := X2.out.size
    have Ev2 : Hid (Ex w v2) := Lib.hid (Ew1.out.chg X2.out (by omega))
    clear qX0 qX1 qX2 qX3 jX
    clear qR0 qR1 qR2 qR3 jR zR
    replace KX : Hid (Blk v2 (w.heap.size) 25 [.int .i64 t.count, .int .i64 t.next, .int .i64 t.round, .slice (some ⟨b1, o1, none⟩) t.owns.length (k + 1)]) := Lib.hid (KX.out.chg X2.out (by omega))
    replace KR : Hid (Blk v2 (w.heap.size + 1) 25 [.int .i64 0, .int .i64 0, .int .i64 0, .slice none 0 0]) := Lib.hid (KR.out.chg X2.out (by omega))
    replace DX := Lib.hid (HX.out.ex Ev2.out)
    clear hv2
    refine (tagsValidS_c t _ (k + 1) _ DX.out hn hc).mono ?_; rintro r w2 ⟨rfl, hb2⟩
    have Y2 : Hid (Chg 0 0 v2 w2) := Lib.hid (Chg.of_ex hb2)
    have s2 : v2.heap.size ≤ w2.heap.size := Y2.out.size
    have Ew2 : Hid (Ex w w2) := Lib.hid (Ev2.out.chg Y2.out (by omega))
    clear hb2
    replace KX : Hid (Blk w2 (w.heap.size) 25 [.int .i64 t.count, .int .i64 t.next, .int .i64 t.round, .slice (some ⟨b1, o1, none⟩) t.owns.length (k + 1)]) := Lib.hid (KX.out.chg Y2.out (by omega))
    replace KR : Hid (Blk w2 (w.heap.size + 1) 25 [.int .i64 0, .int .i64 0, .int .i64 0, .slice none 0 0]) := Lib.hid (KR.out.chg Y2.out (by omega))
    replace DX := Lib.hid (HX.out.ex Ew2.out)
    obtain ⟨qX0, qX1, qX2, qX3⟩ := KX.out.c4
    have jX := KX.out.lt
    obtain ⟨qR0, qR1, qR2, qR3⟩ := KR.out.c4
    have jR := KR.out.lt
    have zR := KR.out.frozen
    rw [hv]
    go_wp2_with fail
    refine name_calls ?_; intro v3 hv3
    have X3 : Hid (Chg (0) (0) w2 v3) := Lib.hid (by rw [hv3]; repeat' (first | with_reducible exact Chg.refl _ _ _ | with_reducible refine Chg.alloc ?_ _ | with_reducible refine Chg.drew ?_ | with_reducible refine Chg.set ?_ (by omega) _))
    have t3 : w2.heap.size ≤ v3.heap.size := X3.out.size
    have Ev3 : Hid (Ex w v3) := Lib.hid (Ew2.out.chg X3.out (by omega))
    clear qX0 qX1 qX2 qX3 jX
    clear qR0 qR1 qR2 qR3 jR zR
    replace KX : Hid (Blk v3 (w.heap.size) 25 [.int .i64 t.count, .int .i64 t.next, .int .i64 t.round, .slice (some ⟨b1, o1, none⟩) t.owns.length (k + 1)]) := Lib.hid (KX.out.chg X3.out (by omega))
    replace KR : Hid (Blk v3 (w.heap.size + 1) 25 [.int .i64 0, .int .i64 0, .int .i64 0, .slice none 0 0]) := Lib.hid (KR.out.chg X3.out (by omega))
    replace DX := Lib.hid (HX.out.ex Ev3.out)
    clear hv3
    refine (l5Copy_c t _ (k + 1) _ DX.out hn hc hc2).mono ?_; rintro r w3 ⟨A3, c3, rfl, hf3, hb3⟩
    have Y3 : Hid (Chg 0 0 v3 w3) := Lib.hid (Chg.of_ex hb3)
    have s3 : v3.heap.size ≤ w3.heap.size := Y3.out.size
    have Ew3 : Hid (Ex w w3) := Lib.hid (Ev3.out.chg Y3.out (by omega))
    clear hb3
    replace KX : Hid (Blk w3 (w.heap.size) 25 [.int .i64 t.count, .int .i64 t.next, .int .i64 t.round, .slice (some ⟨b1, o1, none⟩) t.owns.length (k + 1)]) := Lib.hid (KX.out.chg Y3.out (by omega))
    replace KR : Hid (Blk w3 (w.heap.size + 1) 25 [.int .i64 0, .int .i64 0, .int .i64 0, .slice none 0 0]) := Lib.hid (KR.out.chg Y3.out (by omega))
    replace DX := Lib.hid (HX.out.ex Ew3.out)
    have HF3 := Lib.hid hf3; clear hf3
    have WHF3 := Lib.hid HF3.out.row
    obtain ⟨qX0, qX1, qX2, qX3⟩ := KX.out.c4
    have jX := KX.out.lt
    obtain ⟨qR0, qR1, qR2, qR3⟩ := KR.out.c4
    have jR := KR.out.lt
    have zR := KR.out.frozen
    go_wp2_with fail
    obtain ⟨w0, hw0⟩ : ∃ w0 : World, w0 = w3.alloc (.cells #[.int .i64 t.count, .int .i64 t.next, .int .i64 t.round, .slice A3 t.owns.length c3] 25) := ⟨_, rfl⟩
    obtain ⟨gO, hgO⟩ : ∃ gO : Nat, gO = w3.heap.size := ⟨_, rfl⟩
    have E0 : Hid (Ex w w0) := Lib.hid (by rw [hw0]; exact Ew3.out.alloc _)
    have KO : Hid (Blk w0 gO 25 [.int .i64 t.count, .int .i64 t.next, .int .i64 t.round, .slice A3 t.owns.length c3]) := Lib.hid (by rw [hw0, hgO]; exact Blk.new _ _ _)
    have KX0 : Hid (Blk w0 w.heap.size 25 [.int .i64 t.count, .int .i64 t.next, .int .i64 t.round, .slice (some ⟨b1, o1, none⟩) t.owns.length (k + 1)]) := Lib.hid (by rw [hw0]; exact KX.out.alloc _)
    have KR0 : Hid (Blk w0 (w.heap.size + 1) 25 [.int .i64 0, .int .i64 0, .int .i64 0, .slice none 0 0]) := Lib.hid (by rw [hw0]; exact KR.out.alloc _)
    have DXE : Hid (Rd w0 (some ⟨b1, o1, none⟩) t.owns) := Lib.hid (by rw [hw0]; exact DX.out.alloc _)
    have LO : Hid (gO < w0.heap.size ∧ w.heap.size + 1 < gO) := Lib.hid ⟨KO.out.lt, by omega⟩
    have FK : Hid (∀ w', Chg gO (gO + 1) w0 w' → w'.cell? ⟨w.heap.size, 3, none⟩ = some (.slice (some ⟨b1, o1, none⟩) t.owns.length (k + 1))) := Lib.hid (fun w' h => (KX0.out.chg h (by have := LO.out; omega)).c4.2.2.2)
    have RD2 : Hid (∀ w', Ex w0 w' → Rd w' (some ⟨b1, o1, none⟩) ([] : List OwnD)) := Lib.hid (fun w' h => Rd.nil _ _)
    have RD1 : Hid (∀ w', Ex w0 w' → Rd w' (some ⟨b1, o1, none⟩) (t.owns.take k)) := Lib.hid (fun w' h => (DXE.out.ex h).take k)
    rw [← hw0]
    try rw [← hgO]
    clear hw0 hgO KX KR qX0 qX1 qX2 qX3 jX qR0 qR1 qR2 qR3 jR zR DX
    have HO : Hid (∀ (w1 : World) (a : Option Addr), Fr 50 w1 w0.heap.size a 0 ([] : List OwnD)) := Lib.hid (fun w1 a => Fr.none_ _ _ _ _)
    have HSZ : Hid (∀ o : Obj, w0.heap.size ≤ (w0.alloc o).drew.heap.size) := Lib.hid (fun o => by simp)
    have H63 : Hid (0 + k ≤ maxLen) := Lib.hid (by have := HK1.out; simp [maxLen]; omega)
    have HBY : Hid ((0 + k) * 16 ≤ 140737488355328) := Lib.hid (by have := HK1.out; omega)
    have H64 : Hid (0 + k + 0 ≤ maxLen) := Lib.hid (by simp [maxLen]; omega)
    have HBZ : Hid ((0 + k + 0) * 16 ≤ 140737488355328) := Lib.hid (by omega)
    have HBG : Hid (∀ (o : Obj) (w2 : World) (a : Option Addr), (w0.alloc o).drew.grownBy w2 (rowOf a 0) → Ex w0 w2) := Lib.hid (fun o w2 a hg => (((Ex.refl w0).alloc _).drew).grown hg (by rintro k hk; simp [rowOf] at hk))
    go_region_held3 (fun w' => w'.cell? ⟨w.heap.size, 3, none⟩ = some (.slice (some ⟨b1, o1, none⟩) t.owns.length (k + 1))) ((refine FK.out _ ?_; with_reducible (first | exact Chg.refl _ _ _ | exact (Chg.refl _ _ _).drew | exact ((Chg.refl _ _ _).alloc _).drew | exact (Chg.of_ex hba).mono' _ _ | exact (Chg.of_ex hbb).mono' _ _ | exact Chg.set ((Chg.of_ex hbb).mono' _ _) (.inl ⟨Nat.le_refl _, Nat.lt_succ_self _⟩) _))) (first | (refine step_append_fr (α := OwnD) rfl _ _ 23 rfl 50 i0 _ 16 w0.heap.size Try.underlying23 hi hz0 hz1 hz2 rfl _ 0 0 [] rfl rfl (HO.out _ _) (some ⟨b1, o1, none⟩) (k + 1) k (t.owns.take k) HTK.out rfl (RD1.out _ ((Ex.refl _).alloc _).drew) H63.out HBY.out (HSZ.out _) ?_; intro A4 c4 w4 ha; have hba := HBG.out _ _ _ ha.grown; have hfa := ha.fr) | (refine step_append_fr (α := OwnD) rfl _ _ 23 rfl 50 i0 _ 16 w0.heap.size Try.underlying23 hi hz0 hz1 hz2 rfl A4 c4 (0 + k) (t.owns.take k) HTZ.out rfl hfa (some ⟨b1, o1, none⟩) _ 0 ([] : List OwnD) HDR.out rfl (RD2.out _ hba) H64.out HBZ.out hba.size ?_; intro A5 c5 w5 hb; have hbb := hba.grown hb.grown (fun g hg => (hfa.row g hg).1); have hr := Blk.ex KO.out hbb; obtain ⟨hr0, hr1, hr2, hr3⟩ := hr.c4; have hrf := hr.frozen; have hrl := hr.lt; clear hr))
    rename_i hHeld
    clear hHeld hr0 hr1 hr2 hr3 hrf hrl
    have HF := Lib.hid hb.fr
    have HBA := Lib.hid hbb
    try simp only [Nat.zero_add, List.nil_append] at HF
    try simp only [Nat.zero_add]
    clear hfa hba ha hb hbb
    obtain ⟨qO0, qO1, qO2, qO3⟩ := (KO.out.ex HBA.out).c4
    have jO := (KO.out.ex HBA.out).lt
    have zO := (KO.out.ex HBA.out).frozen
    obtain ⟨qR0, qR1, qR2, qR3⟩ := (KR0.out.ex HBA.out).c4
    have jR := (KR0.out.ex HBA.out).lt
    have zR := (KR0.out.ex HBA.out).frozen
    have hRO : ¬ w.heap.size + 1 = gO := by have := LO.out; omega
    have hRO' : ¬ gO = w.heap.size + 1 := by have := LO.out; omega
    have hLO := LO.out
    go_wp2
    exact bodyPost_ret (v := .tuple #[.agg #[.int .i64 t.count, .int .i64 t.next, .int .i64 t.round, .slice A5 k c5], .bool true]) (by first | (simp [results, Try.results40, go_sem, qR0, qR1]; done) | (simp [results, Try.results40, go_sem, qR0, qR1, qR2, qR3]; done)) rfl
      ⟨A5, c5, by rw [← HLN.out], Fr.mono (B := w0.heap.size) (by repeat' (first | with_reducible exact HF.out | with_reducible refine Fr.set_below ?_ (by simp only; omega) _)) E0.out.size, (by repeat' (first | with_reducible exact E0.out.trans HBA.out | with_reducible refine Ex.alloc ?_ _ | with_reducible refine Ex.drew ?_ | with_reducible refine Ex.put ?_ (by omega) _))⟩
  · have HDR : Hid ((t.owns.length - (k + 1)) = (t.owns.drop (k + 1)).length) := Lib.hid (by simp)
    have HLN : Hid ((k + (t.owns.length - (k + 1))) = (t.owns.take k ++ (t.owns.drop (k + 1))).length) := Lib.hid (by rw [List.length_append, ← HTK.out, ← HDR.out]; try omega)
    have HK2 : Hid ((t.owns.length - (k + 1)) ≤ 1048576) := Lib.hid (by omega)
    go_enter Try.func40, Try.ntmps40
    go_wp2_with fail
    refine name_calls ?_; intro v1 hv1
    have X1 : Hid (Chg (0) (0) w v1) := Lib.hid (by rw [hv1]; repeat' (first | with_reducible exact Chg.refl _ _ _ | with_reducible refine Chg.alloc ?_ _ | with_reducible refine Chg.drew ?_ | with_reducible refine Chg.set ?_ (by omega) _))
    have t1 : w.heap.size ≤ v1.heap.size := X1.out.size
    have Ev1 : Hid (Ex w v1) := Lib.hid ((Ex.refl w).chg X1.out (by omega))
    have KX : Hid (Blk v1 (w.heap.size) 25 [.int .i64 t.count, .int .i64 t.next, .int .i64 t.round, .slice (some ⟨b1, o1, none⟩) t.owns.length c]) := Lib.hid (by rw [hv1]; repeat' (first | with_reducible exact Blk.new_at _ _ _ (by simp) | with_reducible refine Blk.alloc ?_ _ | with_reducible refine Blk.drew ?_ | with_reducible refine Blk.far ?_ (by simp; omega) _))
    have lX : w.heap.size < v1.heap.size := KX.out.lt
    have KR : Hid (Blk v1 (w.heap.size + 1) 25 [.int .i64 0, .int .i64 0, .int .i64 0, .slice none 0 0]) := Lib.hid (by rw [hv1]; repeat' (first | with_reducible exact Blk.new_at _ _ _ (by simp) | with_reducible refine Blk.alloc ?_ _ | with_reducible refine Blk.drew ?_ | with_reducible refine Blk.far ?_ (by simp; omega) _))
    have lR : w.heap.size + 1 < v1.heap.size := KR.out.lt
    have DX := Lib.hid (HX.out.ex Ev1.out)
    clear hv1
    refine (C1.out _ c _ DX.out hn).mono ?_; rintro r w1 ⟨rfl, hb1⟩
    have Y1 : Hid (Chg 0 0 v1 w1) := Lib.hid (Chg.of_ex hb1)
    have s1 : v1.heap.size ≤ w1.heap.size := Y1.out.size
    have Ew1 : Hid (Ex w w1) := Lib.hid (Ev1.out.chg Y1.out (by omega))
    clear hb1
    replace KX : Hid (Blk w1 (w.heap.size) 25 [.int .i64 t.count, .int .i64 t.next, .int .i64 t.round, .slice (some ⟨b1, o1, none⟩) t.owns.length c]) := Lib.hid (KX.out.chg Y1.out (by omega))
    replace KR : Hid (Blk w1 (w.heap.size + 1) 25 [.int .i64 0, .int .i64 0, .int .i64 0, .slice none 0 0]) := Lib.hid (KR.out.chg Y1.out (by omega))
    replace DX := Lib.hid (HX.out.ex Ew1.out)
    obtain ⟨qX0, qX1, qX2, qX3⟩ := KX.out.c4
    have jX := KX.out.lt
    obtain ⟨qR0, qR1, qR2, qR3⟩ := KR.out.c4
    have jR := KR.out.lt
    have zR := KR.out.frozen
    go_wp2_with fail
    refine name_calls ?_; intro v2 hv2
    have X2 : Hid (Chg (0) (0) w1 v2) := Lib.hid (by rw [hv2]; repeat' (first | with_reducible exact Chg.refl _ _ _ | with_reducible refine Chg.alloc ?_ _ | with_reducible refine Chg.drew ?_ | with_reducible refine Chg.set ?_ (by omega) _))
    have t2 : w1.heap.size ≤ v2.heap.size := X2.out.size
    have Ev2 : Hid (Ex w v2) := Lib.hid (Ew1.out.chg X2.out (by omega))
    clear qX0 qX1 qX2 qX3 jX
    clear qR0 qR1 qR2 qR3 jR zR
    replace KX : Hid (Blk v2 (w.heap.size) 25 [.int .i64 t.count, .int .i64 t.next, .int .i64 t.round, .slice (some ⟨b1, o1, none⟩) t.owns.length c]) := Lib.hid (KX.out.chg X2.out (by omega))
    replace KR : Hid (Blk v2 (w.heap.size + 1) 25 [.int .i64 0, .int .i64 0, .int .i64 0, .slice none 0 0]) := Lib.hid (KR.out.chg X2.out (by omega))
    replace DX := Lib.hid (HX.out.ex Ev2.out)
    clear hv2
    refine (tagsValidS_c t _ c _ DX.out hn hc).mono ?_; rintro r w2 ⟨rfl, hb2⟩
    have Y2 : Hid (Chg 0 0 v2 w2) := Lib.hid (Chg.of_ex hb2)
    have s2 : v2.heap.size ≤ w2.heap.size := Y2.out.size
    have Ew2 : Hid (Ex w w2) := Lib.hid (Ev2.out.chg Y2.out (by omega))
    clear hb2
    replace KX : Hid (Blk w2 (w.heap.size) 25 [.int .i64 t.count, .int .i64 t.next, .int .i64 t.round, .slice (some ⟨b1, o1, none⟩) t.owns.length c]) := Lib.hid (KX.out.chg Y2.out (by omega))
    replace KR : Hid (Blk w2 (w.heap.size + 1) 25 [.int .i64 0, .int .i64 0, .int .i64 0, .slice none 0 0]) := Lib.hid (KR.out.chg Y2.out (by omega))
    replace DX := Lib.hid (HX.out.ex Ew2.out)
    obtain ⟨qX0, qX1, qX2, qX3⟩ := KX.out.c4
    have jX := KX.out.lt
    obtain ⟨qR0, qR1, qR2, qR3⟩ := KR.out.c4
    have jR := KR.out.lt
    have zR := KR.out.frozen
    rw [hv]
    go_wp2_with fail
    refine name_calls ?_; intro v3 hv3
    have X3 : Hid (Chg (0) (0) w2 v3) := Lib.hid (by rw [hv3]; repeat' (first | with_reducible exact Chg.refl _ _ _ | with_reducible refine Chg.alloc ?_ _ | with_reducible refine Chg.drew ?_ | with_reducible refine Chg.set ?_ (by omega) _))
    have t3 : w2.heap.size ≤ v3.heap.size := X3.out.size
    have Ev3 : Hid (Ex w v3) := Lib.hid (Ew2.out.chg X3.out (by omega))
    clear qX0 qX1 qX2 qX3 jX
    clear qR0 qR1 qR2 qR3 jR zR
    replace KX : Hid (Blk v3 (w.heap.size) 25 [.int .i64 t.count, .int .i64 t.next, .int .i64 t.round, .slice (some ⟨b1, o1, none⟩) t.owns.length c]) := Lib.hid (KX.out.chg X3.out (by omega))
    replace KR : Hid (Blk v3 (w.heap.size + 1) 25 [.int .i64 0, .int .i64 0, .int .i64 0, .slice none 0 0]) := Lib.hid (KR.out.chg X3.out (by omega))
    replace DX := Lib.hid (HX.out.ex Ev3.out)
    clear hv3
    refine (l5Copy_c t _ c _ DX.out hn hc hc2).mono ?_; rintro r w3 ⟨A3, c3, rfl, hf3, hb3⟩
    have Y3 : Hid (Chg 0 0 v3 w3) := Lib.hid (Chg.of_ex hb3)
    have s3 : v3.heap.size ≤ w3.heap.size := Y3.out.size
    have Ew3 : Hid (Ex w w3) := Lib.hid (Ev3.out.chg Y3.out (by omega))
    clear hb3
    replace KX : Hid (Blk w3 (w.heap.size) 25 [.int .i64 t.count, .int .i64 t.next, .int .i64 t.round, .slice (some ⟨b1, o1, none⟩) t.owns.length c]) := Lib.hid (KX.out.chg Y3.out (by omega))
    replace KR : Hid (Blk w3 (w.heap.size + 1) 25 [.int .i64 0, .int .i64 0, .int .i64 0, .slice none 0 0]) := Lib.hid (KR.out.chg Y3.out (by omega))
    replace DX := Lib.hid (HX.out.ex Ew3.out)
    have HF3 := Lib.hid hf3; clear hf3
    have WHF3 := Lib.hid HF3.out.row
    obtain ⟨qX0, qX1, qX2, qX3⟩ := KX.out.c4
    have jX := KX.out.lt
    obtain ⟨qR0, qR1, qR2, qR3⟩ := KR.out.c4
    have jR := KR.out.lt
    have zR := KR.out.frozen
    go_wp2_with fail
    obtain ⟨w0, hw0⟩ : ∃ w0 : World, w0 = w3.alloc (.cells #[.int .i64 t.count, .int .i64 t.next, .int .i64 t.round, .slice A3 t.owns.length c3] 25) := ⟨_, rfl⟩
    obtain ⟨gO, hgO⟩ : ∃ gO : Nat, gO = w3.heap.size := ⟨_, rfl⟩
    have E0 : Hid (Ex w w0) := Lib.hid (by rw [hw0]; exact Ew3.out.alloc _)
    have KO : Hid (Blk w0 gO 25 [.int .i64 t.count, .int .i64 t.next, .int .i64 t.round, .slice A3 t.owns.length c3]) := Lib.hid (by rw [hw0, hgO]; exact Blk.new _ _ _)
    have KX0 : Hid (Blk w0 w.heap.size 25 [.int .i64 t.count, .int .i64 t.next, .int .i64 t.round, .slice (some ⟨b1, o1, none⟩) t.owns.length c]) := Lib.hid (by rw [hw0]; exact KX.out.alloc _)
    have KR0 : Hid (Blk w0 (w.heap.size + 1) 25 [.int .i64 0, .int .i64 0, .int .i64 0, .slice none 0 0]) := Lib.hid (by rw [hw0]; exact KR.out.alloc _)
    have DXE : Hid (Rd w0 (some ⟨b1, o1, none⟩) t.owns) := Lib.hid (by rw [hw0]; exact DX.out.alloc _)
    have LO : Hid (gO < w0.heap.size ∧ w.heap.size + 1 < gO) := Lib.hid ⟨KO.out.lt, by omega⟩
    have FK : Hid (∀ w', Chg gO (gO + 1) w0 w' → w'.cell? ⟨w.heap.size, 3, none⟩ = some (.slice (some ⟨b1, o1, none⟩) t.owns.length c)) := Lib.hid (fun w' h => (KX0.out.chg h (by have := LO.out; omega)).c4.2.2.2)
    have RD2 : Hid (∀ w', Ex w0 w' → Rd w' (some ⟨b1, o1 + (k + 1) * 2, none⟩) (t.owns.drop (k + 1))) := Lib.hid (fun w' h => Rd.rest_ (DXE.out.ex h))
    have RD1 : Hid (∀ w', Ex w0 w' → Rd w' (some ⟨b1, o1, none⟩) (t.owns.take k)) := Lib.hid (fun w' h => (DXE.out.ex h).take k)
    rw [← hw0]
    try rw [← hgO]
    clear hw0 hgO KX KR qX0 qX1 qX2 qX3 jX qR0 qR1 qR2 qR3 jR zR DX
    have HO : Hid (∀ (w1 : World) (a : Option Addr), Fr 50 w1 w0.heap.size a 0 ([] : List OwnD)) := Lib.hid (fun w1 a => Fr.none_ _ _ _ _)
    have HSZ : Hid (∀ o : Obj, w0.heap.size ≤ (w0.alloc o).drew.heap.size) := Lib.hid (fun o => by simp)
    have H63 : Hid (0 + k ≤ maxLen) := Lib.hid (by have := HK1.out; simp [maxLen]; omega)
    have HBY : Hid ((0 + k) * 16 ≤ 140737488355328) := Lib.hid (by have := HK1.out; omega)
    have H64 : Hid (0 + k + (t.owns.length - (k + 1)) ≤ maxLen) := Lib.hid (by simp [maxLen]; omega)
    have HBZ : Hid ((0 + k + (t.owns.length - (k + 1))) * 16 ≤ 140737488355328) := Lib.hid (by omega)
    have HBG : Hid (∀ (o : Obj) (w2 : World) (a : Option Addr), (w0.alloc o).drew.grownBy w2 (rowOf a 0) → Ex w0 w2) := Lib.hid (fun o w2 a hg => (((Ex.refl w0).alloc _).drew).grown hg (by rintro k hk; simp [rowOf] at hk))
    go_region_held3 (fun w' => w'.cell? ⟨w.heap.size, 3, none⟩ = some (.slice (some ⟨b1, o1, none⟩) t.owns.length c)) ((refine FK.out _ ?_; with_reducible (first | exact Chg.refl _ _ _ | exact (Chg.refl _ _ _).drew | exact ((Chg.refl _ _ _).alloc _).drew | exact (Chg.of_ex hba).mono' _ _ | exact (Chg.of_ex hbb).mono' _ _ | exact Chg.set ((Chg.of_ex hbb).mono' _ _) (.inl ⟨Nat.le_refl _, Nat.lt_succ_self _⟩) _))) (first | (refine step_append_fr (α := OwnD) rfl _ _ 23 rfl 50 i0 _ 16 w0.heap.size Try.underlying23 hi hz0 hz1 hz2 rfl _ 0 0 [] rfl rfl (HO.out _ _) (some ⟨b1, o1, none⟩) c k (t.owns.take k) HTK.out rfl (RD1.out _ ((Ex.refl _).alloc _).drew) H63.out HBY.out (HSZ.out _) ?_; intro A4 c4 w4 ha; have hba := HBG.out _ _ _ ha.grown; have hfa := ha.fr) | (refine step_append_fr (α := OwnD) rfl _ _ 23 rfl 50 i0 _ 16 w0.heap.size Try.underlying23 hi hz0 hz1 hz2 rfl A4 c4 (0 + k) (t.owns.take k) HTZ.out rfl hfa (some ⟨b1, o1 + (k + 1) * 2, none⟩) _ (t.owns.length - (k + 1)) (t.owns.drop (k + 1)) HDR.out rfl (RD2.out _ hba) H64.out HBZ.out hba.size ?_; intro A5 c5 w5 hb; have hbb := hba.grown hb.grown (fun g hg => (hfa.row g hg).1); have hr := Blk.ex KO.out hbb; obtain ⟨hr0, hr1, hr2, hr3⟩ := hr.c4; have hrf := hr.frozen; have hrl := hr.lt; clear hr))
    rename_i hHeld
    clear hHeld hr0 hr1 hr2 hr3 hrf hrl
    have HF := Lib.hid hb.fr
    have HBA := Lib.hid hbb
    try simp only [Nat.zero_add, List.nil_append] at HF
    try simp only [Nat.zero_add]
    clear hfa hba ha hb hbb
    obtain ⟨qO0, qO1, qO2, qO3⟩ := (KO.out.ex HBA.out).c4
    have jO := (KO.out.ex HBA.out).lt
    have zO := (KO.out.ex HBA.out).frozen
    obtain ⟨qR0, qR1, qR2, qR3⟩ := (KR0.out.ex HBA.out).c4
    have jR := (KR0.out.ex HBA.out).lt
    have zR := (KR0.out.ex HBA.out).frozen
    have hRO : ¬ w.heap.size + 1 = gO := by have := LO.out; omega
    have hRO' : ¬ gO = w.heap.size + 1 := by have := LO.out; omega
    have hLO := LO.out
    go_wp2
    exact bodyPost_ret (v := .tuple #[.agg #[.int .i64 t.count, .int .i64 t.next, .int .i64 t.round, .slice A5 (k + (t.owns.length - (k + 1))) c5], .bool true]) (by first | (simp [results, Try.results40, go_sem, qR0, qR1]; done) | (simp [results, Try.results40, go_sem, qR0, qR1, qR2, qR3]; done)) rfl
      ⟨A5, c5, by rw [← HLN.out], Fr.mono (B := w0.heap.size) (by repeat' (first | with_reducible exact HF.out | with_reducible refine Fr.set_below ?_ (by simp only; omega) _)) E0.out.size, (by repeat' (first | with_reducible exact E0.out.trans HBA.out | with_reducible refine Ex.alloc ?_ _ | with_reducible refine Ex.drew ?_ | with_reducible refine Ex.put ?_ (by omega) _))⟩
end Go.Proofs.Ytidnefcnojedoaa
