/- WireLine: the reference's walk. -/
import Derived.Test.YtidnefcnojedoaaCn
import Derived.Test.YtidnefcnojedoaaChg
namespace Go.Proofs.Ytidnefcnojedoaa
open Go.ChangeShapes Go.WideShapes Go.ChangeAt Go.RowKit
open Rec (sz cs)
set_option linter.unusedVariables false
set_option maxRecDepth 100000

theorem wire_few (t : CacheD) (p : Int) (b : Bool) (hn : t.lines.length ≤ 1048576) : (wireLine t p b).1.lines.length ≤ 1048576 := by
  unfold wireLine
  split
  · simp [wireOut]; exact hn
  · simp [noCache]

set_option maxHeartbeats 2000000 in
theorem wireS_c (t : CacheD) (p : Int) (b : Bool) (A : Option Addr) (c : Nat) (w : World) (hx : Rd w A t.lines) (hn : t.lines.length ≤ 1048576) (hc : t.lines.length ≤ c) (hc2 : c ≤ maxLen) :
    Calls Try.prog 45 #[.agg #[.slice A t.lines.length c, .int .i64 t.hand], .int .i64 p, .bool b] w
    fun r w' => ∃ A' c', r = .returned (.tuple #[.agg #[.slice A' (wireLine t p b).1.lines.length c', .int .i64 (wireLine t p b).1.hand], .bool (wireLine t p b).2]) ∧ Fr 43 w' w.heap.size A' c' (wireLine t p b).1.lines ∧ Ex w w' := by
  have HX := Lib.hid hx
  clear hx
  cases hv : cacheV t
  · have e : wireLine t p b = (noCache, false) := if_neg (fun h => by rw [hv] at h; cases h.1)
    rw [e]
    clear e
    go_enter Try.func45, Try.ntmps45
    go_wp2_with fail
    refine name_calls ?_; intro v1 hv1
    have X1 : Hid (Chg (0) (0) w v1) := Lib.hid (by rw [hv1]; repeat' (first | with_reducible exact Chg.refl _ _ _ | with_reducible refine Chg.alloc ?_ _ | with_reducible refine Chg.drew ?_ | with_reducible refine Chg.set ?_ (by omega) _))
    have t1 : w.heap.size ≤ v1.heap.size := X1.out.size
    have Ev1 : Hid (Ex w v1) := Lib.hid ((Ex.refl w).chg X1.out (by omega))
    have KX : Hid (Blk v1 (w.heap.size) 33 [.slice A t.lines.length c, .int .i64 t.hand]) := Lib.hid (by rw [hv1]; repeat' (first | with_reducible exact Blk.new_at _ _ _ (by simp) | with_reducible refine Blk.alloc ?_ _ | with_reducible refine Blk.drew ?_ | with_reducible refine Blk.far ?_ (by simp; omega) _))
    have lX : w.heap.size < v1.heap.size := KX.out.lt
    have KR : Hid (Blk v1 (w.heap.size + 1) 33 [.slice none 0 0, .int .i64 0]) := Lib.hid (by rw [hv1]; repeat' (first | with_reducible exact Blk.new_at _ _ _ (by simp) | with_reducible refine Blk.alloc ?_ _ | with_reducible refine Blk.drew ?_ | with_reducible refine Blk.far ?_ (by simp; omega) _))
    have lR : w.heap.size + 1 < v1.heap.size := KR.out.lt
    have DX := Lib.hid (HX.out.ex Ev1.out)
    clear hv1
    refine (cacheValidS_c t A c _ DX.out hn hc).mono ?_; rintro r w1 ⟨rfl, hb1⟩
    have Y1 : Hid (Chg 0 0 v1 w1) := Lib.hid (Chg.of_ex hb1)
    have s1 : v1.heap.size ≤ w1.heap.size := Y1.out.size
    have Ew1 : Hid (Ex w w1) := Lib.hid (Ev1.out.chg Y1.out (by omega))
    clear hb1
    replace KX : Hid (Blk w1 (w.heap.size) 33 [.slice A t.lines.length c, .int .i64 t.hand]) := Lib.hid (KX.out.chg Y1.out (by omega))
    replace KR : Hid (Blk w1 (w.heap.size + 1) 33 [.slice none 0 0, .int .i64 0]) := Lib.hid (KR.out.chg Y1.out (by omega))
    replace DX := Lib.hid (HX.out.ex Ew1.out)
    obtain ⟨qX0, qX1⟩ := KX.out.c2
    have jX := KX.out.lt
    obtain ⟨qR0, qR1⟩ := KR.out.c2
    have jR := KR.out.lt
    have zR := KR.out.frozen
    rw [hv]
    go_wp2
    exact bodyPost_ret (v := .tuple #[.agg #[.slice none 0 0, .int .i64 0], .bool false]) (by simp [results, Try.results45, go_sem, qR0, qR1]) rfl
      ⟨none, 0, rfl, Fr.none_ _ _ _ _, (Ew1.out.set (Nat.le_add_right _ 1) _).set (Nat.le_add_right _ 1) _⟩
  by_cases hp0 : p < 0
  · have e : wireLine t p b = (noCache, false) := if_neg (fun h => by have := inB_true.1 h.2.1; omega)
    rw [e]
    clear e
    go_enter Try.func45, Try.ntmps45
    go_wp2_with fail
    refine name_calls ?_; intro v1 hv1
    have X1 : Hid (Chg (0) (0) w v1) := Lib.hid (by rw [hv1]; repeat' (first | with_reducible exact Chg.refl _ _ _ | with_reducible refine Chg.alloc ?_ _ | with_reducible refine Chg.drew ?_ | with_reducible refine Chg.set ?_ (by omega) _))
    have t1 : w.heap.size ≤ v1.heap.size := X1.out.size
    have Ev1 : Hid (Ex w v1) := Lib.hid ((Ex.refl w).chg X1.out (by omega))
    have KX : Hid (Blk v1 (w.heap.size) 33 [.slice A t.lines.length c, .int .i64 t.hand]) := Lib.hid (by rw [hv1]; repeat' (first | with_reducible exact Blk.new_at _ _ _ (by simp) | with_reducible refine Blk.alloc ?_ _ | with_reducible refine Blk.drew ?_ | with_reducible refine Blk.far ?_ (by simp; omega) _))
    have lX : w.heap.size < v1.heap.size := KX.out.lt
    have KR : Hid (Blk v1 (w.heap.size + 1) 33 [.slice none 0 0, .int .i64 0]) := Lib.hid (by rw [hv1]; repeat' (first | with_reducible exact Blk.new_at _ _ _ (by simp) | with_reducible refine Blk.alloc ?_ _ | with_reducible refine Blk.drew ?_ | with_reducible refine Blk.far ?_ (by simp; omega) _))
    have lR : w.heap.size + 1 < v1.heap.size := KR.out.lt
    have DX := Lib.hid (HX.out.ex Ev1.out)
    clear hv1
    refine (cacheValidS_c t A c _ DX.out hn hc).mono ?_; rintro r w1 ⟨rfl, hb1⟩
    have Y1 : Hid (Chg 0 0 v1 w1) := Lib.hid (Chg.of_ex hb1)
    have s1 : v1.heap.size ≤ w1.heap.size := Y1.out.size
    have Ew1 : Hid (Ex w w1) := Lib.hid (Ev1.out.chg Y1.out (by omega))
    clear hb1
    replace KX : Hid (Blk w1 (w.heap.size) 33 [.slice A t.lines.length c, .int .i64 t.hand]) := Lib.hid (KX.out.chg Y1.out (by omega))
    replace KR : Hid (Blk w1 (w.heap.size + 1) 33 [.slice none 0 0, .int .i64 0]) := Lib.hid (KR.out.chg Y1.out (by omega))
    replace DX := Lib.hid (HX.out.ex Ew1.out)
    obtain ⟨qX0, qX1⟩ := KX.out.c2
    have jX := KX.out.lt
    obtain ⟨qR0, qR1⟩ := KR.out.c2
    have jR := KR.out.lt
    have zR := KR.out.frozen
    rw [hv]
    go_wp2
    exact bodyPost_ret (v := .tuple #[.agg #[.slice none 0 0, .int .i64 0], .bool false]) (by simp [results, Try.results45, go_sem, qR0, qR1]) rfl
      ⟨none, 0, rfl, Fr.none_ _ _ _ _, (Ew1.out.set (Nat.le_add_right _ 1) _).set (Nat.le_add_right _ 1) _⟩
  obtain ⟨k, rfl⟩ := Int.eq_ofNat_of_zero_le (show 0 ≤ p by omega)
  by_cases hkn : t.lines.length ≤ k
  · have e : wireLine t k b = (noCache, false) := if_neg (fun h => by have := inB_true.1 h.2.1; omega)
    rw [e]
    clear e
    have hkn' : (t.lines.length : Int) ≤ (k : Int) := by omega
    go_enter Try.func45, Try.ntmps45
    go_wp2_with fail
    refine name_calls ?_; intro v1 hv1
    have X1 : Hid (Chg (0) (0) w v1) := Lib.hid (by rw [hv1]; repeat' (first | with_reducible exact Chg.refl _ _ _ | with_reducible refine Chg.alloc ?_ _ | with_reducible refine Chg.drew ?_ | with_reducible refine Chg.set ?_ (by omega) _))
    have t1 : w.heap.size ≤ v1.heap.size := X1.out.size
    have Ev1 : Hid (Ex w v1) := Lib.hid ((Ex.refl w).chg X1.out (by omega))
    have KX : Hid (Blk v1 (w.heap.size) 33 [.slice A t.lines.length c, .int .i64 t.hand]) := Lib.hid (by rw [hv1]; repeat' (first | with_reducible exact Blk.new_at _ _ _ (by simp) | with_reducible refine Blk.alloc ?_ _ | with_reducible refine Blk.drew ?_ | with_reducible refine Blk.far ?_ (by simp; omega) _))
    have lX : w.heap.size < v1.heap.size := KX.out.lt
    have KR : Hid (Blk v1 (w.heap.size + 1) 33 [.slice none 0 0, .int .i64 0]) := Lib.hid (by rw [hv1]; repeat' (first | with_reducible exact Blk.new_at _ _ _ (by simp) | with_reducible refine Blk.alloc ?_ _ | with_reducible refine Blk.drew ?_ | with_reducible refine Blk.far ?_ (by simp; omega) _))
    have lR : w.heap.size + 1 < v1.heap.size := KR.out.lt
    have DX := Lib.hid (HX.out.ex Ev1.out)
    clear hv1
    refine (cacheValidS_c t A c _ DX.out hn hc).mono ?_; rintro r w1 ⟨rfl, hb1⟩
    have Y1 : Hid (Chg 0 0 v1 w1) := Lib.hid (Chg.of_ex hb1)
    have s1 : v1.heap.size ≤ w1.heap.size := Y1.out.size
    have Ew1 : Hid (Ex w w1) := Lib.hid (Ev1.out.chg Y1.out (by omega))
    clear hb1
    replace KX : Hid (Blk w1 (w.heap.size) 33 [.slice A t.lines.length c, .int .i64 t.hand]) := Lib.hid (KX.out.chg Y1.out (by omega))
    replace KR : Hid (Blk w1 (w.heap.size + 1) 33 [.slice none 0 0, .int .i64 0]) := Lib.hid (KR.out.chg Y1.out (by omega))
    replace DX := Lib.hid (HX.out.ex Ew1.out)
    obtain ⟨qX0, qX1⟩ := KX.out.c2
    have jX := KX.out.lt
    obtain ⟨qR0, qR1⟩ := KR.out.c2
    have jR := KR.out.lt
    have zR := KR.out.frozen
    rw [hv]
    go_wp2
    exact bodyPost_ret (v := .tuple #[.agg #[.slice none 0 0, .int .i64 0], .bool false]) (by simp [results, Try.results45, go_sem, qR0, qR1]) rfl
      ⟨none, 0, rfl, Fr.none_ _ _ _ _, (Ew1.out.set (Nat.le_add_right _ 1) _).set (Nat.le_add_right _ 1) _⟩
  have hk : inB k t.lines.length = true := inB_true.2 (by omega)
  have HK := Lib.hid hk
  have hkn : k < t.lines.length := by omega
  have hkn' : ¬ (t.lines.length : Int) ≤ (k : Int) := by omega
  have hxk := List.getElem?_eq_getElem hkn
  generalize t.lines[k] = x at hxk
  have hgd := getD_of (d := noLine) hxk
  have HXK := Lib.hid hxk
  have HGD := Lib.hid hgd
  clear hxk hk hp0 hgd
  cases hxv : x.valid
  · have e : wireLine t k b = (noCache, false) := if_neg (fun h => by have := h.2.2.1; rw [Int.toNat_natCast, HGD.out, hxv] at this; cases this)
    rw [e]
    clear e
    go_enter Try.func45, Try.ntmps45
    go_wp2_with fail
    refine name_calls ?_; intro v1 hv1
    have X1 : Hid (Chg (0) (0) w v1) := Lib.hid (by rw [hv1]; repeat' (first | with_reducible exact Chg.refl _ _ _ | with_reducible refine Chg.alloc ?_ _ | with_reducible refine Chg.drew ?_ | with_reducible refine Chg.set ?_ (by omega) _))
    have t1 : w.heap.size ≤ v1.heap.size := X1.out.size
    have Ev1 : Hid (Ex w v1) := Lib.hid ((Ex.refl w).chg X1.out (by omega))
    have KX : Hid (Blk v1 (w.heap.size) 33 [.slice A t.lines.length c, .int .i64 t.hand]) := Lib.hid (by rw [hv1]; repeat' (first | with_reducible exact Blk.new_at _ _ _ (by simp) | with_reducible refine Blk.alloc ?_ _ | with_reducible refine Blk.drew ?_ | with_reducible refine Blk.far ?_ (by simp; omega) _))
    have lX : w.heap.size < v1.heap.size := KX.out.lt
    have KR : Hid (Blk v1 (w.heap.size + 1) 33 [.slice none 0 0, .int .i64 0]) := Lib.hid (by rw [hv1]; repeat' (first | with_reducible exact Blk.new_at _ _ _ (by simp) | with_reducible refine Blk.alloc ?_ _ | with_reducible refine Blk.drew ?_ | with_reducible refine Blk.far ?_ (by simp; omega) _))
    have lR : w.heap.size + 1 < v1.heap.size := KR.out.lt
    have DX := Lib.hid (HX.out.ex Ev1.out)
    clear hv1
    refine (cacheValidS_c t A c _ DX.out hn hc).mono ?_; rintro r w1 ⟨rfl, hb1⟩
    have Y1 : Hid (Chg 0 0 v1 w1) := Lib.hid (Chg.of_ex hb1)
    have s1 : v1.heap.size ≤ w1.heap.size := Y1.out.size
    have Ew1 : Hid (Ex w w1) := Lib.hid (Ev1.out.chg Y1.out (by omega))
    clear hb1
    replace KX : Hid (Blk w1 (w.heap.size) 33 [.slice A t.lines.length c, .int .i64 t.hand]) := Lib.hid (KX.out.chg Y1.out (by omega))
    replace KR : Hid (Blk w1 (w.heap.size + 1) 33 [.slice none 0 0, .int .i64 0]) := Lib.hid (KR.out.chg Y1.out (by omega))
    replace DX := Lib.hid (HX.out.ex Ew1.out)
    obtain ⟨qX0, qX1⟩ := KX.out.c2
    have jX := KX.out.lt
    obtain ⟨qR0, qR1⟩ := KR.out.c2
    have jR := KR.out.lt
    have zR := KR.out.frozen
    rw [hv]
    obtain ⟨a1, o1, x', rfl, hb1, hxk', h0, h1, h2, h3, h4, h5⟩ := Rd.line DX.out (k := k) hkn
    obtain rfl : x = x' := by have := HXK.out; rw [hxk'] at this; injection this with this; exact this.symm
    rw [hxv] at h0
    clear hxk'
    go_wp2
    exact bodyPost_ret (v := .tuple #[.agg #[.slice none 0 0, .int .i64 0], .bool false]) (by simp [results, Try.results45, go_sem, qR0, qR1]) rfl
      ⟨none, 0, rfl, Fr.none_ _ _ _ _, (Ew1.out.set (Nat.le_add_right _ 1) _).set (Nat.le_add_right _ 1) _⟩
  obtain ⟨xv, xt, xp, xf, xr, xw⟩ := x
  simp only at hxv
  subst hxv
  obtain ⟨a1, o1, hA, -, -⟩ := HX.out (by omega)
  subst hA
  have hce : wireOut t k b = ⟨t.lines.set k ⟨true, xt, xp, xf, xr, b⟩, t.hand⟩ := by unfold wireOut; rw [HGD.out]
  have HV3 : Hid (∀ g c2 w', Rd w' (some ⟨g, 0, none⟩) (t.lines.set k ⟨true, xt, xp, xf, xr, b⟩) → t.lines.length ≤ c2 → Calls Try.prog 32 #[.agg #[.slice (some ⟨g, 0, none⟩) t.lines.length c2, .int .i64 t.hand]] w' fun r w'' => r = .returned (.bool (cacheV (wireOut t k b))) ∧ Ex w' w'') := Lib.hid (fun g c2 w' hr hc3 => by
    have := cacheValidS_c ⟨t.lines.set k ⟨true, xt, xp, xf, xr, b⟩, t.hand⟩ (some ⟨g, 0, none⟩) c2 w' hr (by simp; omega) (by simp; exact hc3)
    rw [hce]
    simpa using this)
  have HF : Hid (wireLine t k b = if cacheV (wireOut t k b) = true then (⟨t.lines.set k ⟨true, xt, xp, xf, xr, b⟩, t.hand⟩, true) else (noCache, false)) := Lib.hid (by
    unfold wireLine
    rw [Int.toNat_natCast, HGD.out, hce]
    simp [hv, HK.out])
  clear hce
  generalize cacheV (wireOut t k b) = co at HV3 HF
  cases co
  all_goals
    rw [HF.out]
    simp only [Bool.false_eq_true, if_false, if_true]
    go_enter Try.func45, Try.ntmps45
    go_wp2_with fail
    refine name_calls ?_; intro v1 hv1
    have X1 : Hid (Chg (0) (0) w v1) := Lib.hid (by rw [hv1]; repeat' (first | with_reducible exact Chg.refl _ _ _ | with_reducible refine Chg.alloc ?_ _ | with_reducible refine Chg.drew ?_ | with_reducible refine Chg.set ?_ (by omega) _))
    have t1 : w.heap.size ≤ v1.heap.size := X1.out.size
    have Ev1 : Hid (Ex w v1) := Lib.hid ((Ex.refl w).chg X1.out (by omega))
    have KX : Hid (Blk v1 (w.heap.size) 33 [.slice (some ⟨a1, o1, none⟩) t.lines.length c, .int .i64 t.hand]) := Lib.hid (by rw [hv1]; repeat' (first | with_reducible exact Blk.new_at _ _ _ (by simp) | with_reducible refine Blk.alloc ?_ _ | with_reducible refine Blk.drew ?_ | with_reducible refine Blk.far ?_ (by simp; omega) _))
    have lX : w.heap.size < v1.heap.size := KX.out.lt
    have KR : Hid (Blk v1 (w.heap.size + 1) 33 [.slice none 0 0, .int .i64 0]) := Lib.hid (by rw [hv1]; repeat' (first | with_reducible exact Blk.new_at _ _ _ (by simp) | with_reducible refine Blk.alloc ?_ _ | with_reducible refine Blk.drew ?_ | with_reducible refine Blk.far ?_ (by simp; omega) _))
    have lR : w.heap.size + 1 < v1.heap.size := KR.out.lt
    have DX := Lib.hid (HX.out.ex Ev1.out)
    clear hv1
    refine (cacheValidS_c t _ c _ DX.out hn hc).mono ?_; rintro r w1 ⟨rfl, hb1⟩
    have Y1 : Hid (Chg 0 0 v1 w1) := Lib.hid (Chg.of_ex hb1)
    have s1 : v1.heap.size ≤ w1.heap.size := Y1.out.size
    have Ew1 : Hid (Ex w w1) := Lib.hid (Ev1.out.chg Y1.out (by omega))
    clear hb1
    replace KX : Hid (Blk w1 (w.heap.size) 33 [.slice (some ⟨a1, o1, none⟩) t.lines.length c, .int .i64 t.hand]) := Lib.hid (KX.out.chg Y1.out (by omega))
    replace KR : Hid (Blk w1 (w.heap.size + 1) 33 [.slice none 0 0, .int .i64 0]) := Lib.hid (KR.out.chg Y1.out (by omega))
    replace DX := Lib.hid (HX.out.ex Ew1.out)
    obtain ⟨qX0, qX1⟩ := KX.out.c2
    have jX := KX.out.lt
    obtain ⟨qR0, qR1⟩ := KR.out.c2
    have jR := KR.out.lt
    have zR := KR.out.frozen
    rw [hv]
    obtain ⟨x', hb1, hxk', h0, h1, h2, h3, h4, h5⟩ := Rd.line_known DX.out (k := k) hkn
    obtain rfl : (⟨true, xt, xp, xf, xr, xw⟩ : LineD) = x' := by have := HXK.out; rw [hxk'] at this; injection this with this; exact this.symm
    simp only at h0 h1 h2 h3 h4 h5
    clear hxk'
    go_wp2_with fail
    refine name_calls ?_; intro v2 hv2
    have X2 : Hid (Chg (0) (0) w1 v2) := Lib.hid (by rw [hv2]; repeat' (first | with_reducible exact Chg.refl _ _ _ | with_reducible refine Chg.alloc ?_ _ | with_reducible refine Chg.drew ?_ | with_reducible refine Chg.set ?_ (by omega) _))
    have t2 : w1.heap.size ≤ v2.heap.size := X2.out.size
    have Ev2 : Hid (Ex w v2) := Lib.hid (Ew1.out.chg X2.out (by omega))
    clear qX0 qX1 jX
    clear qR0 qR1 jR zR
    replace KX : Hid (Blk v2 (w.heap.size) 33 [.slice (some ⟨a1, o1, none⟩) t.lines.length c, .int .i64 t.hand]) := Lib.hid (KX.out.chg X2.out (by omega))
    replace KR : Hid (Blk v2 (w.heap.size + 1) 33 [.slice none 0 0, .int .i64 0]) := Lib.hid (KR.out.chg X2.out (by omega))
    replace DX := Lib.hid (HX.out.ex Ev2.out)
    clear hv2
    refine (l4Copy_c t _ c _ DX.out hn hc hc2).mono ?_; rintro r w2 ⟨A2, c2, rfl, hf2, hb2⟩
    have Y2 : Hid (Chg 0 0 v2 w2) := Lib.hid (Chg.of_ex hb2)
    have s2 : v2.heap.size ≤ w2.heap.size := Y2.out.size
    have Ew2 : Hid (Ex w w2) := Lib.hid (Ev2.out.chg Y2.out (by omega))
    clear hb2
    replace KX : Hid (Blk w2 (w.heap.size) 33 [.slice (some ⟨a1, o1, none⟩) t.lines.length c, .int .i64 t.hand]) := Lib.hid (KX.out.chg Y2.out (by omega))
    replace KR : Hid (Blk w2 (w.heap.size + 1) 33 [.slice none 0 0, .int .i64 0]) := Lib.hid (KR.out.chg Y2.out (by omega))
    replace DX := Lib.hid (HX.out.ex Ew2.out)
    have HF2 := Lib.hid hf2; clear hf2
    have WHF2 := Lib.hid HF2.out.row
    obtain ⟨qX0, qX1⟩ := KX.out.c2
    have jX := KX.out.lt
    obtain ⟨qR0, qR1⟩ := KR.out.c2
    have jR := KR.out.lt
    have zR := KR.out.frozen
    clear h0 h1 h2 h3 h4 h5
    obtain ⟨g, rest, rfl, hBg, hbk, hrest⟩ := HF2.out.open_ hkn
    have HBK := Lib.hid hbk
    have HR := Lib.hid hrest
    have hle := HF2.out.le
    have hca := HF2.out.cap
    obtain ⟨d0, d1, d2, d3, d4, d5⟩ := hbk.line HXK.out
    have hfz := hbk.frozen
    have lg := Blk.lt hbk
    clear hbk hrest
    go_wp2_with fail
    refine name_calls ?_; intro v3 hv3
    have X3 : Hid (Chg (g) (g + 1) w2 v3) := Lib.hid (by rw [hv3]; repeat' (first | with_reducible exact Chg.refl _ _ _ | with_reducible refine Chg.alloc ?_ _ | with_reducible refine Chg.drew ?_ | with_reducible refine Chg.set ?_ (by omega) _))
    have t3 : w2.heap.size ≤ v3.heap.size := X3.out.size
    have Ev3 : Hid (Ex w v3) := Lib.hid (Ew2.out.chg X3.out (by omega))
    clear qX0 qX1 jX
    clear qR0 qR1 jR zR
    replace KX : Hid (Blk v3 (w.heap.size) 33 [.slice (some ⟨a1, o1, none⟩) t.lines.length c, .int .i64 t.hand]) := Lib.hid (KX.out.chg X3.out (by omega))
    replace KR : Hid (Blk v3 (w.heap.size + 1) 33 [.slice none 0 0, .int .i64 0]) := Lib.hid (KR.out.chg X3.out (by omega))
    have HBN : Hid (Bk 43 v3 g (t.lines.set k ⟨true, xt, xp, xf, xr, b⟩) rest) := Lib.hid (by rw [hv3]; exact (Bk.set HBK.out (k := k) (j := 5) (off := k * 6 + 5) (u := .bool b) (y := ⟨true, xt, xp, xf, xr, b⟩) HXK.out (by decide) rfl (by simp [sz])).alloc _)
    clear HF2 WHF2
    have KO : Hid (Blk v3 (w2.heap.size) 33 [.slice (some ⟨g, 0, none⟩) t.lines.length c2, .int .i64 t.hand]) := Lib.hid (by rw [hv3]; repeat' (first | with_reducible exact Blk.new_at _ _ _ (by simp) | with_reducible refine Blk.alloc ?_ _ | with_reducible refine Blk.drew ?_ | with_reducible refine Blk.far ?_ (by simp; omega) _))
    have lO : w2.heap.size < v3.heap.size := KO.out.lt
    replace DX := Lib.hid (HX.out.ex Ev3.out)
    clear hv3
    refine (HV3.out g c2 _ HBN.out.rd hle).mono ?_; rintro r w3 ⟨rfl, hb3⟩
    have Y3 : Hid (Chg 0 0 v3 w3) := Lib.hid (Chg.of_ex hb3)
    have s3 : v3.heap.size ≤ w3.heap.size := Y3.out.size
    have Ew3 : Hid (Ex w w3) := Lib.hid (Ev3.out.chg Y3.out (by omega))
    clear hb3
    replace KX : Hid (Blk w3 (w.heap.size) 33 [.slice (some ⟨a1, o1, none⟩) t.lines.length c, .int .i64 t.hand]) := Lib.hid (KX.out.chg Y3.out (by omega))
    replace KR : Hid (Blk w3 (w.heap.size + 1) 33 [.slice none 0 0, .int .i64 0]) := Lib.hid (KR.out.chg Y3.out (by omega))
    replace KO : Hid (Blk w3 (w2.heap.size) 33 [.slice (some ⟨g, 0, none⟩) t.lines.length c2, .int .i64 t.hand]) := Lib.hid (KO.out.chg Y3.out (by omega))
    replace DX := Lib.hid (HX.out.ex Ew3.out)
    obtain ⟨qX0, qX1⟩ := KX.out.c2
    have jX := KX.out.lt
    obtain ⟨qR0, qR1⟩ := KR.out.c2
    have jR := KR.out.lt
    have zR := KR.out.frozen
    obtain ⟨qO0, qO1⟩ := KO.out.c2
    have jO := KO.out.lt
  · go_wp2
    exact bodyPost_ret (v := .tuple #[.agg #[.slice none 0 0, .int .i64 0], .bool false]) (by simp [results, Try.results45, go_sem, qR0, qR1]) rfl
      ⟨none, 0, rfl, Fr.none_ _ _ _ _, (Ew3.out.set (Nat.le_add_right _ 1) _).set (Nat.le_add_right _ 1) _⟩
  · go_wp2
    exact bodyPost_ret (v := .tuple #[.agg #[.slice (some ⟨g, 0, none⟩) t.lines.length c2, .int .i64 t.hand], .bool true]) (by simp [results, Try.results45, go_sem, qR0, qR1]) rfl
      ⟨some ⟨g, 0, none⟩, c2, by simp, Fr.close (((HBN.out.ex Y3.out.ex_).far (by simp; omega) _).far (by simp; omega) _) (by omega) (by rw [List.length_set]; exact HR.out) (by simp; omega) hca, (Ew3.out.set (Nat.le_add_right _ 1) _).set (Nat.le_add_right _ 1) _⟩
end Go.Proofs.Ytidnefcnojedoaa
