/- FillLine: the model and the reference's walk. -/
import Derived.Test.YtidnefcnojedoaaPl
import Derived.Test.YtidnefcnojedoaaChg
namespace Go.Proofs.Ytidnefcnojedoaa
open Go.ChangeShapes Go.WideShapes Go.ChangeAt Go.RowKit
open Rec (sz cs)
set_option linter.unusedVariables false
set_option maxRecDepth 100000

def fillOut (t : CacheD) (x : LineD) : CacheD := ⟨t.lines.set (victimAt t).toNat x, if (t.lines.getD (victimAt t).toNat noLine).valid then (victimAt t + 1) % (t.lines.length : Int) else t.hand⟩
def fillLine (t : CacheD) (x : LineD) : CacheD × Int × Bool :=
  if cacheV t && (x.valid && (lineV x && (decide (placeOf t.lines x.tag x.page < 0) && cacheV (fillOut t x)))) then (fillOut t x, victimAt t, true) else (noCache, 0, false)
theorem fillLine_few (t : CacheD) (x : LineD) (hn : t.lines.length ≤ 1048576) : (fillLine t x).1.lines.length ≤ 1048576 := by
  unfold fillLine
  split
  · simp [fillOut]; exact hn
  · simp [noCache]

set_option maxHeartbeats 16000000 in
theorem fillLineS_c (t : CacheD) (x : LineD) (A : Option Addr) (c : Nat) (w : World) (hx : Rd w A t.lines) (hn : t.lines.length ≤ 1048576) (hc : t.lines.length ≤ c) (hc2 : c ≤ maxLen) :
    Calls Try.prog 43 #[.agg #[.slice A t.lines.length c, .int .i64 t.hand], .agg #[.bool x.valid, .int .i64 x.tag, .int .i64 x.page, .int .i64 x.frame, .int .i64 x.rights, .bool x.wired]] w
    fun r w' => ∃ A' c', r = .returned (.tuple #[.agg #[.slice A' (fillLine t x).1.lines.length c', .int .i64 (fillLine t x).1.hand], .int .i64 (fillLine t x).2.1, .bool (fillLine t x).2.2]) ∧ Fr 43 w' w.heap.size A' c' (fillLine t x).1.lines ∧ Ex w w' := by
  have HX := Lib.hid hx
  clear hx
  obtain ⟨xv, xt, xp, xf, xr, xw⟩ := x
  simp only
  cases hv : cacheV t
  · have e : fillLine t ⟨xv, xt, xp, xf, xr, xw⟩ = (noCache, 0, false) := by unfold fillLine; rw [hv]; rfl
    rw [e]
    clear e
    go_enter Try.func43, Try.ntmps43
    go_wp2_with fail
    refine name_calls ?_; intro v1 hv1
    have X1 : Hid (Chg (0) (0) w v1) := Lib.hid (by rw [hv1]; repeat' (first | with_reducible exact Chg.refl _ _ _ | with_reducible refine Chg.alloc ?_ _ | with_reducible refine Chg.drew ?_ | with_reducible refine Chg.set ?_ (by omega) _))
    have t1 : w.heap.size ≤ v1.heap.size := X1.out.size
    have Ev1 : Hid (Ex w v1) := Lib.hid ((Ex.refl w).chg X1.out (by omega))
    have KX : Hid (Blk v1 (w.heap.size) 33 [.slice A t.lines.length c, .int .i64 t.hand]) := Lib.hid (by rw [hv1]; repeat' (first | with_reducible exact Blk.new_at _ _ _ (by simp) | with_reducible refine Blk.alloc ?_ _ | with_reducible refine Blk.drew ?_ | with_reducible refine Blk.far ?_ (by simp; omega) _))
    have lX : w.heap.size < v1.heap.size := KX.out.lt
    have KL : Hid (Blk v1 (w.heap.size + 1) 43 [.bool xv, .int .i64 xt, .int .i64 xp, .int .i64 xf, .int .i64 xr, .bool xw]) := Lib.hid (by rw [hv1]; repeat' (first | with_reducible exact Blk.new_at _ _ _ (by simp) | with_reducible refine Blk.alloc ?_ _ | with_reducible refine Blk.drew ?_ | with_reducible refine Blk.far ?_ (by simp; omega) _))
    have lL : w.heap.size + 1 < v1.heap.size := KL.out.lt
    have KR : Hid (Blk v1 (w.heap.size + 1 + 1) 33 [.slice none 0 0, .int .i64 0]) := Lib.hid (by rw [hv1]; repeat' (first | with_reducible exact Blk.new_at _ _ _ (by simp) | with_reducible refine Blk.alloc ?_ _ | with_reducible refine Blk.drew ?_ | with_reducible refine Blk.far ?_ (by simp; omega) _))
    have lR : w.heap.size + 1 + 1 < v1.heap.size := KR.out.lt
    have DX := Lib.hid (HX.out.ex Ev1.out)
    clear hv1
    refine (cacheValidS_c t A c _ DX.out hn hc).mono ?_; rintro r w1 ⟨rfl, hb1⟩
    have Y1 : Hid (Chg 0 0 v1 w1) := Lib.hid (Chg.of_ex hb1)
    have s1 : v1.heap.size ≤ w1.heap.size := Y1.out.size
    have Ew1 : Hid (Ex w w1) := Lib.hid (Ev1.out.chg Y1.out (by omega))
    clear hb1
    replace KX : Hid (Blk w1 (w.heap.size) 33 [.slice A t.lines.length c, .int .i64 t.hand]) := Lib.hid (KX.out.chg Y1.out (by omega))
    replace KL : Hid (Blk w1 (w.heap.size + 1) 43 [.bool xv, .int .i64 xt, .int .i64 xp, .int .i64 xf, .int .i64 xr, .bool xw]) := Lib.hid (KL.out.chg Y1.out (by omega))
    replace KR : Hid (Blk w1 (w.heap.size + 1 + 1) 33 [.slice none 0 0, .int .i64 0]) := Lib.hid (KR.out.chg Y1.out (by omega))
    replace DX := Lib.hid (HX.out.ex Ew1.out)
    obtain ⟨qX0, qX1⟩ := KX.out.c2
    have jX := KX.out.lt
    obtain ⟨qL0, qL1, qL2, qL3, qL4, qL5⟩ := KL.out.c6
    have jL := KL.out.lt
    obtain ⟨qR0, qR1⟩ := KR.out.c2
    have jR := KR.out.lt
    have zR := KR.out.frozen
    rw [hv]
    go_wp2
    exact bodyPost_ret (v := .tuple #[.agg #[.slice none 0 0, .int .i64 0], .int .i64 0, .bool false]) (by simp [results, Try.results43, go_sem, qR0, qR1]) rfl
      ⟨none, 0, rfl, Fr.none_ _ _ _ _, (Ew1.out.put (by omega) _).put (by omega) _⟩
  cases xv
  · have e : fillLine t ⟨false, xt, xp, xf, xr, xw⟩ = (noCache, 0, false) := by unfold fillLine; rw [hv]; rfl
    rw [e]
    clear e
    go_enter Try.func43, Try.ntmps43
    go_wp2_with fail
    refine name_calls ?_; intro v1 hv1
    have X1 : Hid (Chg (0) (0) w v1) := Lib.hid (by rw [hv1]; repeat' (first | with_reducible exact Chg.refl _ _ _ | with_reducible refine Chg.alloc ?_ _ | with_reducible refine Chg.drew ?_ | with_reducible refine Chg.set ?_ (by omega) _))
    have t1 : w.heap.size ≤ v1.heap.size := X1.out.size
    have Ev1 : Hid (Ex w v1) := Lib.hid ((Ex.refl w).chg X1.out (by omega))
    have KX : Hid (Blk v1 (w.heap.size) 33 [.slice A t.lines.length c, .int .i64 t.hand]) := Lib.hid (by rw [hv1]; repeat' (first | with_reducible exact Blk.new_at _ _ _ (by simp) | with_reducible refine Blk.alloc ?_ _ | with_reducible refine Blk.drew ?_ | with_reducible refine Blk.far ?_ (by simp; omega) _))
    have lX : w.heap.size < v1.heap.size := KX.out.lt
    have KL : Hid (Blk v1 (w.heap.size + 1) 43 [.bool false, .int .i64 xt, .int .i64 xp, .int .i64 xf, .int .i64 xr, .bool xw]) := Lib.hid (by rw [hv1]; repeat' (first | with_reducible exact Blk.new_at _ _ _ (by simp) | with_reducible refine Blk.alloc ?_ _ | with_reducible refine Blk.drew ?_ | with_reducible refine Blk.far ?_ (by simp; omega) _))
    have lL : w.heap.size + 1 < v1.heap.size := KL.out.lt
    have KR : Hid (Blk v1 (w.heap.size + 1 + 1) 33 [.slice none 0 0, .int .i64 0]) := Lib.hid (by rw [hv1]; repeat' (first | with_reducible exact Blk.new_at _ _ _ (by simp) | with_reducible refine Blk.alloc ?_ _ | with_reducible refine Blk.drew ?_ | with_reducible refine Blk.far ?_ (by simp; omega) _))
    have lR : w.heap.size + 1 + 1 < v1.heap.size := KR.out.lt
    have DX := Lib.hid (HX.out.ex Ev1.out)
    clear hv1
    refine (cacheValidS_c t A c _ DX.out hn hc).mono ?_; rintro r w1 ⟨rfl, hb1⟩
    have Y1 : Hid (Chg 0 0 v1 w1) := Lib.hid (Chg.of_ex hb1)
    have s1 : v1.heap.size ≤ w1.heap.size := Y1.out.size
    have Ew1 : Hid (Ex w w1) := Lib.hid (Ev1.out.chg Y1.out (by omega))
    clear hb1
    replace KX : Hid (Blk w1 (w.heap.size) 33 [.slice A t.lines.length c, .int .i64 t.hand]) := Lib.hid (KX.out.chg Y1.out (by omega))
    replace KL : Hid (Blk w1 (w.heap.size + 1) 43 [.bool false, .int .i64 xt, .int .i64 xp, .int .i64 xf, .int .i64 xr, .bool xw]) := Lib.hid (KL.out.chg Y1.out (by omega))
    replace KR : Hid (Blk w1 (w.heap.size + 1 + 1) 33 [.slice none 0 0, .int .i64 0]) := Lib.hid (KR.out.chg Y1.out (by omega))
    replace DX := Lib.hid (HX.out.ex Ew1.out)
    obtain ⟨qX0, qX1⟩ := KX.out.c2
    have jX := KX.out.lt
    obtain ⟨qL0, qL1, qL2, qL3, qL4, qL5⟩ := KL.out.c6
    have jL := KL.out.lt
    obtain ⟨qR0, qR1⟩ := KR.out.c2
    have jR := KR.out.lt
    have zR := KR.out.frozen
    rw [hv]
    go_wp2
    exact bodyPost_ret (v := .tuple #[.agg #[.slice none 0 0, .int .i64 0], .int .i64 0, .bool false]) (by simp [results, Try.results43, go_sem, qR0, qR1]) rfl
      ⟨none, 0, rfl, Fr.none_ _ _ _ _, (Ew1.out.put (by omega) _).put (by omega) _⟩
  cases hlv : lineV ⟨true, xt, xp, xf, xr, xw⟩
  · have e : fillLine t ⟨true, xt, xp, xf, xr, xw⟩ = (noCache, 0, false) := by unfold fillLine; rw [hv, hlv]; rfl
    rw [e]
    clear e
    go_enter Try.func43, Try.ntmps43
    go_wp2_with fail
    refine name_calls ?_; intro v1 hv1
    have X1 : Hid (Chg (0) (0) w v1) := Lib.hid (by rw [hv1]; repeat' (first | with_reducible exact Chg.refl _ _ _ | with_reducible refine Chg.alloc ?_ _ | with_reducible refine Chg.drew ?_ | with_reducible refine Chg.set ?_ (by omega) _))
    have t1 : w.heap.size ≤ v1.heap.size := X1.out.size
    have Ev1 : Hid (Ex w v1) := Lib.hid ((Ex.refl w).chg X1.out (by omega))
    have KX : Hid (Blk v1 (w.heap.size) 33 [.slice A t.lines.length c, .int .i64 t.hand]) := Lib.hid (by rw [hv1]; repeat' (first | with_reducible exact Blk.new_at _ _ _ (by simp) | with_reducible refine Blk.alloc ?_ _ | with_reducible refine Blk.drew ?_ | with_reducible refine Blk.far ?_ (by simp; omega) _))
    have lX : w.heap.size < v1.heap.size := KX.out.lt
    have KL : Hid (Blk v1 (w.heap.size + 1) 43 [.bool true, .int .i64 xt, .int .i64 xp, .int .i64 xf, .int .i64 xr, .bool xw]) := Lib.hid (by rw [hv1]; repeat' (first | with_reducible exact Blk.new_at _ _ _ (by simp) | with_reducible refine Blk.alloc ?_ _ | with_reducible refine Blk.drew ?_ | with_reducible refine Blk.far ?_ (by simp; omega) _))
    have lL : w.heap.size + 1 < v1.heap.size := KL.out.lt
    have KR : Hid (Blk v1 (w.heap.size + 1 + 1) 33 [.slice none 0 0, .int .i64 0]) := Lib.hid (by rw [hv1]; repeat' (first | with_reducible exact Blk.new_at _ _ _ (by simp) | with_reducible refine Blk.alloc ?_ _ | with_reducible refine Blk.drew ?_ | with_reducible refine Blk.far ?_ (by simp; omega) _))
    have lR : w.heap.size + 1 + 1 < v1.heap.size := KR.out.lt
    have DX := Lib.hid (HX.out.ex Ev1.out)
    clear hv1
    refine (cacheValidS_c t A c _ DX.out hn hc).mono ?_; rintro r w1 ⟨rfl, hb1⟩
    have Y1 : Hid (Chg 0 0 v1 w1) := Lib.hid (Chg.of_ex hb1)
    have s1 : v1.heap.size ≤ w1.heap.size := Y1.out.size
    have Ew1 : Hid (Ex w w1) := Lib.hid (Ev1.out.chg Y1.out (by omega))
    clear hb1
    replace KX : Hid (Blk w1 (w.heap.size) 33 [.slice A t.lines.length c, .int .i64 t.hand]) := Lib.hid (KX.out.chg Y1.out (by omega))
    replace KL : Hid (Blk w1 (w.heap.size + 1) 43 [.bool true, .int .i64 xt, .int .i64 xp, .int .i64 xf, .int .i64 xr, .bool xw]) := Lib.hid (KL.out.chg Y1.out (by omega))
    replace KR : Hid (Blk w1 (w.heap.size + 1 + 1) 33 [.slice none 0 0, .int .i64 0]) := Lib.hid (KR.out.chg Y1.out (by omega))
    replace DX := Lib.hid (HX.out.ex Ew1.out)
    obtain ⟨qX0, qX1⟩ := KX.out.c2
    have jX := KX.out.lt
    obtain ⟨qL0, qL1, qL2, qL3, qL4, qL5⟩ := KL.out.c6
    have jL := KL.out.lt
    obtain ⟨qR0, qR1⟩ := KR.out.c2
    have jR := KR.out.lt
    have zR := KR.out.frozen
    rw [hv]
    go_wp2_with fail
    refine name_calls ?_; intro v2 hv2
    have X2 : Hid (Chg (0) (0) w1 v2) := Lib.hid (by rw [hv2]; repeat' (first | with_reducible exact Chg.refl _ _ _ | with_reducible refine Chg.alloc ?_ _ | with_reducible refine Chg.drew ?_ | with_reducible refine Chg.set ?_ (by omega) _))
    have t2 : w1.heap.size ≤ v2.heap.size := X2.out.size
    have Ev2 : Hid (Ex w v2) := Lib.hid (Ew1.out.chg X2.out (by omega))
    clear qX0 qX1 jX
    clear qL0 qL1 qL2 qL3 qL4 qL5 jL
    clear qR0 qR1 jR zR
    replace KX : Hid (Blk v2 (w.heap.size) 33 [.slice A t.lines.length c, .int .i64 t.hand]) := Lib.hid (KX.out.chg X2.out (by omega))
    replace KL : Hid (Blk v2 (w.heap.size + 1) 43 [.bool true, .int .i64 xt, .int .i64 xp, .int .i64 xf, .int .i64 xr, .bool xw]) := Lib.hid (KL.out.chg X2.out (by omega))
    replace KR : Hid (Blk v2 (w.heap.size + 1 + 1) 33 [.slice none 0 0, .int .i64 0]) := Lib.hid (KR.out.chg X2.out (by omega))
    replace DX := Lib.hid (HX.out.ex Ev2.out)
    clear hv2
    refine (l4Line_c ⟨true, xt, xp, xf, xr, xw⟩ _).mono ?_; rintro r w2 ⟨rfl, hb2⟩
    have Y2 : Hid (Chg 0 0 v2 w2) := Lib.hid (Chg.of_ex hb2)
    have s2 : v2.heap.size ≤ w2.heap.size := Y2.out.size
    have Ew2 : Hid (Ex w w2) := Lib.hid (Ev2.out.chg Y2.out (by omega))
    clear hb2
    replace KX : Hid (Blk w2 (w.heap.size) 33 [.slice A t.lines.length c, .int .i64 t.hand]) := Lib.hid (KX.out.chg Y2.out (by omega))
    replace KL : Hid (Blk w2 (w.heap.size + 1) 43 [.bool true, .int .i64 xt, .int .i64 xp, .int .i64 xf, .int .i64 xr, .bool xw]) := Lib.hid (KL.out.chg Y2.out (by omega))
    replace KR : Hid (Blk w2 (w.heap.size + 1 + 1) 33 [.slice none 0 0, .int .i64 0]) := Lib.hid (KR.out.chg Y2.out (by omega))
    replace DX := Lib.hid (HX.out.ex Ew2.out)
    obtain ⟨qX0, qX1⟩ := KX.out.c2
    have jX := KX.out.lt
    obtain ⟨qL0, qL1, qL2, qL3, qL4, qL5⟩ := KL.out.c6
    have jL := KL.out.lt
    obtain ⟨qR0, qR1⟩ := KR.out.c2
    have jR := KR.out.lt
    have zR := KR.out.frozen
    rw [hlv]
    go_wp2
    exact bodyPost_ret (v := .tuple #[.agg #[.slice none 0 0, .int .i64 0], .int .i64 0, .bool false]) (by simp [results, Try.results43, go_sem, qR0, qR1]) rfl
      ⟨none, 0, rfl, Fr.none_ _ _ _ _, (Ew2.out.put (by omega) _).put (by omega) _⟩
  have hcv := (cv_iff t).1 hv
  obtain ⟨v, y, hva, hy, hyw, -⟩ := victim_spec hcv
  have hvn := getElem?_lt hy
  have hgd := getD_of (d := noLine) hy
  have HF : Hid (fillLine t ⟨true, xt, xp, xf, xr, xw⟩ = if (decide (placeOf t.lines xt xp < 0) && cacheV (fillOut t ⟨true, xt, xp, xf, xr, xw⟩)) then (fillOut t ⟨true, xt, xp, xf, xr, xw⟩, (v : Int), true) else (noCache, 0, false)) := Lib.hid (by
    unfold fillLine; rw [hv, hlv, hva]; rfl)
  have hce : fillOut t ⟨true, xt, xp, xf, xr, xw⟩ = ⟨t.lines.set v ⟨true, xt, xp, xf, xr, xw⟩, if y.valid then ((v : Int) + 1) % (t.lines.length : Int) else t.hand⟩ := by unfold fillOut; rw [hva, Int.toNat_natCast, hgd]
  have HV : Hid (∀ g c2 w', Rd w' (some ⟨g, 0, none⟩) (t.lines.set v ⟨true, xt, xp, xf, xr, xw⟩) → t.lines.length ≤ c2 → Calls Try.prog 32 #[.agg #[.slice (some ⟨g, 0, none⟩) t.lines.length c2, .int .i64 (if y.valid then ((v : Int) + 1) % (t.lines.length : Int) else t.hand)]] w' fun r w'' => r = .returned (.bool (cacheV (fillOut t ⟨true, xt, xp, xf, xr, xw⟩))) ∧ Ex w' w'') := Lib.hid (fun g c2 w' hr hc3 => by
    have := cacheValidS_c ⟨t.lines.set v ⟨true, xt, xp, xf, xr, xw⟩, if y.valid then ((v : Int) + 1) % (t.lines.length : Int) else t.hand⟩ (some ⟨g, 0, none⟩) c2 w' hr (by simp; omega) (by simp; exact hc3)
    rw [hce]
    simpa using this)
  have HCE := Lib.hid hce
  have CV1 := Lib.hid (fun A c w hx hc => l4Victim_c t A c w hx hc hv)
  rw [hva] at CV1
  have HY := Lib.hid hy
  clear hce hgd hva hy hyw hcv
  obtain ⟨a1, o1, hA, -, -⟩ := HX.out (by omega)
  subst hA
  obtain ⟨yv, yt, yp, yf, yr, yw⟩ := y
  have hv0 : ¬ ((v : Int) < 0) := by omega
  have hvl : (v : Int) < (t.lines.length : Int) := by omega
  have hl0 : ¬ ((t.lines.length : Int) = 0) := by omega
  have hn2 : (t.lines.set v (⟨true, xt, xp, xf, xr, xw⟩ : LineD)).length = t.lines.length := List.length_set
  have HN2 := Lib.hid hn2
  clear hn2
  cases yv
  · simp only [Bool.false_eq_true, if_false] at HV HCE
    generalize cacheV (fillOut t ⟨true, xt, xp, xf, xr, xw⟩) = co at HV HF
    go_enter Try.func43, Try.ntmps43
    go_wp2_with fail
    refine name_calls ?_; intro v1 hv1
    have X1 : Hid (Chg (0) (0) w v1) := Lib.hid (by rw [hv1]; repeat' (first | with_reducible exact Chg.refl _ _ _ | with_reducible refine Chg.alloc ?_ _ | with_reducible refine Chg.drew ?_ | with_reducible refine Chg.set ?_ (by omega) _))
    have t1 : w.heap.size ≤ v1.heap.size := X1.out.size
    have Ev1 : Hid (Ex w v1) := Lib.hid ((Ex.refl w).chg X1.out (by omega))
    have KX : Hid (Blk v1 (w.heap.size) 33 [.slice (some ⟨a1, o1, none⟩) t.lines.length c, .int .i64 t.hand]) := Lib.hid (by rw [hv1]; repeat' (first | with_reducible exact Blk.new_at _ _ _ (by simp) | with_reducible refine Blk.alloc ?_ _ | with_reducible refine Blk.drew ?_ | with_reducible refine Blk.far ?_ (by simp; omega) _))
    have lX : w.heap.size < v1.heap.size := KX.out.lt
    have KL : Hid (Blk v1 (w.heap.size + 1) 43 [.bool true, .int .i64 xt, .int .i64 xp, .int .i64 xf, .int .i64 xr, .bool xw]) := Lib.hid (by rw [hv1]; repeat' (first | with_reducible exact Blk.new_at _ _ _ (by simp) | with_reducible refine Blk.alloc ?_ _ | with_reducible refine Blk.drew ?_ | with_reducible refine Blk.far ?_ (by simp; omega) _))
    have lL : w.heap.size + 1 < v1.heap.size := KL.out.lt
    have KR : Hid (Blk v1 (w.heap.size + 1 + 1) 33 [.slice none 0 0, .int .i64 0]) := Lib.hid (by rw [hv1]; repeat' (first | with_reducible exact Blk.new_at _ _ _ (by simp) | with_reducible refine Blk.alloc ?_ _ | with_reducible refine Blk.drew ?_ | with_reducible refine Blk.far ?_ (by simp; omega) _))
    have lR : w.heap.size + 1 + 1 < v1.heap.size := KR.out.lt
    have DX := Lib.hid (HX.out.ex Ev1.out)
    clear hv1
    refine (cacheValidS_c t _ c _ DX.out hn hc).mono ?_; rintro r w1 ⟨rfl, hb1⟩
    have Y1 : Hid (Chg 0 0 v1 w1) := Lib.hid (Chg.of_ex hb1)
    have s1 : v1.heap.size ≤ w1.heap.size := Y1.out.size
    have Ew1 : Hid (Ex w w1) := Lib.hid (Ev1.out.chg Y1.out (by omega))
    clear hb1
    replace KX : Hid (Blk w1 (w.heap.size) 33 [.slice (some ⟨a1, o1, none⟩) t.lines.length c, .int .i64 t.hand]) := Lib.hid (KX.out.chg Y1.out (by omega))
    replace KL : Hid (Blk w1 (w.heap.size + 1) 43 [.bool true, .int .i64 xt, .int .i64 xp, .int .i64 xf, .int .i64 xr, .bool xw]) := Lib.hid (KL.out.chg Y1.out (by omega))
    replace KR : Hid (Blk w1 (w.heap.size + 1 + 1) 33 [.slice none 0 0, .int .i64 0]) := Lib.hid (KR.out.chg Y1.out (by omega))
    replace DX := Lib.hid (HX.out.ex Ew1.out)
    obtain ⟨qX0, qX1⟩ := KX.out.c2
    have jX := KX.out.lt
    obtain ⟨qL0, qL1, qL2, qL3, qL4, qL5⟩ := KL.out.c6
    have jL := KL.out.lt
    obtain ⟨qR0, qR1⟩ := KR.out.c2
    have jR := KR.out.lt
    have zR := KR.out.frozen
    rw [hv]
    go_wp2_with fail
    refine name_calls ?_; intro v2 hv2
    have X2 : Hid (Chg (0) (0) w1 v2) := Lib.hid (by rw [hv2]; repeat' (first | with_reducible exact Chg.refl _ _ _ | with_reducible refine Chg.alloc ?_ _ | with_reducible refine Chg.drew ?_ | with_reducible refine Chg.set ?_ (by omega) _))
    have t2 : w1.heap.size ≤ v2.heap.size := X2.out.size
    have Ev2 : Hid (Ex w v2) := Lib.hid (Ew1.out.chg X2.out (by omega))
    clear qX0 qX1 jX
    clear qL0 qL1 qL2 qL3 qL4 qL5 jL
    clear qR0 qR1 jR zR
    replace KX : Hid (Blk v2 (w.heap.size) 33 [.slice (some ⟨a1, o1, none⟩) t.lines.length c, .int .i64 t.hand]) := Lib.hid (KX.out.chg X2.out (by omega))
    replace KL : Hid (Blk v2 (w.heap.size + 1) 43 [.bool true, .int .i64 xt, .int .i64 xp, .int .i64 xf, .int .i64 xr, .bool xw]) := Lib.hid (KL.out.chg X2.out (by omega))
    replace KR : Hid (Blk v2 (w.heap.size + 1 + 1) 33 [.slice none 0 0, .int .i64 0]) := Lib.hid (KR.out.chg X2.out (by omega))
    replace DX := Lib.hid (HX.out.ex Ev2.out)
    clear hv2
    refine (l4Line_c ⟨true, xt, xp, xf, xr, xw⟩ _).mono ?_; rintro r w2 ⟨rfl, hb2⟩
    have Y2 : Hid (Chg 0 0 v2 w2) := Lib.hid (Chg.of_ex hb2)
    have s2 : v2.heap.size ≤ w2.heap.size := Y2.out.size
    have Ew2 : Hid (Ex w w2) := Lib.hid (Ev2.out.chg Y2.out (by omega))
    clear hb2
    replace KX : Hid (Blk w2 (w.heap.size) 33 [.slice (some ⟨a1, o1, none⟩) t.lines.length c, .int .i64 t.hand]) := Lib.hid (KX.out.chg Y2.out (by omega))
    replace KL : Hid (Blk w2 (w.heap.size + 1) 43 [.bool true, .int .i64 xt, .int .i64 xp, .int .i64 xf, .int .i64 xr, .bool xw]) := Lib.hid (KL.out.chg Y2.out (by omega))
    replace KR : Hid (Blk w2 (w.heap.size + 1 + 1) 33 [.slice none 0 0, .int .i64 0]) := Lib.hid (KR.out.chg Y2.out (by omega))
    replace DX := Lib.hid (HX.out.ex Ew2.out)
    obtain ⟨qX0, qX1⟩ := KX.out.c2
    have jX := KX.out.lt
    obtain ⟨qL0, qL1, qL2, qL3, qL4, qL5⟩ := KL.out.c6
    have jL := KL.out.lt
    obtain ⟨qR0, qR1⟩ := KR.out.c2
    have jR := KR.out.lt
    have zR := KR.out.frozen
    rw [hlv]
    go_wp2_with fail
    refine name_calls ?_; intro v3 hv3
    have X3 : Hid (Chg (0) (0) w2 v3) := Lib.hid (by rw [hv3]; repeat' (first | with_reducible exact Chg.refl _ _ _ | with_reducible refine Chg.alloc ?_ _ | with_reducible refine Chg.drew ?_ | with_reducible refine Chg.set ?_ (by omega) _))
    have t3 : w2.heap.size ≤ v3.heap.size := X3.out.size
    have Ev3 : Hid (Ex w v3) := Lib.hid (Ew2.out.chg X3.out (by omega))
    clear qX0 qX1 jX
    clear qL0 qL1 qL2 qL3 qL4 qL5 jL
    clear qR0 qR1 jR zR
    replace KX : Hid (Blk v3 (w.heap.size) 33 [.slice (some ⟨a1, o1, none⟩) t.lines.length c, .int .i64 t.hand]) := Lib.hid (KX.out.chg X3.out (by omega))
    replace KL : Hid (Blk v3 (w.heap.size + 1) 43 [.bool true, .int .i64 xt, .int .i64 xp, .int .i64 xf, .int .i64 xr, .bool xw]) := Lib.hid (KL.out.chg X3.out (by omega))
    replace KR : Hid (Blk v3 (w.heap.size + 1 + 1) 33 [.slice none 0 0, .int .i64 0]) := Lib.hid (KR.out.chg X3.out (by omega))
    replace DX := Lib.hid (HX.out.ex Ev3.out)
    clear hv3
    refine (CV1.out _ c _ DX.out hc).mono ?_; rintro r w3 ⟨rfl, hb3⟩
    have Y3 : Hid (Chg 0 0 v3 w3) := Lib.hid (Chg.of_ex hb3)
    have s3 : v3.heap.size ≤ w3.heap.size := Y3.out.size
    have Ew3 : Hid (Ex w w3) := Lib.hid (Ev3.out.chg Y3.out (by omega))
    clear hb3
    replace KX : Hid (Blk w3 (w.heap.size) 33 [.slice (some ⟨a1, o1, none⟩) t.lines.length c, .int .i64 t.hand]) := Lib.hid (KX.out.chg Y3.out (by omega))
    replace KL : Hid (Blk w3 (w.heap.size + 1) 43 [.bool true, .int .i64 xt, .int .i64 xp, .int .i64 xf, .int .i64 xr, .bool xw]) := Lib.hid (KL.out.chg Y3.out (by omega))
    replace KR : Hid (Blk w3 (w.heap.size + 1 + 1) 33 [.slice none 0 0, .int .i64 0]) := Lib.hid (KR.out.chg Y3.out (by omega))
    replace DX := Lib.hid (HX.out.ex Ew3.out)
    obtain ⟨qX0, qX1⟩ := KX.out.c2
    have jX := KX.out.lt
    obtain ⟨qL0, qL1, qL2, qL3, qL4, qL5⟩ := KL.out.c6
    have jL := KL.out.lt
    obtain ⟨qR0, qR1⟩ := KR.out.c2
    have jR := KR.out.lt
    have zR := KR.out.frozen
    go_wp2_with fail
    refine name_calls ?_; intro v4 hv4
    have X4 : Hid (Chg (0) (0) w3 v4) := Lib.hid (by rw [hv4]; repeat' (first | with_reducible exact Chg.refl _ _ _ | with_reducible refine Chg.alloc ?_ _ | with_reducible refine Chg.drew ?_ | with_reducible refine Chg.set ?_ (by omega) _))
    have t4 : w3.heap.size ≤ v4.heap.size := X4.out.size
    have Ev4 : Hid (Ex w v4) := Lib.hid (Ew3.out.chg X4.out (by omega))
    clear qX0 qX1 jX
    clear qL0 qL1 qL2 qL3 qL4 qL5 jL
    clear qR0 qR1 jR zR
    replace KX : Hid (Blk v4 (w.heap.size) 33 [.slice (some ⟨a1, o1, none⟩) t.lines.length c, .int .i64 t.hand]) := Lib.hid (KX.out.chg X4.out (by omega))
    replace KL : Hid (Blk v4 (w.heap.size + 1) 43 [.bool true, .int .i64 xt, .int .i64 xp, .int .i64 xf, .int .i64 xr, .bool xw]) := Lib.hid (KL.out.chg X4.out (by omega))
    replace KR : Hid (Blk v4 (w.heap.size + 1 + 1) 33 [.slice none 0 0, .int .i64 0]) := Lib.hid (KR.out.chg X4.out (by omega))
    replace DX := Lib.hid (HX.out.ex Ev4.out)
    clear hv4
    refine (l4Copy_c t _ c _ DX.out hn hc hc2).mono ?_; rintro r w4 ⟨A4, c4, rfl, hf4, hb4⟩
    have Y4 : Hid (Chg 0 0 v4 w4) := Lib.hid (Chg.of_ex hb4)
    have s4 : v4.heap.size ≤ w4.heap.size := Y4.out.size
    have Ew4 : Hid (Ex w w4) := Lib.hid (Ev4.out.chg Y4.out (by omega))
    clear hb4
    replace KX : Hid (Blk w4 (w.heap.size) 33 [.slice (some ⟨a1, o1, none⟩) t.lines.length c, .int .i64 t.hand]) := Lib.hid (KX.out.chg Y4.out (by omega))
    replace KL : Hid (Blk w4 (w.heap.size + 1) 43 [.bool true, .int .i64 xt, .int .i64 xp, .int .i64 xf, .int .i64 xr, .bool xw]) := Lib.hid (KL.out.chg Y4.out (by omega))
    replace KR : Hid (Blk w4 (w.heap.size + 1 + 1) 33 [.slice none 0 0, .int .i64 0]) := Lib.hid (KR.out.chg Y4.out (by omega))
    replace DX := Lib.hid (HX.out.ex Ew4.out)
    have HF4 := Lib.hid hf4; clear hf4
    have WHF4 := Lib.hid HF4.out.row
    obtain ⟨qX0, qX1⟩ := KX.out.c2
    have jX := KX.out.lt
    obtain ⟨qL0, qL1, qL2, qL3, qL4, qL5⟩ := KL.out.c6
    have jL := KL.out.lt
    obtain ⟨qR0, qR1⟩ := KR.out.c2
    have jR := KR.out.lt
    have zR := KR.out.frozen
    obtain ⟨x', hb1, hxk', h0, h1, h2, h3, h4, h5⟩ := Rd.line_known DX.out (k := v) hvn
    obtain rfl : (⟨false, yt, yp, yf, yr, yw⟩ : LineD) = x' := by have := HY.out; rw [hxk'] at this; injection this with this; exact this.symm
    simp only at h0
    clear hxk' h1 h2 h3 h4 h5
    obtain ⟨g, rest, rfl, hBg, hbk, hrest⟩ := HF4.out.open_ hvn
    have HBK := Lib.hid hbk
    have HR := Lib.hid hrest
    have hle := HF4.out.le
    have hca := HF4.out.cap
    obtain ⟨d0, d1, d2, d3, d4, d5⟩ := hbk.line HY.out
    have hfz := hbk.frozen
    have lg := Blk.lt hbk
    clear hbk hrest
    have hgw : w.heap.size + 2 < g := by omega
    go_wp2_with fail
    refine name_calls ?_; intro v5 hv5
    have X5 : Hid (Chg (g) (g + 1) w4 v5) := Lib.hid (by rw [hv5]; repeat' (first | with_reducible exact Chg.refl _ _ _ | with_reducible refine Chg.alloc ?_ _ | with_reducible refine Chg.drew ?_ | with_reducible refine Chg.set ?_ (by omega) _))
    have t5 : w4.heap.size ≤ v5.heap.size := X5.out.size
    have Ev5 : Hid (Ex w v5) := Lib.hid (Ew4.out.chg X5.out (by omega))
    clear qX0 qX1 jX
    clear qL0 qL1 qL2 qL3 qL4 qL5 jL
    clear qR0 qR1 jR zR
    replace KX : Hid (Blk v5 (w.heap.size) 33 [.slice (some ⟨a1, o1, none⟩) t.lines.length c, .int .i64 t.hand]) := Lib.hid (KX.out.chg X5.out (by omega))
    replace KL : Hid (Blk v5 (w.heap.size + 1) 43 [.bool true, .int .i64 xt, .int .i64 xp, .int .i64 xf, .int .i64 xr, .bool xw]) := Lib.hid (KL.out.chg X5.out (by omega))
    replace KR : Hid (Blk v5 (w.heap.size + 1 + 1) 33 [.slice none 0 0, .int .i64 0]) := Lib.hid (KR.out.chg X5.out (by omega))
    have HBN : Hid (Bk 43 v5 g (t.lines.set v ⟨true, xt, xp, xf, xr, xw⟩) rest) := Lib.hid (by rw [hv5]; exact (by repeat' (first | with_reducible refine Bk.alloc ?_ _ | with_reducible refine Bk.drew ?_ | with_reducible refine Bk.far ?_ (by first | (simp; done) | (simp; omega)) _ | exact Bk.set_line HBK.out ⟨true, xt, xp, xf, xr, xw⟩ hvn)))
    clear HF4 WHF4
    have KO : Hid (Blk v5 (w4.heap.size) 33 [.slice (some ⟨g, 0, none⟩) t.lines.length c4, .int .i64 (t.hand)]) := Lib.hid (by rw [hv5]; repeat' (first | with_reducible exact Blk.new_at _ _ _ (by simp) | with_reducible refine Blk.alloc ?_ _ | with_reducible refine Blk.drew ?_ | with_reducible refine Blk.far ?_ (by simp; omega) _))
    have lO : w4.heap.size < v5.heap.size := KO.out.lt
    replace DX := Lib.hid (HX.out.ex Ev5.out)
    clear hv5
    refine (HV.out g c4 _ HBN.out.rd hle).mono ?_; rintro r w5 ⟨rfl, hb5⟩
    have Y5 : Hid (Chg 0 0 v5 w5) := Lib.hid (Chg.of_ex hb5)
    have s5 : v5.heap.size ≤ w5.heap.size := Y5.out.size
    have Ew5 : Hid (Ex w w5) := Lib.hid (Ev5.out.chg Y5.out (by omega))
    clear hb5
    replace KX : Hid (Blk w5 (w.heap.size) 33 [.slice (some ⟨a1, o1, none⟩) t.lines.length c, .int .i64 t.hand]) := Lib.hid (KX.out.chg Y5.out (by omega))
    replace KL : Hid (Blk w5 (w.heap.size + 1) 43 [.bool true, .int .i64 xt, .int .i64 xp, .int .i64 xf, .int .i64 xr, .bool xw]) := Lib.hid (KL.out.chg Y5.out (by omega))
    replace KR : Hid (Blk w5 (w.heap.size + 1 + 1) 33 [.slice none 0 0, .int .i64 0]) := Lib.hid (KR.out.chg Y5.out (by omega))
    replace KO : Hid (Blk w5 (w4.heap.size) 33 [.slice (some ⟨g, 0, none⟩) t.lines.length c4, .int .i64 (t.hand)]) := Lib.hid (KO.out.chg Y5.out (by omega))
    replace DX := Lib.hid (HX.out.ex Ew5.out)
    obtain ⟨qX0, qX1⟩ := KX.out.c2
    have jX := KX.out.lt
    obtain ⟨qL0, qL1, qL2, qL3, qL4, qL5⟩ := KL.out.c6
    have jL := KL.out.lt
    obtain ⟨qR0, qR1⟩ := KR.out.c2
    have jR := KR.out.lt
    have zR := KR.out.frozen
    obtain ⟨qO0, qO1⟩ := KO.out.c2
    have jO := KO.out.lt
    clear h0 d0 d1 d2 d3 d4 d5 hfz
    cases co
    · have HE : Hid (fillLine t ⟨true, xt, xp, xf, xr, xw⟩ = (noCache, 0, false)) := Lib.hid (by rw [HF.out, Bool.and_false]; rfl)
      go_wp2
      exact bodyPost_ret (v := .tuple #[.agg #[.slice none 0 0, .int .i64 0], .int .i64 0, .bool false]) (by simp [results, Try.results43, go_sem, qR0, qR1]) rfl
        ⟨none, 0, by rw [HE.out]; rfl, by rw [HE.out]; exact Fr.none_ _ _ _ _, (by repeat' (first | with_reducible exact Ew5.out | with_reducible refine Ex.alloc ?_ _ | with_reducible refine Ex.drew ?_ | with_reducible refine Ex.put ?_ (by omega) _))⟩
    go_wp2_with fail
    refine name_calls ?_; intro v6 hv6
    have X6 : Hid (Chg (0) (0) w5 v6) := Lib.hid (by rw [hv6]; repeat' (first | with_reducible exact Chg.refl _ _ _ | with_reducible refine Chg.alloc ?_ _ | with_reducible refine Chg.drew ?_ | with_reducible refine Chg.set ?_ (by omega) _))
    have t6 : w5.heap.size ≤ v6.heap.size := X6.out.size
    have Ev6 : Hid (Ex w v6) := Lib.hid (Ew5.out.chg X6.out (by omega))
    clear qX0 qX1 jX
    clear qL0 qL1 qL2 qL3 qL4 qL5 jL
    clear qR0 qR1 jR zR
    clear qO0 qO1 jO
    replace KX : Hid (Blk v6 (w.heap.size) 33 [.slice (some ⟨a1, o1, none⟩) t.lines.length c, .int .i64 t.hand]) := Lib.hid (KX.out.chg X6.out (by omega))
    replace KL : Hid (Blk v6 (w.heap.size + 1) 43 [.bool true, .int .i64 xt, .int .i64 xp, .int .i64 xf, .int .i64 xr, .bool xw]) := Lib.hid (KL.out.chg X6.out (by omega))
    replace KR : Hid (Blk v6 (w.heap.size + 1 + 1) 33 [.slice none 0 0, .int .i64 0]) := Lib.hid (KR.out.chg X6.out (by omega))
    replace KO : Hid (Blk v6 (w4.heap.size) 33 [.slice (some ⟨g, 0, none⟩) t.lines.length c4, .int .i64 (t.hand)]) := Lib.hid (KO.out.chg X6.out (by omega))
    replace DX := Lib.hid (HX.out.ex Ev6.out)
    clear hv6
    refine (l4Find_c t xt xp _ c _ DX.out hn).mono ?_; rintro r w6 ⟨rfl, hb6⟩
    have Y6 : Hid (Chg 0 0 v6 w6) := Lib.hid (Chg.of_ex hb6)
    have s6 : v6.heap.size ≤ w6.heap.size := Y6.out.size
    have Ew6 : Hid (Ex w w6) := Lib.hid (Ev6.out.chg Y6.out (by omega))
    clear hb6
    replace KX : Hid (Blk w6 (w.heap.size) 33 [.slice (some ⟨a1, o1, none⟩) t.lines.length c, .int .i64 t.hand]) := Lib.hid (KX.out.chg Y6.out (by omega))
    replace KL : Hid (Blk w6 (w.heap.size + 1) 43 [.bool true, .int .i64 xt, .int .i64 xp, .int .i64 xf, .int .i64 xr, .bool xw]) := Lib.hid (KL.out.chg Y6.out (by omega))
    replace KR : Hid (Blk w6 (w.heap.size + 1 + 1) 33 [.slice none 0 0, .int .i64 0]) := Lib.hid (KR.out.chg Y6.out (by omega))
    replace KO : Hid (Blk w6 (w4.heap.size) 33 [.slice (some ⟨g, 0, none⟩) t.lines.length c4, .int .i64 (t.hand)]) := Lib.hid (KO.out.chg Y6.out (by omega))
    replace DX := Lib.hid (HX.out.ex Ew6.out)
    obtain ⟨qX0, qX1⟩ := KX.out.c2
    have jX := KX.out.lt
    obtain ⟨qL0, qL1, qL2, qL3, qL4, qL5⟩ := KL.out.c6
    have jL := KL.out.lt
    obtain ⟨qR0, qR1⟩ := KR.out.c2
    have jR := KR.out.lt
    have zR := KR.out.frozen
    obtain ⟨qO0, qO1⟩ := KO.out.c2
    have jO := KO.out.lt
    by_cases hp : placeOf t.lines xt xp < 0
    · have HE : Hid (fillLine t ⟨true, xt, xp, xf, xr, xw⟩ = (fillOut t ⟨true, xt, xp, xf, xr, xw⟩, (v : Int), true)) := Lib.hid (by rw [HF.out, decide_eq_true hp]; rfl)
      have hp' : ¬ 0 ≤ placeOf t.lines xt xp := by omega
      go_wp2
      exact bodyPost_ret (v := .tuple #[.agg #[.slice (some ⟨g, 0, none⟩) t.lines.length c4, .int .i64 (t.hand)], .int .i64 v, .bool true]) (by simp [results, Try.results43, go_sem, qR0, qR1]) rfl
        ⟨some ⟨g, 0, none⟩, c4, by rw [HE.out, HCE.out]; simp, by rw [HE.out, HCE.out]; exact Fr.close (xs := t.lines.set v ⟨true, xt, xp, xf, xr, xw⟩) (rest := rest) (by repeat' (first | with_reducible refine Bk.alloc ?_ _ | with_reducible refine Bk.drew ?_ | with_reducible refine Bk.far ?_ (by first | (simp; done) | (simp; omega)) _ | exact HBN.out.ex (Y5.out.ex_.trans (X6.out.ex_.trans Y6.out.ex_)))) (by omega) (by rw [List.length_set]; exact HR.out) (by simp; omega) hca, (by repeat' (first | with_reducible exact Ew6.out | with_reducible refine Ex.alloc ?_ _ | with_reducible refine Ex.drew ?_ | with_reducible refine Ex.put ?_ (by omega) _))⟩
    · have HE : Hid (fillLine t ⟨true, xt, xp, xf, xr, xw⟩ = (noCache, 0, false)) := Lib.hid (by rw [HF.out, decide_eq_false hp]; rfl)
      have hp' : 0 ≤ placeOf t.lines xt xp := by omega
      go_wp2
      exact bodyPost_ret (v := .tuple #[.agg #[.slice none 0 0, .int .i64 0], .int .i64 0, .bool false]) (by simp [results, Try.results43, go_sem, qR0, qR1]) rfl
        ⟨none, 0, by rw [HE.out]; rfl, by rw [HE.out]; exact Fr.none_ _ _ _ _, (by repeat' (first | with_reducible exact Ew6.out | with_reducible refine Ex.alloc ?_ _ | with_reducible refine Ex.drew ?_ | with_reducible refine Ex.put ?_ (by omega) _))⟩
  · simp only [if_true] at HV HCE
    generalize cacheV (fillOut t ⟨true, xt, xp, xf, xr, xw⟩) = co at HV HF
    go_enter Try.func43, Try.ntmps43
    go_wp2_with fail
    refine name_calls ?_; intro v1 hv1
    have X1 : Hid (Chg (0) (0) w v1) := Lib.hid (by rw [hv1]; repeat' (first | with_reducible exact Chg.refl _ _ _ | with_reducible refine Chg.alloc ?_ _ | with_reducible refine Chg.drew ?_ | with_reducible refine Chg.set ?_ (by omega) _))
    have t1 : w.heap.size ≤ v1.heap.size := X1.out.size
    have Ev1 : Hid (Ex w v1) := Lib.hid ((Ex.refl w).chg X1.out (by omega))
    have KX : Hid (Blk v1 (w.heap.size) 33 [.slice (some ⟨a1, o1, none⟩) t.lines.length c, .int .i64 t.hand]) := Lib.hid (by rw [hv1]; repeat' (first | with_reducible exact Blk.new_at _ _ _ (by simp) | with_reducible refine Blk.alloc ?_ _ | with_reducible refine Blk.drew ?_ | with_reducible refine Blk.far ?_ (by simp; omega) _))
    have lX : w.heap.size < v1.heap.size := KX.out.lt
    have KL : Hid (Blk v1 (w.heap.size + 1) 43 [.bool true, .int .i64 xt, .int .i64 xp, .int .i64 xf, .int .i64 xr, .bool xw]) := Lib.hid (by rw [hv1]; repeat' (first | with_reducible exact Blk.new_at _ _ _ (by simp) | with_reducible refine Blk.alloc ?_ _ | with_reducible refine Blk.drew ?_ | with_reducible refine Blk.far ?_ (by simp; omega) _))
    have lL : w.heap.size + 1 < v1.heap.size := KL.out.lt
    have KR : Hid (Blk v1 (w.heap.size + 1 + 1) 33 [.slice none 0 0, .int .i64 0]) := Lib.hid (by rw [hv1]; repeat' (first | with_reducible exact Blk.new_at _ _ _ (by simp) | with_reducible refine Blk.alloc ?_ _ | with_reducible refine Blk.drew ?_ | with_reducible refine Blk.far ?_ (by simp; omega) _))
    have lR : w.heap.size + 1 + 1 < v1.heap.size := KR.out.lt
    have DX := Lib.hid (HX.out.ex Ev1.out)
    clear hv1
    refine (cacheValidS_c t _ c _ DX.out hn hc).mono ?_; rintro r w1 ⟨rfl, hb1⟩
    have Y1 : Hid (Chg 0 0 v1 w1) := Lib.hid (Chg.of_ex hb1)
    have s1 : v1.heap.size ≤ w1.heap.size := Y1.out.size
    have Ew1 : Hid (Ex w w1) := Lib.hid (Ev1.out.chg Y1.out (by omega))
    clear hb1
    replace KX : Hid (Blk w1 (w.heap.size) 33 [.slice (some ⟨a1, o1, none⟩) t.lines.length c, .int .i64 t.hand]) := Lib.hid (KX.out.chg Y1.out (by omega))
    replace KL : Hid (Blk w1 (w.heap.size + 1) 43 [.bool true, .int .i64 xt, .int .i64 xp, .int .i64 xf, .int .i64 xr, .bool xw]) := Lib.hid (KL.out.chg Y1.out (by omega))
    replace KR : Hid (Blk w1 (w.heap.size + 1 + 1) 33 [.slice none 0 0, .int .i64 0]) := Lib.hid (KR.out.chg Y1.out (by omega))
    replace DX := Lib.hid (HX.out.ex Ew1.out)
    obtain ⟨qX0, qX1⟩ := KX.out.c2
    have jX := KX.out.lt
    obtain ⟨qL0, qL1, qL2, qL3, qL4, qL5⟩ := KL.out.c6
    have jL := KL.out.lt
    obtain ⟨qR0, qR1⟩ := KR.out.c2
    have jR := KR.out.lt
    have zR := KR.out.frozen
    rw [hv]
    go_wp2_with fail
    refine name_calls ?_; intro v2 hv2
    have X2 : Hid (Chg (0) (0) w1 v2) := Lib.hid (by rw [hv2]; repeat' (first | with_reducible exact Chg.refl _ _ _ | with_reducible refine Chg.alloc ?_ _ | with_reducible refine Chg.drew ?_ | with_reducible refine Chg.set ?_ (by omega) _))
    have t2 : w1.heap.size ≤ v2.heap.size := X2.out.size
    have Ev2 : Hid (Ex w v2) := Lib.hid (Ew1.out.chg X2.out (by omega))
    clear qX0 qX1 jX
    clear qL0 qL1 qL2 qL3 qL4 qL5 jL
    clear qR0 qR1 jR zR
    replace KX : Hid (Blk v2 (w.heap.size) 33 [.slice (some ⟨a1, o1, none⟩) t.lines.length c, .int .i64 t.hand]) := Lib.hid (KX.out.chg X2.out (by omega))
    replace KL : Hid (Blk v2 (w.heap.size + 1) 43 [.bool true, .int .i64 xt, .int .i64 xp, .int .i64 xf, .int .i64 xr, .bool xw]) := Lib.hid (KL.out.chg X2.out (by omega))
    replace KR : Hid (Blk v2 (w.heap.size + 1 + 1) 33 [.slice none 0 0, .int .i64 0]) := Lib.hid (KR.out.chg X2.out (by omega))
    replace DX := Lib.hid (HX.out.ex Ev2.out)
    clear hv2
    refine (l4Line_c ⟨true, xt, xp, xf, xr, xw⟩ _).mono ?_; rintro r w2 ⟨rfl, hb2⟩
    have Y2 : Hid (Chg 0 0 v2 w2) := Lib.hid (Chg.of_ex hb2)
    have s2 : v2.heap.size ≤ w2.heap.size := Y2.out.size
    have Ew2 : Hid (Ex w w2) := Lib.hid (Ev2.out.chg Y2.out (by omega))
    clear hb2
    replace KX : Hid (Blk w2 (w.heap.size) 33 [.slice (some ⟨a1, o1, none⟩) t.lines.length c, .int .i64 t.hand]) := Lib.hid (KX.out.chg Y2.out (by omega))
    replace KL : Hid (Blk w2 (w.heap.size + 1) 43 [.bool true, .int .i64 xt, .int .i64 xp, .int .i64 xf, .int .i64 xr, .bool xw]) := Lib.hid (KL.out.chg Y2.out (by omega))
    replace KR : Hid (Blk w2 (w.heap.size + 1 + 1) 33 [.slice none 0 0, .int .i64 0]) := Lib.hid (KR.out.chg Y2.out (by omega))
    replace DX := Lib.hid (HX.out.ex Ew2.out)
    obtain ⟨qX0, qX1⟩ := KX.out.c2
    have jX := KX.out.lt
    obtain ⟨qL0, qL1, qL2, qL3, qL4, qL5⟩ := KL.out.c6
    have jL := KL.out.lt
    obtain ⟨qR0, qR1⟩ := KR.out.c2
    have jR := KR.out.lt
    have zR := KR.out.frozen
    rw [hlv]
    go_wp2_with fail
    refine name_calls ?_; intro v3 hv3
    have X3 : Hid (Chg (0) (0) w2 v3) := Lib.hid (by rw [hv3]; repeat' (first | with_reducible exact Chg.refl _ _ _ | with_reducible refine Chg.alloc ?_ _ | with_reducible refine Chg.drew ?_ | with_reducible refine Chg.set ?_ (by omega) _))
    have t3 : w2.heap.size ≤ v3.heap.size := X3.out.size
    have Ev3 : Hid (Ex w v3) := Lib.hid (Ew2.out.chg X3.out (by omega))
    clear qX0 qX1 jX
    clear qL0 qL1 qL2 qL3 qL4 qL5 jL
    clear qR0 qR1 jR zR
    replace KX : Hid (Blk v3 (w.heap.size) 33 [.slice (some ⟨a1, o1, none⟩) t.lines.length c, .int .i64 t.hand]) := Lib.hid (KX.out.chg X3.out (by omega))
    replace KL : Hid (Blk v3 (w.heap.size + 1) 43 [.bool true, .int .i64 xt, .int .i64 xp, .int .i64 xf, .int .i64 xr, .bool xw]) := Lib.hid (KL.out.chg X3.out (by omega))
    replace KR : Hid (Blk v3 (w.heap.size + 1 + 1) 33 [.slice none 0 0, .int .i64 0]) := Lib.hid (KR.out.chg X3.out (by omega))
    replace DX := Lib.hid (HX.out.ex Ev3.out)
    clear hv3
    refine (CV1.out _ c _ DX.out hc).mono ?_; rintro r w3 ⟨rfl, hb3⟩
    have Y3 : Hid (Chg 0 0 v3 w3) := Lib.hid (Chg.of_ex hb3)
    have s3 : v3.heap.size ≤ w3.heap.size := Y3.out.size
    have Ew3 : Hid (Ex w w3) := Lib.hid (Ev3.out.chg Y3.out (by omega))
    clear hb3
    replace KX : Hid (Blk w3 (w.heap.size) 33 [.slice (some ⟨a1, o1, none⟩) t.lines.length c, .int .i64 t.hand]) := Lib.hid (KX.out.chg Y3.out (by omega))
    replace KL : Hid (Blk w3 (w.heap.size + 1) 43 [.bool true, .int .i64 xt, .int .i64 xp, .int .i64 xf, .int .i64 xr, .bool xw]) := Lib.hid (KL.out.chg Y3.out (by omega))
    replace KR : Hid (Blk w3 (w.heap.size + 1 + 1) 33 [.slice none 0 0, .int .i64 0]) := Lib.hid (KR.out.chg Y3.out (by omega))
    replace DX := Lib.hid (HX.out.ex Ew3.out)
    obtain ⟨qX0, qX1⟩ := KX.out.c2
    have jX := KX.out.lt
    obtain ⟨qL0, qL1, qL2, qL3, qL4, qL5⟩ := KL.out.c6
    have jL := KL.out.lt
    obtain ⟨qR0, qR1⟩ := KR.out.c2
    have jR := KR.out.lt
    have zR := KR.out.frozen
    go_wp2_with fail
    refine name_calls ?_; intro v4 hv4
    have X4 : Hid (Chg (0) (0) w3 v4) := Lib.hid (by rw [hv4]; repeat' (first | with_reducible exact Chg.refl _ _ _ | with_reducible refine Chg.alloc ?_ _ | with_reducible refine Chg.drew ?_ | with_reducible refine Chg.set ?_ (by omega) _))
    have t4 : w3.heap.size ≤ v4.heap.size := X4.out.size
    have Ev4 : Hid (Ex w v4) := Lib.hid (Ew3.out.chg X4.out (by omega))
    clear qX0 qX1 jX
    clear qL0 qL1 qL2 qL3 qL4 qL5 jL
    clear qR0 qR1 jR zR
    replace KX : Hid (Blk v4 (w.heap.size) 33 [.slice (some ⟨a1, o1, none⟩) t.lines.length c, .int .i64 t.hand]) := Lib.hid (KX.out.chg X4.out (by omega))
    replace KL : Hid (Blk v4 (w.heap.size + 1) 43 [.bool true, .int .i64 xt, .int .i64 xp, .int .i64 xf, .int .i64 xr, .bool xw]) := Lib.hid (KL.out.chg X4.out (by omega))
    replace KR : Hid (Blk v4 (w.heap.size + 1 + 1) 33 [.slice none 0 0, .int .i64 0]) := Lib.hid (KR.out.chg X4.out (by omega))
    replace DX := Lib.hid (HX.out.ex Ev4.out)
    clear hv4
    refine (l4Copy_c t _ c _ DX.out hn hc hc2).mono ?_; rintro r w4 ⟨A4, c4, rfl, hf4, hb4⟩
    have Y4 : Hid (Chg 0 0 v4 w4) := Lib.hid (Chg.of_ex hb4)
    have s4 : v4.heap.size ≤ w4.heap.size := Y4.out.size
    have Ew4 : Hid (Ex w w4) := Lib.hid (Ev4.out.chg Y4.out (by omega))
    clear hb4
    replace KX : Hid (Blk w4 (w.heap.size) 33 [.slice (some ⟨a1, o1, none⟩) t.lines.length c, .int .i64 t.hand]) := Lib.hid (KX.out.chg Y4.out (by omega))
    replace KL : Hid (Blk w4 (w.heap.size + 1) 43 [.bool true, .int .i64 xt, .int .i64 xp, .int .i64 xf, .int .i64 xr, .bool xw]) := Lib.hid (KL.out.chg Y4.out (by omega))
    replace KR : Hid (Blk w4 (w.heap.size + 1 + 1) 33 [.slice none 0 0, .int .i64 0]) := Lib.hid (KR.out.chg Y4.out (by omega))
    replace DX := Lib.hid (HX.out.ex Ew4.out)
    have HF4 := Lib.hid hf4; clear hf4
    have WHF4 := Lib.hid HF4.out.row
    obtain ⟨qX0, qX1⟩ := KX.out.c2
    have jX := KX.out.lt
    obtain ⟨qL0, qL1, qL2, qL3, qL4, qL5⟩ := KL.out.c6
    have jL := KL.out.lt
    obtain ⟨qR0, qR1⟩ := KR.out.c2
    have jR := KR.out.lt
    have zR := KR.out.frozen
    obtain ⟨x', hb1, hxk', h0, h1, h2, h3, h4, h5⟩ := Rd.line_known DX.out (k := v) hvn
    obtain rfl : (⟨true, yt, yp, yf, yr, yw⟩ : LineD) = x' := by have := HY.out; rw [hxk'] at this; injection this with this; exact this.symm
    simp only at h0
    clear hxk' h1 h2 h3 h4 h5
    obtain ⟨g, rest, rfl, hBg, hbk, hrest⟩ := HF4.out.open_ hvn
    have HBK := Lib.hid hbk
    have HR := Lib.hid hrest
    have hle := HF4.out.le
    have hca := HF4.out.cap
    obtain ⟨d0, d1, d2, d3, d4, d5⟩ := hbk.line HY.out
    have hfz := hbk.frozen
    have lg := Blk.lt hbk
    clear hbk hrest
    have hgw : w.heap.size + 2 < g := by omega
    go_wp2_with fail
    refine name_calls ?_; intro v5 hv5
    have X5 : Hid (Chg (g) (g + 1) w4 v5) := Lib.hid (by rw [hv5]; repeat' (first | with_reducible exact Chg.refl _ _ _ | with_reducible refine Chg.alloc ?_ _ | with_reducible refine Chg.drew ?_ | with_reducible refine Chg.set ?_ (by omega) _))
    have t5 : w4.heap.size ≤ v5.heap.size := X5.out.size
    have Ev5 : Hid (Ex w v5) := Lib.hid (Ew4.out.chg X5.out (by omega))
    clear qX0 qX1 jX
    clear qL0 qL1 qL2 qL3 qL4 qL5 jL
    clear qR0 qR1 jR zR
    replace KX : Hid (Blk v5 (w.heap.size) 33 [.slice (some ⟨a1, o1, none⟩) t.lines.length c, .int .i64 t.hand]) := Lib.hid (KX.out.chg X5.out (by omega))
    replace KL : Hid (Blk v5 (w.heap.size + 1) 43 [.bool true, .int .i64 xt, .int .i64 xp, .int .i64 xf, .int .i64 xr, .bool xw]) := Lib.hid (KL.out.chg X5.out (by omega))
    replace KR : Hid (Blk v5 (w.heap.size + 1 + 1) 33 [.slice none 0 0, .int .i64 0]) := Lib.hid (KR.out.chg X5.out (by omega))
    have HBN : Hid (Bk 43 v5 g (t.lines.set v ⟨true, xt, xp, xf, xr, xw⟩) rest) := Lib.hid (by rw [hv5]; exact (by repeat' (first | with_reducible refine Bk.alloc ?_ _ | with_reducible refine Bk.drew ?_ | with_reducible refine Bk.far ?_ (by first | (simp; done) | (simp; omega)) _ | exact Bk.set_line HBK.out ⟨true, xt, xp, xf, xr, xw⟩ hvn)))
    clear HF4 WHF4
    have KO : Hid (Blk v5 (w4.heap.size) 33 [.slice (some ⟨g, 0, none⟩) t.lines.length c4, .int .i64 (((v : Int) + 1) % (t.lines.length : Int))]) := Lib.hid (by rw [hv5]; repeat' (first | with_reducible exact Blk.new_at _ _ _ (by simp) | with_reducible refine Blk.alloc ?_ _ | with_reducible refine Blk.drew ?_ | with_reducible refine Blk.far ?_ (by simp; omega) _))
    have lO : w4.heap.size < v5.heap.size := KO.out.lt
    replace DX := Lib.hid (HX.out.ex Ev5.out)
    clear hv5
    refine (HV.out g c4 _ HBN.out.rd hle).mono ?_; rintro r w5 ⟨rfl, hb5⟩
    have Y5 : Hid (Chg 0 0 v5 w5) := Lib.hid (Chg.of_ex hb5)
    have s5 : v5.heap.size ≤ w5.heap.size := Y5.out.size
    have Ew5 : Hid (Ex w w5) := Lib.hid (Ev5.out.chg Y5.out (by omega))
    clear hb5
    replace KX : Hid (Blk w5 (w.heap.size) 33 [.slice (some ⟨a1, o1, none⟩) t.lines.length c, .int .i64 t.hand]) := Lib.hid (KX.out.chg Y5.out (by omega))
    replace KL : Hid (Blk w5 (w.heap.size + 1) 43 [.bool true, .int .i64 xt, .int .i64 xp, .int .i64 xf, .int .i64 xr, .bool xw]) := Lib.hid (KL.out.chg Y5.out (by omega))
    replace KR : Hid (Blk w5 (w.heap.size + 1 + 1) 33 [.slice none 0 0, .int .i64 0]) := Lib.hid (KR.out.chg Y5.out (by omega))
    replace KO : Hid (Blk w5 (w4.heap.size) 33 [.slice (some ⟨g, 0, none⟩) t.lines.length c4, .int .i64 (((v : Int) + 1) % (t.lines.length : Int))]) := Lib.hid (KO.out.chg Y5.out (by omega))
    replace DX := Lib.hid (HX.out.ex Ew5.out)
    obtain ⟨qX0, qX1⟩ := KX.out.c2
    have jX := KX.out.lt
    obtain ⟨qL0, qL1, qL2, qL3, qL4, qL5⟩ := KL.out.c6
    have jL := KL.out.lt
    obtain ⟨qR0, qR1⟩ := KR.out.c2
    have jR := KR.out.lt
    have zR := KR.out.frozen
    obtain ⟨qO0, qO1⟩ := KO.out.c2
    have jO := KO.out.lt
    clear h0 d0 d1 d2 d3 d4 d5 hfz
    cases co
    · have HE : Hid (fillLine t ⟨true, xt, xp, xf, xr, xw⟩ = (noCache, 0, false)) := Lib.hid (by rw [HF.out, Bool.and_false]; rfl)
      go_wp2
      exact bodyPost_ret (v := .tuple #[.agg #[.slice none 0 0, .int .i64 0], .int .i64 0, .bool false]) (by simp [results, Try.results43, go_sem, qR0, qR1]) rfl
        ⟨none, 0, by rw [HE.out]; rfl, by rw [HE.out]; exact Fr.none_ _ _ _ _, (by repeat' (first | with_reducible exact Ew5.out | with_reducible refine Ex.alloc ?_ _ | with_reducible refine Ex.drew ?_ | with_reducible refine Ex.put ?_ (by omega) _))⟩
    go_wp2_with fail
    refine name_calls ?_; intro v6 hv6
    have X6 : Hid (Chg (0) (0) w5 v6) := Lib.hid (by rw [hv6]; repeat' (first | with_reducible exact Chg.refl _ _ _ | with_reducible refine Chg.alloc ?_ _ | with_reducible refine Chg.drew ?_ | with_reducible refine Chg.set ?_ (by omega) _))
    have t6 : w5.heap.size ≤ v6.heap.size := X6.out.size
    have Ev6 : Hid (Ex w v6) := Lib.hid (Ew5.out.chg X6.out (by omega))
    clear qX0 qX1 jX
    clear qL0 qL1 qL2 qL3 qL4 qL5 jL
    clear qR0 qR1 jR zR
    clear qO0 qO1 jO
    replace KX : Hid (Blk v6 (w.heap.size) 33 [.slice (some ⟨a1, o1, none⟩) t.lines.length c, .int .i64 t.hand]) := Lib.hid (KX.out.chg X6.out (by omega))
    replace KL : Hid (Blk v6 (w.heap.size + 1) 43 [.bool true, .int .i64 xt, .int .i64 xp, .int .i64 xf, .int .i64 xr, .bool xw]) := Lib.hid (KL.out.chg X6.out (by omega))
    replace KR : Hid (Blk v6 (w.heap.size + 1 + 1) 33 [.slice none 0 0, .int .i64 0]) := Lib.hid (KR.out.chg X6.out (by omega))
    replace KO : Hid (Blk v6 (w4.heap.size) 33 [.slice (some ⟨g, 0, none⟩) t.lines.length c4, .int .i64 (((v : Int) + 1) % (t.lines.length : Int))]) := Lib.hid (KO.out.chg X6.out (by omega))
    replace DX := Lib.hid (HX.out.ex Ev6.out)
    clear hv6
    refine (l4Find_c t xt xp _ c _ DX.out hn).mono ?_; rintro r w6 ⟨rfl, hb6⟩
    have Y6 : Hid (Chg 0 0 v6 w6) := Lib.hid (Chg.of_ex hb6)
    have s6 : v6.heap.size ≤ w6.heap.size := Y6.out.size
    have Ew6 : Hid (Ex w w6) := Lib.hid (Ev6.out.chg Y6.out (by omega))
    clear hb6
    replace KX : Hid (Blk w6 (w.heap.size) 33 [.slice (some ⟨a1, o1, none⟩) t.lines.length c, .int .i64 t.hand]) := Lib.hid (KX.out.chg Y6.out (by omega))
    replace KL : Hid (Blk w6 (w.heap.size + 1) 43 [.bool true, .int .i64 xt, .int .i64 xp, .int .i64 xf, .int .i64 xr, .bool xw]) := Lib.hid (KL.out.chg Y6.out (by omega))
    replace KR : Hid (Blk w6 (w.heap.size + 1 + 1) 33 [.slice none 0 0, .int .i64 0]) := Lib.hid (KR.out.chg Y6.out (by omega))
    replace KO : Hid (Blk w6 (w4.heap.size) 33 [.slice (some ⟨g, 0, none⟩) t.lines.length c4, .int .i64 (((v : Int) + 1) % (t.lines.length : Int))]) := Lib.hid (KO.out.chg Y6.out (by omega))
    replace DX := Lib.hid (HX.out.ex Ew6.out)
    obtain ⟨qX0, qX1⟩ := KX.out.c2
    have jX := KX.out.lt
    obtain ⟨qL0, qL1, qL2, qL3, qL4, qL5⟩ := KL.out.c6
    have jL := KL.out.lt
    obtain ⟨qR0, qR1⟩ := KR.out.c2
    have jR := KR.out.lt
    have zR := KR.out.frozen
    obtain ⟨qO0, qO1⟩ := KO.out.c2
    have jO := KO.out.lt
    by_cases hp : placeOf t.lines xt xp < 0
    · have HE : Hid (fillLine t ⟨true, xt, xp, xf, xr, xw⟩ = (fillOut t ⟨true, xt, xp, xf, xr, xw⟩, (v : Int), true)) := Lib.hid (by rw [HF.out, decide_eq_true hp]; rfl)
      have hp' : ¬ 0 ≤ placeOf t.lines xt xp := by omega
      go_wp2
      exact bodyPost_ret (v := .tuple #[.agg #[.slice (some ⟨g, 0, none⟩) t.lines.length c4, .int .i64 (((v : Int) + 1) % (t.lines.length : Int))], .int .i64 v, .bool true]) (by simp [results, Try.results43, go_sem, qR0, qR1]) rfl
        ⟨some ⟨g, 0, none⟩, c4, by rw [HE.out, HCE.out]; simp, by rw [HE.out, HCE.out]; exact Fr.close (xs := t.lines.set v ⟨true, xt, xp, xf, xr, xw⟩) (rest := rest) (by repeat' (first | with_reducible refine Bk.alloc ?_ _ | with_reducible refine Bk.drew ?_ | with_reducible refine Bk.far ?_ (by first | (simp; done) | (simp; omega)) _ | exact HBN.out.ex (Y5.out.ex_.trans (X6.out.ex_.trans Y6.out.ex_)))) (by omega) (by rw [List.length_set]; exact HR.out) (by simp; omega) hca, (by repeat' (first | with_reducible exact Ew6.out | with_reducible refine Ex.alloc ?_ _ | with_reducible refine Ex.drew ?_ | with_reducible refine Ex.put ?_ (by omega) _))⟩
    · have HE : Hid (fillLine t ⟨true, xt, xp, xf, xr, xw⟩ = (noCache, 0, false)) := Lib.hid (by rw [HF.out, decide_eq_false hp]; rfl)
      have hp' : 0 ≤ placeOf t.lines xt xp := by omega
      go_wp2
      exact bodyPost_ret (v := .tuple #[.agg #[.slice none 0 0, .int .i64 0], .int .i64 0, .bool false]) (by simp [results, Try.results43, go_sem, qR0, qR1]) rfl
        ⟨none, 0, by rw [HE.out]; rfl, by rw [HE.out]; exact Fr.none_ _ _ _ _, (by repeat' (first | with_reducible exact Ew6.out | with_reducible refine Ex.alloc ?_ _ | with_reducible refine Ex.drew ?_ | with_reducible refine Ex.put ?_ (by omega) _))⟩
end Go.Proofs.Ytidnefcnojedoaa
