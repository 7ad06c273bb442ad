/- Joined: Ct, Th, Tt, Tu, Nm. -/
import Derived.RegionTactic
import Derived.ChangeAlike
import Derived.Test.YtbdlpbladpppjaaGreatDoorK7
import Derived.Test.YtbdlpbladpppjaaGreatDoorK1
import Derived.Test.YtbdlpbladpppjaaGreatDoorK6
import Derived.Test.YtbdlpbladpppjaaGreatDoorK4
import Derived.Test.YtbdlpbladpppjaaGreatDoorK2
namespace Go.Proofs.YtbdlpbladpppjaaGreatDoor
open Go.ChangeShapes Go.WideShapes Go.ChangeAt Go.RowKit
open Rec (sz cs)
set_option linter.unusedVariables false
set_option maxRecDepth 100000

def fillOut (t : CacheD) (x : LineD) : CacheD := ⟨t.lines.set (victimAt t).toNat x, if (t.lines.getD (victimAt t).toNat noLine).valid then (victimAt t + 1) % (t.lines.length : Int) else t.hand⟩
def fillLine (t : CacheD) (x : LineD) : CacheD × Int × Bool :=
 if cacheV t && (x.valid && (lineV x && (decide (placeOf t.lines x.tag x.page < 0) && cacheV (fillOut t x)))) then (fillOut t x, victimAt t, true) else (noCache, 0, false)
set_option maxHeartbeats 16000000 in
theorem fillLineS_c (t : CacheD) (x : LineD) (A : Option Addr) (c : Nat) (w : World) (hx : Rd w A t.lines) (hn : t.lines.length ≤ 1048576) (hc : t.lines.length ≤ c) (hc2 : c ≤ maxLen) :
  Calls Tryz.prog 113 #[.agg #[.slice A t.lines.length c, .int .i64 t.hand], .agg #[.bool x.valid, .int .i64 x.tag, .int .i64 x.page, .int .i64 x.frame, .int .i64 x.rights, .bool x.wired]] w
  fun r w' => ∃ A' c', r = .returned (.tuple #[.agg #[.slice A' (fillLine t x).1.lines.length c', .int .i64 (fillLine t x).1.hand], .int .i64 (fillLine t x).2.1, .bool (fillLine t x).2.2]) ∧ Fr 64 w' w.heap.size A' c' (fillLine t x).1.lines ∧ Ex w w' := by
 have HX := zq hx
 clear hx
 obtain ⟨xv, xt, xp, xf, xr, xw⟩ := x
 simp only
 cases hv : cacheV t
 ·have e : fillLine t ⟨xv, xt, xp, xf, xr, xw⟩ = (noCache, 0, false) := by unfold fillLine; rw [hv]; rfl
  rw [e]
  clear e
  go_enter Tryz.func113, Tryz.ntmps113
  go_wp2_with fail
  refine name_calls ?_; intro v1 hv1
  have X1 : Hid (Chg (0) (0) w v1) := zx hv1
  have t1 := X1.out.size
  have Ev1 := zq ((Ex.refl w).chg X1.out (by omega))
  have KX : Hid (Blk v1 (w.heap.size) 29 [.slice A t.lines.length c, .int .i64 t.hand]) := zk hv1
  have lX : w.heap.size < v1.heap.size := KX.out.lt
  have KL : Hid (Blk v1 (w.heap.size + 1) 64 [.bool xv, .int .i64 xt, .int .i64 xp, .int .i64 xf, .int .i64 xr, .bool xw]) := zk hv1
  have lL : w.heap.size + 1 < v1.heap.size := KL.out.lt
  have KR : Hid (Blk v1 (w.heap.size + 1 + 1) 29 [.slice none 0 0, .int .i64 0]) := zk hv1
  have lR : w.heap.size + 1 + 1 < v1.heap.size := KR.out.lt
  have DX := zq (HX.out.ex Ev1.out)
  clear hv1
  refine (cacheValidS_c t A c _ DX.out hn hc).mono ?_; rintro r w1 ⟨rfl, hb1⟩
  have Y1 := zq (Chg.of_ex hb1)
  have s1 := Y1.out.size
  have Ew1 := zq (Ev1.out.chg Y1.out (by omega))
  clear hb1
  replace KX := zq (KX.out.chg Y1.out (by omega))
  replace KL := zq (KL.out.chg Y1.out (by omega))
  replace KR := zq (KR.out.chg Y1.out (by omega))
  replace DX := zq (HX.out.ex Ew1.out)
  obtain ⟨qX0, qX1⟩ := KX.out.c2
  have jX := KX.out.lt
  obtain ⟨qL0, qL1, qL2, qL3, qL4, qL5⟩ := KL.out.c6
  have jL := KL.out.lt
  obtain ⟨qR0, qR1⟩ := KR.out.c2
  have jR := KR.out.lt
  have zR := KR.out.frozen
  rw [hv]
  go_wp2
  exact bodyPost_ret (v := .tuple #[.agg #[.slice none 0 0, .int .i64 0], .int .i64 0, .bool false]) (by simp [results, Tryz.results113, go_sem, qR0, qR1]) rfl
   ⟨none, 0, rfl, Fr.none_ _ _ _ _, (Ew1.out.put (by omega) _).put (by omega) _⟩
 cases xv
 ·have e : fillLine t ⟨false, xt, xp, xf, xr, xw⟩ = (noCache, 0, false) := by unfold fillLine; rw [hv]; rfl
  rw [e]
  clear e
  go_enter Tryz.func113, Tryz.ntmps113
  go_wp2_with fail
  refine name_calls ?_; intro v1 hv1
  have X1 : Hid (Chg (0) (0) w v1) := zx hv1
  have t1 := X1.out.size
  have Ev1 := zq ((Ex.refl w).chg X1.out (by omega))
  have KX : Hid (Blk v1 (w.heap.size) 29 [.slice A t.lines.length c, .int .i64 t.hand]) := zk hv1
  have lX : w.heap.size < v1.heap.size := KX.out.lt
  have KL : Hid (Blk v1 (w.heap.size + 1) 64 [.bool false, .int .i64 xt, .int .i64 xp, .int .i64 xf, .int .i64 xr, .bool xw]) := zk hv1
  have lL : w.heap.size + 1 < v1.heap.size := KL.out.lt
  have KR : Hid (Blk v1 (w.heap.size + 1 + 1) 29 [.slice none 0 0, .int .i64 0]) := zk hv1
  have lR : w.heap.size + 1 + 1 < v1.heap.size := KR.out.lt
  have DX := zq (HX.out.ex Ev1.out)
  clear hv1
  refine (cacheValidS_c t A c _ DX.out hn hc).mono ?_; rintro r w1 ⟨rfl, hb1⟩
  have Y1 := zq (Chg.of_ex hb1)
  have s1 := Y1.out.size
  have Ew1 := zq (Ev1.out.chg Y1.out (by omega))
  clear hb1
  replace KX := zq (KX.out.chg Y1.out (by omega))
  replace KL := zq (KL.out.chg Y1.out (by omega))
  replace KR := zq (KR.out.chg Y1.out (by omega))
  replace DX := zq (HX.out.ex Ew1.out)
  obtain ⟨qX0, qX1⟩ := KX.out.c2
  have jX := KX.out.lt
  obtain ⟨qL0, qL1, qL2, qL3, qL4, qL5⟩ := KL.out.c6
  have jL := KL.out.lt
  obtain ⟨qR0, qR1⟩ := KR.out.c2
  have jR := KR.out.lt
  have zR := KR.out.frozen
  rw [hv]
  go_wp2
  exact bodyPost_ret (v := .tuple #[.agg #[.slice none 0 0, .int .i64 0], .int .i64 0, .bool false]) (by simp [results, Tryz.results113, go_sem, qR0, qR1]) rfl
   ⟨none, 0, rfl, Fr.none_ _ _ _ _, (Ew1.out.put (by omega) _).put (by omega) _⟩
 cases hlv : lineV ⟨true, xt, xp, xf, xr, xw⟩
 ·have e : fillLine t ⟨true, xt, xp, xf, xr, xw⟩ = (noCache, 0, false) := by unfold fillLine; rw [hv, hlv]; rfl
  rw [e]
  clear e
  go_enter Tryz.func113, Tryz.ntmps113
  go_wp2_with fail
  refine name_calls ?_; intro v1 hv1
  have X1 : Hid (Chg (0) (0) w v1) := zx hv1
  have t1 := X1.out.size
  have Ev1 := zq ((Ex.refl w).chg X1.out (by omega))
  have KX : Hid (Blk v1 (w.heap.size) 29 [.slice A t.lines.length c, .int .i64 t.hand]) := zk hv1
  have lX : w.heap.size < v1.heap.size := KX.out.lt
  have KL : Hid (Blk v1 (w.heap.size + 1) 64 [.bool true, .int .i64 xt, .int .i64 xp, .int .i64 xf, .int .i64 xr, .bool xw]) := zk hv1
  have lL : w.heap.size + 1 < v1.heap.size := KL.out.lt
  have KR : Hid (Blk v1 (w.heap.size + 1 + 1) 29 [.slice none 0 0, .int .i64 0]) := zk hv1
  have lR : w.heap.size + 1 + 1 < v1.heap.size := KR.out.lt
  have DX := zq (HX.out.ex Ev1.out)
  clear hv1
  refine (cacheValidS_c t A c _ DX.out hn hc).mono ?_; rintro r w1 ⟨rfl, hb1⟩
  have Y1 := zq (Chg.of_ex hb1)
  have s1 := Y1.out.size
  have Ew1 := zq (Ev1.out.chg Y1.out (by omega))
  clear hb1
  replace KX := zq (KX.out.chg Y1.out (by omega))
  replace KL := zq (KL.out.chg Y1.out (by omega))
  replace KR := zq (KR.out.chg Y1.out (by omega))
  replace DX := zq (HX.out.ex Ew1.out)
  obtain ⟨qX0, qX1⟩ := KX.out.c2
  have jX := KX.out.lt
  obtain ⟨qL0, qL1, qL2, qL3, qL4, qL5⟩ := KL.out.c6
  have jL := KL.out.lt
  obtain ⟨qR0, qR1⟩ := KR.out.c2
  have jR := KR.out.lt
  have zR := KR.out.frozen
  rw [hv]
  go_wp2_with fail
  refine name_calls ?_; intro v2 hv2
  have X2 : Hid (Chg (0) (0) w1 v2) := zx hv2
  have t2 := X2.out.size
  have Ev2 := zq (Ew1.out.chg X2.out (by omega))
  clear qX0 qX1 jX
  clear qL0 qL1 qL2 qL3 qL4 qL5 jL
  clear qR0 qR1 jR zR
  replace KX := zq (KX.out.chg X2.out (by omega))
  replace KL := zq (KL.out.chg X2.out (by omega))
  replace KR := zq (KR.out.chg X2.out (by omega))
  replace DX := zq (HX.out.ex Ev2.out)
  clear hv2
  refine (l4Line_c ⟨true, xt, xp, xf, xr, xw⟩ _).mono ?_; rintro r w2 ⟨rfl, hb2⟩
  have Y2 := zq (Chg.of_ex hb2)
  have s2 := Y2.out.size
  have Ew2 := zq (Ev2.out.chg Y2.out (by omega))
  clear hb2
  replace KX := zq (KX.out.chg Y2.out (by omega))
  replace KL := zq (KL.out.chg Y2.out (by omega))
  replace KR := zq (KR.out.chg Y2.out (by omega))
  replace DX := zq (HX.out.ex Ew2.out)
  obtain ⟨qX0, qX1⟩ := KX.out.c2
  have jX := KX.out.lt
  obtain ⟨qL0, qL1, qL2, qL3, qL4, qL5⟩ := KL.out.c6
  have jL := KL.out.lt
  obtain ⟨qR0, qR1⟩ := KR.out.c2
  have jR := KR.out.lt
  have zR := KR.out.frozen
  rw [hlv]
  go_wp2
  exact bodyPost_ret (v := .tuple #[.agg #[.slice none 0 0, .int .i64 0], .int .i64 0, .bool false]) (by simp [results, Tryz.results113, go_sem, qR0, qR1]) rfl
   ⟨none, 0, rfl, Fr.none_ _ _ _ _, (Ew2.out.put (by omega) _).put (by omega) _⟩
 have hcv := (cv_iff t).1 hv
 obtain ⟨v, y, hva, hy, hyw, -⟩ := victim_spec hcv
 have hvn := getElem?_lt hy
 have hgd := getD_of (d := noLine) hy
 have HF : Hid (fillLine t ⟨true, xt, xp, xf, xr, xw⟩ = if (decide (placeOf t.lines xt xp < 0) && cacheV (fillOut t ⟨true, xt, xp, xf, xr, xw⟩)) then (fillOut t ⟨true, xt, xp, xf, xr, xw⟩, (v : Int), true) else (noCache, 0, false)) := zq (by
  unfold fillLine; rw [hv, hlv, hva]; rfl)
 have hce : fillOut t ⟨true, xt, xp, xf, xr, xw⟩ = ⟨t.lines.set v ⟨true, xt, xp, xf, xr, xw⟩, if y.valid then ((v : Int) + 1) % (t.lines.length : Int) else t.hand⟩ := by unfold fillOut; rw [hva, Int.toNat_natCast, hgd]
 have HV : Hid (∀ g c2 w', Rd w' (some ⟨g, 0, none⟩) (t.lines.set v ⟨true, xt, xp, xf, xr, xw⟩) → t.lines.length ≤ c2 → Calls Tryz.prog 47 #[.agg #[.slice (some ⟨g, 0, none⟩) t.lines.length c2, .int .i64 (if y.valid then ((v : Int) + 1) % (t.lines.length : Int) else t.hand)]] w' fun r w'' => r = .returned (.bool (cacheV (fillOut t ⟨true, xt, xp, xf, xr, xw⟩))) ∧ Ex w' w'') := zq (fun g c2 w' hr hc3 => by
  have := cacheValidS_c ⟨t.lines.set v ⟨true, xt, xp, xf, xr, xw⟩, if y.valid then ((v : Int) + 1) % (t.lines.length : Int) else t.hand⟩ (some ⟨g, 0, none⟩) c2 w' hr (by simp; omega) (by simp; exact hc3)
  rw [hce]
  simpa using this)
 have HCE := zq hce
 have CV1 := zq (fun A c w hx hc => l4Victim_c t A c w hx hc hv)
 rw [hva] at CV1
 have HY := zq hy
 clear hce hgd hva hy hyw hcv
 obtain ⟨a1, o1, hA, -, -⟩ := HX.out (by omega)
 subst hA
 obtain ⟨yv, yt, yp, yf, yr, yw⟩ := y
 have hv0 : ¬ ((v : Int) < 0) := by omega
 have hvl : (v : Int) < (t.lines.length : Int) := by omega
 have hl0 : ¬ ((t.lines.length : Int) = 0) := by omega
 have hn2 : (t.lines.set v (⟨true, xt, xp, xf, xr, xw⟩ : LineD)).length = t.lines.length := List.length_set
 have HN2 := zq hn2
 clear hn2
 cases yv
 ·simp only [Bool.false_eq_true, if_false] at HV HCE
  generalize cacheV (fillOut t ⟨true, xt, xp, xf, xr, xw⟩) = co at HV HF
  go_enter Tryz.func113, Tryz.ntmps113
  go_wp2_with fail
  refine name_calls ?_; intro v1 hv1
  have X1 : Hid (Chg (0) (0) w v1) := zx hv1
  have t1 := X1.out.size
  have Ev1 := zq ((Ex.refl w).chg X1.out (by omega))
  have KX : Hid (Blk v1 (w.heap.size) 29 [.slice (some ⟨a1, o1, none⟩) t.lines.length c, .int .i64 t.hand]) := zk hv1
  have lX : w.heap.size < v1.heap.size := KX.out.lt
  have KL : Hid (Blk v1 (w.heap.size + 1) 64 [.bool true, .int .i64 xt, .int .i64 xp, .int .i64 xf, .int .i64 xr, .bool xw]) := zk hv1
  have lL : w.heap.size + 1 < v1.heap.size := KL.out.lt
  have KR : Hid (Blk v1 (w.heap.size + 1 + 1) 29 [.slice none 0 0, .int .i64 0]) := zk hv1
  have lR : w.heap.size + 1 + 1 < v1.heap.size := KR.out.lt
  have DX := zq (HX.out.ex Ev1.out)
  clear hv1
  refine (cacheValidS_c t _ c _ DX.out hn hc).mono ?_; rintro r w1 ⟨rfl, hb1⟩
  have Y1 := zq (Chg.of_ex hb1)
  have s1 := Y1.out.size
  have Ew1 := zq (Ev1.out.chg Y1.out (by omega))
  clear hb1
  replace KX := zq (KX.out.chg Y1.out (by omega))
  replace KL := zq (KL.out.chg Y1.out (by omega))
  replace KR := zq (KR.out.chg Y1.out (by omega))
  replace DX := zq (HX.out.ex Ew1.out)
  obtain ⟨qX0, qX1⟩ := KX.out.c2
  have jX := KX.out.lt
  obtain ⟨qL0, qL1, qL2, qL3, qL4, qL5⟩ := KL.out.c6
  have jL := KL.out.lt
  obtain ⟨qR0, qR1⟩ := KR.out.c2
  have jR := KR.out.lt
  have zR := KR.out.frozen
  rw [hv]
  go_wp2_with fail
  refine name_calls ?_; intro v2 hv2
  have X2 : Hid (Chg (0) (0) w1 v2) := zx hv2
  have t2 := X2.out.size
  have Ev2 := zq (Ew1.out.chg X2.out (by omega))
  clear qX0 qX1 jX
  clear qL0 qL1 qL2 qL3 qL4 qL5 jL
  clear qR0 qR1 jR zR
  replace KX := zq (KX.out.chg X2.out (by omega))
  replace KL := zq (KL.out.chg X2.out (by omega))
  replace KR := zq (KR.out.chg X2.out (by omega))
  replace DX := zq (HX.out.ex Ev2.out)
  clear hv2
  refine (l4Line_c ⟨true, xt, xp, xf, xr, xw⟩ _).mono ?_; rintro r w2 ⟨rfl, hb2⟩
  have Y2 := zq (Chg.of_ex hb2)
  have s2 := Y2.out.size
  have Ew2 := zq (Ev2.out.chg Y2.out (by omega))
  clear hb2
  replace KX := zq (KX.out.chg Y2.out (by omega))
  replace KL := zq (KL.out.chg Y2.out (by omega))
  replace KR := zq (KR.out.chg Y2.out (by omega))
  replace DX := zq (HX.out.ex Ew2.out)
  obtain ⟨qX0, qX1⟩ := KX.out.c2
  have jX := KX.out.lt
  obtain ⟨qL0, qL1, qL2, qL3, qL4, qL5⟩ := KL.out.c6
  have jL := KL.out.lt
  obtain ⟨qR0, qR1⟩ := KR.out.c2
  have jR := KR.out.lt
  have zR := KR.out.frozen
  rw [hlv]
  go_wp2_with fail
  refine name_calls ?_; intro v3 hv3
  have X3 : Hid (Chg (0) (0) w2 v3) := zx hv3
  have t3 := X3.out.size
  have Ev3 := zq (Ew2.out.chg X3.out (by omega))
  clear qX0 qX1 jX
  clear qL0 qL1 qL2 qL3 qL4 qL5 jL
  clear qR0 qR1 jR zR
  replace KX := zq (KX.out.chg X3.out (by omega))
  replace KL := zq (KL.out.chg X3.out (by omega))
  replace KR := zq (KR.out.chg X3.out (by omega))
  replace DX := zq (HX.out.ex Ev3.out)
  clear hv3
  refine (CV1.out _ c _ DX.out hc).mono ?_; rintro r w3 ⟨rfl, hb3⟩
  have Y3 := zq (Chg.of_ex hb3)
  have s3 := Y3.out.size
  have Ew3 := zq (Ev3.out.chg Y3.out (by omega))
  clear hb3
  replace KX := zq (KX.out.chg Y3.out (by omega))
  replace KL := zq (KL.out.chg Y3.out (by omega))
  replace KR := zq (KR.out.chg Y3.out (by omega))
  replace DX := zq (HX.out.ex Ew3.out)
  obtain ⟨qX0, qX1⟩ := KX.out.c2
  have jX := KX.out.lt
  obtain ⟨qL0, qL1, qL2, qL3, qL4, qL5⟩ := KL.out.c6
  have jL := KL.out.lt
  obtain ⟨qR0, qR1⟩ := KR.out.c2
  have jR := KR.out.lt
  have zR := KR.out.frozen
  go_wp2_with fail
  refine name_calls ?_; intro v4 hv4
  have X4 : Hid (Chg (0) (0) w3 v4) := zx hv4
  have t4 := X4.out.size
  have Ev4 := zq (Ew3.out.chg X4.out (by omega))
  clear qX0 qX1 jX
  clear qL0 qL1 qL2 qL3 qL4 qL5 jL
  clear qR0 qR1 jR zR
  replace KX := zq (KX.out.chg X4.out (by omega))
  replace KL := zq (KL.out.chg X4.out (by omega))
  replace KR := zq (KR.out.chg X4.out (by omega))
  replace DX := zq (HX.out.ex Ev4.out)
  clear hv4
  refine (l4Copy_c t _ c _ DX.out hn hc hc2).mono ?_; rintro r w4 ⟨A4, c4, rfl, hf4, hb4⟩
  have Y4 := zq (Chg.of_ex hb4)
  have s4 := Y4.out.size
  have Ew4 := zq (Ev4.out.chg Y4.out (by omega))
  clear hb4
  replace KX := zq (KX.out.chg Y4.out (by omega))
  replace KL := zq (KL.out.chg Y4.out (by omega))
  replace KR := zq (KR.out.chg Y4.out (by omega))
  replace DX := zq (HX.out.ex Ew4.out)
  have HF4 := zq hf4; clear hf4
  have WHF4 := zq HF4.out.row
  obtain ⟨qX0, qX1⟩ := KX.out.c2
  have jX := KX.out.lt
  obtain ⟨qL0, qL1, qL2, qL3, qL4, qL5⟩ := KL.out.c6
  have jL := KL.out.lt
  obtain ⟨qR0, qR1⟩ := KR.out.c2
  have jR := KR.out.lt
  have zR := KR.out.frozen
  obtain ⟨x', hb1, hxk', h0, h1, h2, h3, h4, h5⟩ := Rd.line_known DX.out (k := v) hvn
  obtain rfl : (⟨false, yt, yp, yf, yr, yw⟩ : LineD) = x' := by have := HY.out; rw [hxk'] at this; injection this with this; exact this.symm
  simp only at h0
  clear hxk' h1 h2 h3 h4 h5
  obtain ⟨g, rest, rfl, hBg, hbk, hrest⟩ := HF4.out.open_ hvn
  have HBK := zq hbk
  have HR := zq hrest
  have hle := HF4.out.le
  have hca := HF4.out.cap
  obtain ⟨d0, d1, d2, d3, d4, d5⟩ := hbk.line HY.out
  have hfz := hbk.frozen
  have lg := Blk.lt hbk
  clear hbk hrest
  have hgw : w.heap.size + 2 < g := by omega
  go_wp2_with fail
  refine name_calls ?_; intro v5 hv5
  have X5 : Hid (Chg (g) (g + 1) w4 v5) := zx hv5
  have t5 := X5.out.size
  have Ev5 := zq (Ew4.out.chg X5.out (by omega))
  clear qX0 qX1 jX
  clear qL0 qL1 qL2 qL3 qL4 qL5 jL
  clear qR0 qR1 jR zR
  replace KX := zq (KX.out.chg X5.out (by omega))
  replace KL := zq (KL.out.chg X5.out (by omega))
  replace KR := zq (KR.out.chg X5.out (by omega))
  have HBN : Hid (Bk 64 v5 g (t.lines.set v ⟨true, xt, xp, xf, xr, xw⟩) rest) := zq (by rw [hv5]; exact (by repeat' (first | with_reducible refine Bk.alloc ?_ _ | with_reducible refine Bk.drew ?_ | with_reducible refine Bk.far ?_ (by first | (simp; done) | (simp; omega)) _ | exact Bk.set_line HBK.out ⟨true, xt, xp, xf, xr, xw⟩ hvn)))
  clear HF4 WHF4
  have KO : Hid (Blk v5 (w4.heap.size) 29 [.slice (some ⟨g, 0, none⟩) t.lines.length c4, .int .i64 (t.hand)]) := zk hv5
  have lO : w4.heap.size < v5.heap.size := KO.out.lt
  replace DX := zq (HX.out.ex Ev5.out)
  clear hv5
  refine (HV.out g c4 _ HBN.out.rd hle).mono ?_; rintro r w5 ⟨rfl, hb5⟩
  have Y5 := zq (Chg.of_ex hb5)
  have s5 := Y5.out.size
  have Ew5 := zq (Ev5.out.chg Y5.out (by omega))
  clear hb5
  replace KX := zq (KX.out.chg Y5.out (by omega))
  replace KL := zq (KL.out.chg Y5.out (by omega))
  replace KR := zq (KR.out.chg Y5.out (by omega))
  replace KO := zq (KO.out.chg Y5.out (by omega))
  replace DX := zq (HX.out.ex Ew5.out)
  obtain ⟨qX0, qX1⟩ := KX.out.c2
  have jX := KX.out.lt
  obtain ⟨qL0, qL1, qL2, qL3, qL4, qL5⟩ := KL.out.c6
  have jL := KL.out.lt
  obtain ⟨qR0, qR1⟩ := KR.out.c2
  have jR := KR.out.lt
  have zR := KR.out.frozen
  obtain ⟨qO0, qO1⟩ := KO.out.c2
  have jO := KO.out.lt
  clear h0 d0 d1 d2 d3 d4 d5 hfz
  cases co
  ·have HE : Hid (fillLine t ⟨true, xt, xp, xf, xr, xw⟩ = (noCache, 0, false)) := zq (by rw [HF.out, Bool.and_false]; rfl)
   go_wp2
   exact bodyPost_ret (v := .tuple #[.agg #[.slice none 0 0, .int .i64 0], .int .i64 0, .bool false]) (by simp [results, Tryz.results113, go_sem, qR0, qR1]) rfl
    ⟨none, 0, by rw [HE.out]; rfl, by rw [HE.out]; exact Fr.none_ _ _ _ _, (ze Ew5.out)⟩
  go_wp2_with fail
  refine name_calls ?_; intro v6 hv6
  have X6 : Hid (Chg (0) (0) w5 v6) := zx hv6
  have t6 := X6.out.size
  have Ev6 := zq (Ew5.out.chg X6.out (by omega))
  clear qX0 qX1 jX
  clear qL0 qL1 qL2 qL3 qL4 qL5 jL
  clear qR0 qR1 jR zR
  clear qO0 qO1 jO
  replace KX := zq (KX.out.chg X6.out (by omega))
  replace KL := zq (KL.out.chg X6.out (by omega))
  replace KR := zq (KR.out.chg X6.out (by omega))
  replace KO := zq (KO.out.chg X6.out (by omega))
  replace DX := zq (HX.out.ex Ev6.out)
  clear hv6
  refine (l4Find_c t xt xp _ c _ DX.out hn).mono ?_; rintro r w6 ⟨rfl, hb6⟩
  have Y6 := zq (Chg.of_ex hb6)
  have s6 := Y6.out.size
  have Ew6 := zq (Ev6.out.chg Y6.out (by omega))
  clear hb6
  replace KX := zq (KX.out.chg Y6.out (by omega))
  replace KL := zq (KL.out.chg Y6.out (by omega))
  replace KR := zq (KR.out.chg Y6.out (by omega))
  replace KO := zq (KO.out.chg Y6.out (by omega))
  replace DX := zq (HX.out.ex Ew6.out)
  obtain ⟨qX0, qX1⟩ := KX.out.c2
  have jX := KX.out.lt
  obtain ⟨qL0, qL1, qL2, qL3, qL4, qL5⟩ := KL.out.c6
  have jL := KL.out.lt
  obtain ⟨qR0, qR1⟩ := KR.out.c2
  have jR := KR.out.lt
  have zR := KR.out.frozen
  obtain ⟨qO0, qO1⟩ := KO.out.c2
  have jO := KO.out.lt
  by_cases hp : placeOf t.lines xt xp < 0
  ·have HE : Hid (fillLine t ⟨true, xt, xp, xf, xr, xw⟩ = (fillOut t ⟨true, xt, xp, xf, xr, xw⟩, (v : Int), true)) := zq (by rw [HF.out, decide_eq_true hp]; rfl)
   have hp' : ¬ 0 ≤ placeOf t.lines xt xp := by omega
   go_wp2
   exact bodyPost_ret (v := .tuple #[.agg #[.slice (some ⟨g, 0, none⟩) t.lines.length c4, .int .i64 (t.hand)], .int .i64 v, .bool true]) (by simp [results, Tryz.results113, go_sem, qR0, qR1]) rfl
    ⟨some ⟨g, 0, none⟩, c4, by rw [HE.out, HCE.out]; simp, by rw [HE.out, HCE.out]; exact Fr.close (xs := t.lines.set v ⟨true, xt, xp, xf, xr, xw⟩) (rest := rest) (by repeat' (first | with_reducible refine Bk.alloc ?_ _ | with_reducible refine Bk.drew ?_ | with_reducible refine Bk.far ?_ (by first | (simp; done) | (simp; omega)) _ | exact HBN.out.ex (Y5.out.ex_.trans (X6.out.ex_.trans Y6.out.ex_)))) (by omega) (by rw [List.length_set]; exact HR.out) (by simp; omega) hca, (ze Ew6.out)⟩
  ·have HE : Hid (fillLine t ⟨true, xt, xp, xf, xr, xw⟩ = (noCache, 0, false)) := zq (by rw [HF.out, decide_eq_false hp]; rfl)
   have hp' : 0 ≤ placeOf t.lines xt xp := by omega
   go_wp2
   exact bodyPost_ret (v := .tuple #[.agg #[.slice none 0 0, .int .i64 0], .int .i64 0, .bool false]) (by simp [results, Tryz.results113, go_sem, qR0, qR1]) rfl
    ⟨none, 0, by rw [HE.out]; rfl, by rw [HE.out]; exact Fr.none_ _ _ _ _, (ze Ew6.out)⟩
 ·simp only [if_true] at HV HCE
  generalize cacheV (fillOut t ⟨true, xt, xp, xf, xr, xw⟩) = co at HV HF
  go_enter Tryz.func113, Tryz.ntmps113
  go_wp2_with fail
  refine name_calls ?_; intro v1 hv1
  have X1 : Hid (Chg (0) (0) w v1) := zx hv1
  have t1 := X1.out.size
  have Ev1 := zq ((Ex.refl w).chg X1.out (by omega))
  have KX : Hid (Blk v1 (w.heap.size) 29 [.slice (some ⟨a1, o1, none⟩) t.lines.length c, .int .i64 t.hand]) := zk hv1
  have lX : w.heap.size < v1.heap.size := KX.out.lt
  have KL : Hid (Blk v1 (w.heap.size + 1) 64 [.bool true, .int .i64 xt, .int .i64 xp, .int .i64 xf, .int .i64 xr, .bool xw]) := zk hv1
  have lL : w.heap.size + 1 < v1.heap.size := KL.out.lt
  have KR : Hid (Blk v1 (w.heap.size + 1 + 1) 29 [.slice none 0 0, .int .i64 0]) := zk hv1
  have lR : w.heap.size + 1 + 1 < v1.heap.size := KR.out.lt
  have DX := zq (HX.out.ex Ev1.out)
  clear hv1
  refine (cacheValidS_c t _ c _ DX.out hn hc).mono ?_; rintro r w1 ⟨rfl, hb1⟩
  have Y1 := zq (Chg.of_ex hb1)
  have s1 := Y1.out.size
  have Ew1 := zq (Ev1.out.chg Y1.out (by omega))
  clear hb1
  replace KX := zq (KX.out.chg Y1.out (by omega))
  replace KL := zq (KL.out.chg Y1.out (by omega))
  replace KR := zq (KR.out.chg Y1.out (by omega))
  replace DX := zq (HX.out.ex Ew1.out)
  obtain ⟨qX0, qX1⟩ := KX.out.c2
  have jX := KX.out.lt
  obtain ⟨qL0, qL1, qL2, qL3, qL4, qL5⟩ := KL.out.c6
  have jL := KL.out.lt
  obtain ⟨qR0, qR1⟩ := KR.out.c2
  have jR := KR.out.lt
  have zR := KR.out.frozen
  rw [hv]
  go_wp2_with fail
  refine name_calls ?_; intro v2 hv2
  have X2 : Hid (Chg (0) (0) w1 v2) := zx hv2
  have t2 := X2.out.size
  have Ev2 := zq (Ew1.out.chg X2.out (by omega))
  clear qX0 qX1 jX
  clear qL0 qL1 qL2 qL3 qL4 qL5 jL
  clear qR0 qR1 jR zR
  replace KX := zq (KX.out.chg X2.out (by omega))
  replace KL := zq (KL.out.chg X2.out (by omega))
  replace KR := zq (KR.out.chg X2.out (by omega))
  replace DX := zq (HX.out.ex Ev2.out)
  clear hv2
  refine (l4Line_c ⟨true, xt, xp, xf, xr, xw⟩ _).mono ?_; rintro r w2 ⟨rfl, hb2⟩
  have Y2 := zq (Chg.of_ex hb2)
  have s2 := Y2.out.size
  have Ew2 := zq (Ev2.out.chg Y2.out (by omega))
  clear hb2
  replace KX := zq (KX.out.chg Y2.out (by omega))
  replace KL := zq (KL.out.chg Y2.out (by omega))
  replace KR := zq (KR.out.chg Y2.out (by omega))
  replace DX := zq (HX.out.ex Ew2.out)
  obtain ⟨qX0, qX1⟩ := KX.out.c2
  have jX := KX.out.lt
  obtain ⟨qL0, qL1, qL2, qL3, qL4, qL5⟩ := KL.out.c6
  have jL := KL.out.lt
  obtain ⟨qR0, qR1⟩ := KR.out.c2
  have jR := KR.out.lt
  have zR := KR.out.frozen
  rw [hlv]
  go_wp2_with fail
  refine name_calls ?_; intro v3 hv3
  have X3 : Hid (Chg (0) (0) w2 v3) := zx hv3
  have t3 := X3.out.size
  have Ev3 := zq (Ew2.out.chg X3.out (by omega))
  clear qX0 qX1 jX
  clear qL0 qL1 qL2 qL3 qL4 qL5 jL
  clear qR0 qR1 jR zR
  replace KX := zq (KX.out.chg X3.out (by omega))
  replace KL := zq (KL.out.chg X3.out (by omega))
  replace KR := zq (KR.out.chg X3.out (by omega))
  replace DX := zq (HX.out.ex Ev3.out)
  clear hv3
  refine (CV1.out _ c _ DX.out hc).mono ?_; rintro r w3 ⟨rfl, hb3⟩
  have Y3 := zq (Chg.of_ex hb3)
  have s3 := Y3.out.size
  have Ew3 := zq (Ev3.out.chg Y3.out (by omega))
  clear hb3
  replace KX := zq (KX.out.chg Y3.out (by omega))
  replace KL := zq (KL.out.chg Y3.out (by omega))
  replace KR := zq (KR.out.chg Y3.out (by omega))
  replace DX := zq (HX.out.ex Ew3.out)
  obtain ⟨qX0, qX1⟩ := KX.out.c2
  have jX := KX.out.lt
  obtain ⟨qL0, qL1, qL2, qL3, qL4, qL5⟩ := KL.out.c6
  have jL := KL.out.lt
  obtain ⟨qR0, qR1⟩ := KR.out.c2
  have jR := KR.out.lt
  have zR := KR.out.frozen
  go_wp2_with fail
  refine name_calls ?_; intro v4 hv4
  have X4 : Hid (Chg (0) (0) w3 v4) := zx hv4
  have t4 := X4.out.size
  have Ev4 := zq (Ew3.out.chg X4.out (by omega))
  clear qX0 qX1 jX
  clear qL0 qL1 qL2 qL3 qL4 qL5 jL
  clear qR0 qR1 jR zR
  replace KX := zq (KX.out.chg X4.out (by omega))
  replace KL := zq (KL.out.chg X4.out (by omega))
  replace KR := zq (KR.out.chg X4.out (by omega))
  replace DX := zq (HX.out.ex Ev4.out)
  clear hv4
  refine (l4Copy_c t _ c _ DX.out hn hc hc2).mono ?_; rintro r w4 ⟨A4, c4, rfl, hf4, hb4⟩
  have Y4 := zq (Chg.of_ex hb4)
  have s4 := Y4.out.size
  have Ew4 := zq (Ev4.out.chg Y4.out (by omega))
  clear hb4
  replace KX := zq (KX.out.chg Y4.out (by omega))
  replace KL := zq (KL.out.chg Y4.out (by omega))
  replace KR := zq (KR.out.chg Y4.out (by omega))
  replace DX := zq (HX.out.ex Ew4.out)
  have HF4 := zq hf4; clear hf4
  have WHF4 := zq HF4.out.row
  obtain ⟨qX0, qX1⟩ := KX.out.c2
  have jX := KX.out.lt
  obtain ⟨qL0, qL1, qL2, qL3, qL4, qL5⟩ := KL.out.c6
  have jL := KL.out.lt
  obtain ⟨qR0, qR1⟩ := KR.out.c2
  have jR := KR.out.lt
  have zR := KR.out.frozen
  obtain ⟨x', hb1, hxk', h0, h1, h2, h3, h4, h5⟩ := Rd.line_known DX.out (k := v) hvn
  obtain rfl : (⟨true, yt, yp, yf, yr, yw⟩ : LineD) = x' := by have := HY.out; rw [hxk'] at this; injection this with this; exact this.symm
  simp only at h0
  clear hxk' h1 h2 h3 h4 h5
  obtain ⟨g, rest, rfl, hBg, hbk, hrest⟩ := HF4.out.open_ hvn
  have HBK := zq hbk
  have HR := zq hrest
  have hle := HF4.out.le
  have hca := HF4.out.cap
  obtain ⟨d0, d1, d2, d3, d4, d5⟩ := hbk.line HY.out
  have hfz := hbk.frozen
  have lg := Blk.lt hbk
  clear hbk hrest
  have hgw : w.heap.size + 2 < g := by omega
  go_wp2_with fail
  refine name_calls ?_; intro v5 hv5
  have X5 : Hid (Chg (g) (g + 1) w4 v5) := zx hv5
  have t5 := X5.out.size
  have Ev5 := zq (Ew4.out.chg X5.out (by omega))
  clear qX0 qX1 jX
  clear qL0 qL1 qL2 qL3 qL4 qL5 jL
  clear qR0 qR1 jR zR
  replace KX := zq (KX.out.chg X5.out (by omega))
  replace KL := zq (KL.out.chg X5.out (by omega))
  replace KR := zq (KR.out.chg X5.out (by omega))
  have HBN : Hid (Bk 64 v5 g (t.lines.set v ⟨true, xt, xp, xf, xr, xw⟩) rest) := zq (by rw [hv5]; exact (by repeat' (first | with_reducible refine Bk.alloc ?_ _ | with_reducible refine Bk.drew ?_ | with_reducible refine Bk.far ?_ (by first | (simp; done) | (simp; omega)) _ | exact Bk.set_line HBK.out ⟨true, xt, xp, xf, xr, xw⟩ hvn)))
  clear HF4 WHF4
  have KO : Hid (Blk v5 (w4.heap.size) 29 [.slice (some ⟨g, 0, none⟩) t.lines.length c4, .int .i64 (((v : Int) + 1) % (t.lines.length : Int))]) := zk hv5
  have lO : w4.heap.size < v5.heap.size := KO.out.lt
  replace DX := zq (HX.out.ex Ev5.out)
  clear hv5
  refine (HV.out g c4 _ HBN.out.rd hle).mono ?_; rintro r w5 ⟨rfl, hb5⟩
  have Y5 := zq (Chg.of_ex hb5)
  have s5 := Y5.out.size
  have Ew5 := zq (Ev5.out.chg Y5.out (by omega))
  clear hb5
  replace KX := zq (KX.out.chg Y5.out (by omega))
  replace KL := zq (KL.out.chg Y5.out (by omega))
  replace KR := zq (KR.out.chg Y5.out (by omega))
  replace KO := zq (KO.out.chg Y5.out (by omega))
  replace DX := zq (HX.out.ex Ew5.out)
  obtain ⟨qX0, qX1⟩ := KX.out.c2
  have jX := KX.out.lt
  obtain ⟨qL0, qL1, qL2, qL3, qL4, qL5⟩ := KL.out.c6
  have jL := KL.out.lt
  obtain ⟨qR0, qR1⟩ := KR.out.c2
  have jR := KR.out.lt
  have zR := KR.out.frozen
  obtain ⟨qO0, qO1⟩ := KO.out.c2
  have jO := KO.out.lt
  clear h0 d0 d1 d2 d3 d4 d5 hfz
  cases co
  ·have HE : Hid (fillLine t ⟨true, xt, xp, xf, xr, xw⟩ = (noCache, 0, false)) := zq (by rw [HF.out, Bool.and_false]; rfl)
   go_wp2
   exact bodyPost_ret (v := .tuple #[.agg #[.slice none 0 0, .int .i64 0], .int .i64 0, .bool false]) (by simp [results, Tryz.results113, go_sem, qR0, qR1]) rfl
    ⟨none, 0, by rw [HE.out]; rfl, by rw [HE.out]; exact Fr.none_ _ _ _ _, (ze Ew5.out)⟩
  go_wp2_with fail
  refine name_calls ?_; intro v6 hv6
  have X6 : Hid (Chg (0) (0) w5 v6) := zx hv6
  have t6 := X6.out.size
  have Ev6 := zq (Ew5.out.chg X6.out (by omega))
  clear qX0 qX1 jX
  clear qL0 qL1 qL2 qL3 qL4 qL5 jL
  clear qR0 qR1 jR zR
  clear qO0 qO1 jO
  replace KX := zq (KX.out.chg X6.out (by omega))
  replace KL := zq (KL.out.chg X6.out (by omega))
  replace KR := zq (KR.out.chg X6.out (by omega))
  replace KO := zq (KO.out.chg X6.out (by omega))
  replace DX := zq (HX.out.ex Ev6.out)
  clear hv6
  refine (l4Find_c t xt xp _ c _ DX.out hn).mono ?_; rintro r w6 ⟨rfl, hb6⟩
  have Y6 := zq (Chg.of_ex hb6)
  have s6 := Y6.out.size
  have Ew6 := zq (Ev6.out.chg Y6.out (by omega))
  clear hb6
  replace KX := zq (KX.out.chg Y6.out (by omega))
  replace KL := zq (KL.out.chg Y6.out (by omega))
  replace KR := zq (KR.out.chg Y6.out (by omega))
  replace KO := zq (KO.out.chg Y6.out (by omega))
  replace DX := zq (HX.out.ex Ew6.out)
  obtain ⟨qX0, qX1⟩ := KX.out.c2
  have jX := KX.out.lt
  obtain ⟨qL0, qL1, qL2, qL3, qL4, qL5⟩ := KL.out.c6
  have jL := KL.out.lt
  obtain ⟨qR0, qR1⟩ := KR.out.c2
  have jR := KR.out.lt
  have zR := KR.out.frozen
  obtain ⟨qO0, qO1⟩ := KO.out.c2
  have jO := KO.out.lt
  by_cases hp : placeOf t.lines xt xp < 0
  ·have HE : Hid (fillLine t ⟨true, xt, xp, xf, xr, xw⟩ = (fillOut t ⟨true, xt, xp, xf, xr, xw⟩, (v : Int), true)) := zq (by rw [HF.out, decide_eq_true hp]; rfl)
   have hp' : ¬ 0 ≤ placeOf t.lines xt xp := by omega
   go_wp2
   exact bodyPost_ret (v := .tuple #[.agg #[.slice (some ⟨g, 0, none⟩) t.lines.length c4, .int .i64 (((v : Int) + 1) % (t.lines.length : Int))], .int .i64 v, .bool true]) (by simp [results, Tryz.results113, go_sem, qR0, qR1]) rfl
    ⟨some ⟨g, 0, none⟩, c4, by rw [HE.out, HCE.out]; simp, by rw [HE.out, HCE.out]; exact Fr.close (xs := t.lines.set v ⟨true, xt, xp, xf, xr, xw⟩) (rest := rest) (by repeat' (first | with_reducible refine Bk.alloc ?_ _ | with_reducible refine Bk.drew ?_ | with_reducible refine Bk.far ?_ (by first | (simp; done) | (simp; omega)) _ | exact HBN.out.ex (Y5.out.ex_.trans (X6.out.ex_.trans Y6.out.ex_)))) (by omega) (by rw [List.length_set]; exact HR.out) (by simp; omega) hca, (ze Ew6.out)⟩
  ·have HE : Hid (fillLine t ⟨true, xt, xp, xf, xr, xw⟩ = (noCache, 0, false)) := zq (by rw [HF.out, decide_eq_false hp]; rfl)
   have hp' : 0 ≤ placeOf t.lines xt xp := by omega
   go_wp2
   exact bodyPost_ret (v := .tuple #[.agg #[.slice none 0 0, .int .i64 0], .int .i64 0, .bool false]) (by simp [results, Tryz.results113, go_sem, qR0, qR1]) rfl
    ⟨none, 0, by rw [HE.out]; rfl, by rw [HE.out]; exact Fr.none_ _ _ _ _, (ze Ew6.out)⟩

theorem Blk.put4 {w : World} {g : Nat} {t : TypeId} {a0 b0 c0 d0 a b c d : Value} (h : Blk w g t [a0, b0, c0, d0]) : Blk ((((w.setCell ⟨g, 0, none⟩ a).setCell ⟨g, 1, none⟩ b).setCell ⟨g, 2, none⟩ c).setCell ⟨g, 3, none⟩ d) g t [a, b, c, d] := (((h.set 0 a).set 1 b).set 2 c).set 3 d
theorem one_own (w : World) (s g : Int) : Rd (w.alloc (.cells #[.int .i64 s, .int .i64 g] 93)) (some ⟨w.heap.size, 0, none⟩) [(⟨s, g⟩ : OwnD)] := Bk.rd (Bk.new w 93 [(⟨s, g⟩ : OwnD)])
theorem one_own_at (w : World) (s g : Int) {b : Nat} (hb : b = w.heap.size) : Rd (w.alloc (.cells #[.int .i64 s, .int .i64 g] 93)) (some ⟨b, 0, none⟩) [(⟨s, g⟩ : OwnD)] := by
 subst hb; exact one_own w s g




set_option maxHeartbeats 4000000 in
theorem takeTagS_c (t : TagsD) (s : Int) (A : Option Addr) (c : Nat) (w : World) (hx : Rd w A t.owns) (hn : t.owns.length ≤ 1048576) (hc : t.owns.length ≤ c) (hc2 : c ≤ maxLen) :
  Calls Tryz.prog 88 #[.agg #[.int .i64 t.count, .int .i64 t.next, .int .i64 t.round, .slice A t.owns.length c], .int .i64 s] w
  fun r w' => ∃ A' c', r = .returned (.tuple #[.agg #[.int .i64 (takeTag t s).1.count, .int .i64 (takeTag t s).1.next, .int .i64 (takeTag t s).1.round, .slice A' (takeTag t s).1.owns.length c'], .int .i64 (takeTag t s).2.1, .bool (takeTag t s).2.2.1, .bool (takeTag t s).2.2.2]) ∧ Fr 93 w' w.heap.size A' c' (takeTag t s).1.owns ∧ Ex w w' := by
 have HX := zq hx
 have C1 := zq (l5Find_c t s)
 clear hx
 obtain ⟨i0, hi, hz0, hz1, hz2⟩ := info_parts infoOwn
 cases hv : tagsV t
 ·have e : takeTag t s = (noTags, 0, false, false) := if_neg (fun h => by rw [hv] at h; cases h.1)
  rw [e]
  clear e
  go_enter Tryz.func88, Tryz.ntmps88
  go_wp2_with fail
  refine name_calls ?_; intro v1 hv1
  have X1 : Hid (Chg (0) (0) w v1) := zx hv1
  have t1 := X1.out.size
  have Ev1 := zq ((Ex.refl w).chg X1.out (by omega))
  have KX : Hid (Blk v1 (w.heap.size) 32 [.int .i64 t.count, .int .i64 t.next, .int .i64 t.round, .slice A t.owns.length c]) := zk hv1
  have lX : w.heap.size < v1.heap.size := KX.out.lt
  have KR : Hid (Blk v1 (w.heap.size + 1) 32 [.int .i64 0, .int .i64 0, .int .i64 0, .slice none 0 0]) := zk hv1
  have lR : w.heap.size + 1 < v1.heap.size := KR.out.lt
  have DX := zq (HX.out.ex Ev1.out)
  clear hv1
  refine (tagsValidS_c t A c _ DX.out hn hc).mono ?_; rintro r w1 ⟨rfl, hb1⟩
  have Y1 := zq (Chg.of_ex hb1)
  have s1 := Y1.out.size
  have Ew1 := zq (Ev1.out.chg Y1.out (by omega))
  clear hb1
  replace KX := zq (KX.out.chg Y1.out (by omega))
  replace KR := zq (KR.out.chg Y1.out (by omega))
  replace DX := zq (HX.out.ex Ew1.out)
  obtain ⟨qX0, qX1, qX2, qX3⟩ := KX.out.c4
  have jX := KX.out.lt
  obtain ⟨qR0, qR1, qR2, qR3⟩ := KR.out.c4
  have jR := KR.out.lt
  have zR := KR.out.frozen
  rw [hv]
  go_wp2
  exact bodyPost_ret (v := .tuple #[.agg #[.int .i64 0, .int .i64 0, .int .i64 0, .slice none 0 0], .int .i64 0, .bool false, .bool false]) (by first | (simp [results, Tryz.results88, go_sem, *]; done) | (simp [results, Tryz.results88, go_sem, qR0, qR1, qR2, qR3]; done)) rfl
   ⟨none, 0, rfl, Fr.none_ _ _ _ _, (ze Ew1.out)⟩
 cases hb : inB s 16
 ·have e : takeTag t s = (noTags, 0, false, false) := if_neg (fun h => by rw [hb] at h; cases h.2)
  rw [e]
  clear e
  go_enter Tryz.func88, Tryz.ntmps88
  go_wp2_with fail
  refine name_calls ?_; intro v1 hv1
  have X1 : Hid (Chg (0) (0) w v1) := zx hv1
  have t1 := X1.out.size
  have Ev1 := zq ((Ex.refl w).chg X1.out (by omega))
  have KX : Hid (Blk v1 (w.heap.size) 32 [.int .i64 t.count, .int .i64 t.next, .int .i64 t.round, .slice A t.owns.length c]) := zk hv1
  have lX : w.heap.size < v1.heap.size := KX.out.lt
  have KR : Hid (Blk v1 (w.heap.size + 1) 32 [.int .i64 0, .int .i64 0, .int .i64 0, .slice none 0 0]) := zk hv1
  have lR : w.heap.size + 1 < v1.heap.size := KR.out.lt
  have DX := zq (HX.out.ex Ev1.out)
  clear hv1
  refine (tagsValidS_c t A c _ DX.out hn hc).mono ?_; rintro r w1 ⟨rfl, hb1⟩
  have Y1 := zq (Chg.of_ex hb1)
  have s1 := Y1.out.size
  have Ew1 := zq (Ev1.out.chg Y1.out (by omega))
  clear hb1
  replace KX := zq (KX.out.chg Y1.out (by omega))
  replace KR := zq (KR.out.chg Y1.out (by omega))
  replace DX := zq (HX.out.ex Ew1.out)
  obtain ⟨qX0, qX1, qX2, qX3⟩ := KX.out.c4
  have jX := KX.out.lt
  obtain ⟨qR0, qR1, qR2, qR3⟩ := KR.out.c4
  have jR := KR.out.lt
  have zR := KR.out.frozen
  rw [hv]
  go_wp2_with fail
  refine (l1Space_c s _).mono ?_; rintro r wq2 ⟨rfl, rfl⟩
  rw [hb]
  go_wp2
  exact bodyPost_ret (v := .tuple #[.agg #[.int .i64 0, .int .i64 0, .int .i64 0, .slice none 0 0], .int .i64 0, .bool false, .bool false]) (by first | (simp [results, Tryz.results88, go_sem, *]; done) | (simp [results, Tryz.results88, go_sem, qR0, qR1, qR2, qR3]; done)) rfl
   ⟨none, 0, rfl, Fr.none_ _ _ _ _, (ze Ew1.out)⟩
 have hh := tv_head hv
 unfold TagsHead at hh
 obtain ⟨g1, g2, g3, g4, g5, g6⟩ := hh
 rcases place_or t.owns s with ⟨hp, hnone⟩ | ⟨k, x, hp, hxk, hs⟩
 rotate_left
 ·have e : takeTag t s = (t, x.tag, false, true) := by rw [← hs]; exact take_again hv hxk
  rw [e]
  clear e
  rw [hp] at C1
  have HXK := zq hxk
  have hkn := getElem?_lt hxk
  clear hxk hp hs
  obtain ⟨b1, o1, hA, hb1, -⟩ := HX.out (by omega)
  subst hA
  have hk0 : ¬ (k : Int) < 0 := by omega
  have hk1 : (0 : Int) ≤ (k : Int) := by omega
  have hkl : (k : Int) < (t.owns.length : Int) := by omega
  go_enter Tryz.func88, Tryz.ntmps88
  go_wp2_with fail
  refine name_calls ?_; intro v1 hv1
  have X1 : Hid (Chg (0) (0) w v1) := zx hv1
  have t1 := X1.out.size
  have Ev1 := zq ((Ex.refl w).chg X1.out (by omega))
  have KX : Hid (Blk v1 (w.heap.size) 32 [.int .i64 t.count, .int .i64 t.next, .int .i64 t.round, .slice (some ⟨b1, o1, none⟩) t.owns.length c]) := zk hv1
  have lX : w.heap.size < v1.heap.size := KX.out.lt
  have KR : Hid (Blk v1 (w.heap.size + 1) 32 [.int .i64 0, .int .i64 0, .int .i64 0, .slice none 0 0]) := zk hv1
  have lR : w.heap.size + 1 < v1.heap.size := KR.out.lt
  have DX := zq (HX.out.ex Ev1.out)
  clear hv1
  refine (tagsValidS_c t _ c _ DX.out hn hc).mono ?_; rintro r w1 ⟨rfl, hb1⟩
  have Y1 := zq (Chg.of_ex hb1)
  have s1 := Y1.out.size
  have Ew1 := zq (Ev1.out.chg Y1.out (by omega))
  clear hb1
  replace KX := zq (KX.out.chg Y1.out (by omega))
  replace KR := zq (KR.out.chg Y1.out (by omega))
  replace DX := zq (HX.out.ex Ew1.out)
  obtain ⟨qX0, qX1, qX2, qX3⟩ := KX.out.c4
  have jX := KX.out.lt
  obtain ⟨qR0, qR1, qR2, qR3⟩ := KR.out.c4
  have jR := KR.out.lt
  have zR := KR.out.frozen
  rw [hv]
  go_wp2_with fail
  refine (l1Space_c s _).mono ?_; rintro r wq2 ⟨rfl, rfl⟩
  rw [hb]
  go_wp2_with fail
  refine name_calls ?_; intro v3 hv3
  have X3 : Hid (Chg (0) (0) w1 v3) := zx hv3
  have t3 := X3.out.size
  have Ev3 := zq (Ew1.out.chg X3.out (by omega))
  clear qX0 qX1 qX2 qX3 jX
  clear qR0 qR1 qR2 qR3 jR zR
  replace KX := zq (KX.out.chg X3.out (by omega))
  replace KR := zq (KR.out.chg X3.out (by omega))
  replace DX := zq (HX.out.ex Ev3.out)
  clear hv3
  refine (l5Copy_c t _ c _ DX.out hn hc hc2).mono ?_; rintro r w3 ⟨A3, c3, rfl, hf3, hb3⟩
  have Y3 := zq (Chg.of_ex hb3)
  have s3 := Y3.out.size
  have Ew3 := zq (Ev3.out.chg Y3.out (by omega))
  clear hb3
  replace KX := zq (KX.out.chg Y3.out (by omega))
  replace KR := zq (KR.out.chg Y3.out (by omega))
  replace DX := zq (HX.out.ex Ew3.out)
  have HF3 := zq hf3; clear hf3
  have WHF3 := zq HF3.out.row
  obtain ⟨qX0, qX1, qX2, qX3⟩ := KX.out.c4
  have jX := KX.out.lt
  obtain ⟨qR0, qR1, qR2, qR3⟩ := KR.out.c4
  have jR := KR.out.lt
  have zR := KR.out.frozen
  go_wp2_with fail
  refine name_calls ?_; intro v5 hv5
  have X5 : Hid (Chg (0) (0) w3 v5) := zx hv5
  have t5 := X5.out.size
  have Ev5 := zq (Ew3.out.chg X5.out (by omega))
  clear qX0 qX1 qX2 qX3 jX
  clear qR0 qR1 qR2 qR3 jR zR
  replace KX := zq (KX.out.chg X5.out (by omega))
  replace KR := zq (KR.out.chg X5.out (by omega))
  replace HF3 := zq (HF3.out.chg X5.out WHF3.out (by omega))
  have KO : Hid (Blk v5 (w3.heap.size) 32 [.int .i64 t.count, .int .i64 t.next, .int .i64 t.round, .slice A3 t.owns.length c3]) := zk hv5
  have lO : w3.heap.size < v5.heap.size := KO.out.lt
  replace DX := zq (HX.out.ex Ev5.out)
  clear hv5
  refine (C1.out _ c _ DX.out hn).mono ?_; rintro r w5 ⟨rfl, hb5⟩
  have Y5 := zq (Chg.of_ex hb5)
  have s5 := Y5.out.size
  have Ew5 := zq (Ev5.out.chg Y5.out (by omega))
  clear hb5
  replace KX := zq (KX.out.chg Y5.out (by omega))
  replace KR := zq (KR.out.chg Y5.out (by omega))
  replace KO := zq (KO.out.chg Y5.out (by omega))
  replace HF3 := zq (HF3.out.chg Y5.out WHF3.out (by omega))
  replace DX := zq (HX.out.ex Ew5.out)
  obtain ⟨qX0, qX1, qX2, qX3⟩ := KX.out.c4
  have jX := KX.out.lt
  obtain ⟨qR0, qR1, qR2, qR3⟩ := KR.out.c4
  have jR := KR.out.lt
  have zR := KR.out.frozen
  obtain ⟨qO0, qO1, qO2, qO3⟩ := KO.out.c4
  have jO := KO.out.lt
  have zO := KO.out.frozen
  obtain ⟨x', hb1', hxk', h0, h1⟩ := Rd.own_known DX.out (k := k) hkn
  obtain rfl : x = x' := by have := HXK.out; rw [hxk'] at this; injection this with this; exact this.symm
  clear hxk' h0
  have hRO : ¬ w.heap.size + 1 = w3.heap.size := by omega
  have hRB : ¬ w.heap.size + 1 = b1 := by omega
  have zR := KR.out.frozen
  go_wp2_with fail
  go_region
  go_wp2
  exact bodyPost_ret (v := .tuple #[.agg #[.int .i64 t.count, .int .i64 t.next, .int .i64 t.round, .slice A3 t.owns.length c3], .int .i64 x.tag, .bool false, .bool true]) (by simp [results, Tryz.results88, go_sem, qR0, qR1, qR2, qR3]) rfl
   ⟨A3, c3, rfl, Fr.mono (B := v3.heap.size) (by with_reducible repeat' (first | exact HF3.out | refine Fr.drew ?_ | refine Fr.alloc ?_ _ | refine Fr.put ?_ (fun b hb => by have := WHF3.out b hb; omega) _)) (by omega), (ze Ew5.out)⟩
 by_cases hnc : t.next = t.count
 ·by_cases hr : t.round = 1000000
  ·have e : takeTag t s = (noTags, 0, false, false) := by unfold takeTag; rw [if_pos ⟨hv, hb⟩, if_neg (by omega), if_pos hnc, if_pos hr]
   rw [e]
   clear e
   rw [hp] at C1
   have hnb : (t.next == t.count) = true := by simp [hnc]
   have hrb : (t.round == 1000000) = true := by simp [hr]
   have hr2 : (1000000 : Int) < t.round + 1 := by omega
   have hr3 : t.round + 1 ≤ 1000001 := by omega
   clear hnone hp hnc hr
   go_enter Tryz.func88, Tryz.ntmps88
   go_wp2_with fail
   refine name_calls ?_; intro v1 hv1
   have X1 : Hid (Chg (0) (0) w v1) := zx hv1
   have t1 := X1.out.size
   have Ev1 := zq ((Ex.refl w).chg X1.out (by omega))
   have KX : Hid (Blk v1 (w.heap.size) 32 [.int .i64 t.count, .int .i64 t.next, .int .i64 t.round, .slice A t.owns.length c]) := zk hv1
   have lX : w.heap.size < v1.heap.size := KX.out.lt
   have KR : Hid (Blk v1 (w.heap.size + 1) 32 [.int .i64 0, .int .i64 0, .int .i64 0, .slice none 0 0]) := zk hv1
   have lR : w.heap.size + 1 < v1.heap.size := KR.out.lt
   have DX := zq (HX.out.ex Ev1.out)
   clear hv1
   refine (tagsValidS_c t A c _ DX.out hn hc).mono ?_; rintro r w1 ⟨rfl, hb1⟩
   have Y1 := zq (Chg.of_ex hb1)
   have s1 := Y1.out.size
   have Ew1 := zq (Ev1.out.chg Y1.out (by omega))
   clear hb1
   replace KX := zq (KX.out.chg Y1.out (by omega))
   replace KR := zq (KR.out.chg Y1.out (by omega))
   replace DX := zq (HX.out.ex Ew1.out)
   obtain ⟨qX0, qX1, qX2, qX3⟩ := KX.out.c4
   have jX := KX.out.lt
   obtain ⟨qR0, qR1, qR2, qR3⟩ := KR.out.c4
   have jR := KR.out.lt
   have zR := KR.out.frozen
   rw [hv]
   go_wp2_with fail
   refine (l1Space_c s _).mono ?_; rintro r wq2 ⟨rfl, rfl⟩
   rw [hb]
   go_wp2_with fail
   refine name_calls ?_; intro v3 hv3
   have X3 : Hid (Chg (0) (0) w1 v3) := zx hv3
   have t3 := X3.out.size
   have Ev3 := zq (Ew1.out.chg X3.out (by omega))
   clear qX0 qX1 qX2 qX3 jX
   clear qR0 qR1 qR2 qR3 jR zR
   replace KX := zq (KX.out.chg X3.out (by omega))
   replace KR := zq (KR.out.chg X3.out (by omega))
   replace DX := zq (HX.out.ex Ev3.out)
   clear hv3
   refine (l5Copy_c t A c _ DX.out hn hc hc2).mono ?_; rintro r w3 ⟨A3, c3, rfl, hf3, hb3⟩
   have Y3 := zq (Chg.of_ex hb3)
   have s3 := Y3.out.size
   have Ew3 := zq (Ev3.out.chg Y3.out (by omega))
   clear hb3
   replace KX := zq (KX.out.chg Y3.out (by omega))
   replace KR := zq (KR.out.chg Y3.out (by omega))
   replace DX := zq (HX.out.ex Ew3.out)
   have HF3 := zq hf3; clear hf3
   have WHF3 := zq HF3.out.row
   obtain ⟨qX0, qX1, qX2, qX3⟩ := KX.out.c4
   have jX := KX.out.lt
   obtain ⟨qR0, qR1, qR2, qR3⟩ := KR.out.c4
   have jR := KR.out.lt
   have zR := KR.out.frozen
   go_wp2_with fail
   refine name_calls ?_; intro v5 hv5
   have X5 : Hid (Chg (0) (0) w3 v5) := zx hv5
   have t5 := X5.out.size
   have Ev5 := zq (Ew3.out.chg X5.out (by omega))
   clear qX0 qX1 qX2 qX3 jX
   clear qR0 qR1 qR2 qR3 jR zR
   replace KX := zq (KX.out.chg X5.out (by omega))
   replace KR := zq (KR.out.chg X5.out (by omega))
   replace HF3 := zq (HF3.out.chg X5.out WHF3.out (by omega))
   have KO : Hid (Blk v5 (w3.heap.size) 32 [.int .i64 t.count, .int .i64 t.next, .int .i64 t.round, .slice A3 t.owns.length c3]) := zk hv5
   have lO : w3.heap.size < v5.heap.size := KO.out.lt
   replace DX := zq (HX.out.ex Ev5.out)
   clear hv5
   refine (C1.out A c _ DX.out hn).mono ?_; rintro r w5 ⟨rfl, hb5⟩
   have Y5 := zq (Chg.of_ex hb5)
   have s5 := Y5.out.size
   have Ew5 := zq (Ev5.out.chg Y5.out (by omega))
   clear hb5
   replace KX := zq (KX.out.chg Y5.out (by omega))
   replace KR := zq (KR.out.chg Y5.out (by omega))
   replace KO := zq (KO.out.chg Y5.out (by omega))
   replace HF3 := zq (HF3.out.chg Y5.out WHF3.out (by omega))
   replace DX := zq (HX.out.ex Ew5.out)
   obtain ⟨qX0, qX1, qX2, qX3⟩ := KX.out.c4
   have jX := KX.out.lt
   obtain ⟨qR0, qR1, qR2, qR3⟩ := KR.out.c4
   have jR := KR.out.lt
   have zR := KR.out.frozen
   obtain ⟨qO0, qO1, qO2, qO3⟩ := KO.out.c4
   have jO := KO.out.lt
   have zO := KO.out.frozen
   have hRO : ¬ w.heap.size + 1 = w3.heap.size := by omega
   go_wp2
   exact bodyPost_ret (v := .tuple #[.agg #[.int .i64 0, .int .i64 0, .int .i64 0, .slice none 0 0], .int .i64 0, .bool false, .bool false]) (by simp [results, Tryz.results88, go_sem, qR0, qR1, qR2, qR3, jR]) rfl
    ⟨none, 0, rfl, Fr.none_ _ _ _ _, (ze Ew5.out)⟩
  ·have e : takeTag t s = (⟨t.count, 1, t.round + 1, [⟨s, 0⟩]⟩, 0, true, true) := by unfold takeTag; rw [if_pos ⟨hv, hb⟩, if_neg (by omega), if_pos hnc, if_neg hr]
   rw [e]
   clear e
   rw [hp] at C1
   have hnb : (t.next == t.count) = true := by simp [hnc]
   have hrb : (t.round == 1000000) = false := by simp [hr]
   have hr2 : ¬ (1000000 : Int) < t.round + 1 := by omega
   clear hnone hp hnc hr
   go_enter Tryz.func88, Tryz.ntmps88
   go_wp2_with fail
   refine name_calls ?_; intro v1 hv1
   have X1 : Hid (Chg (0) (0) w v1) := zx hv1
   have t1 := X1.out.size
   have Ev1 := zq ((Ex.refl w).chg X1.out (by omega))
   have KX : Hid (Blk v1 (w.heap.size) 32 [.int .i64 t.count, .int .i64 t.next, .int .i64 t.round, .slice A t.owns.length c]) := zk hv1
   have lX : w.heap.size < v1.heap.size := KX.out.lt
   have KR : Hid (Blk v1 (w.heap.size + 1) 32 [.int .i64 0, .int .i64 0, .int .i64 0, .slice none 0 0]) := zk hv1
   have lR : w.heap.size + 1 < v1.heap.size := KR.out.lt
   have DX := zq (HX.out.ex Ev1.out)
   clear hv1
   refine (tagsValidS_c t A c _ DX.out hn hc).mono ?_; rintro r w1 ⟨rfl, hb1⟩
   have Y1 := zq (Chg.of_ex hb1)
   have s1 := Y1.out.size
   have Ew1 := zq (Ev1.out.chg Y1.out (by omega))
   clear hb1
   replace KX := zq (KX.out.chg Y1.out (by omega))
   replace KR := zq (KR.out.chg Y1.out (by omega))
   replace DX := zq (HX.out.ex Ew1.out)
   obtain ⟨qX0, qX1, qX2, qX3⟩ := KX.out.c4
   have jX := KX.out.lt
   obtain ⟨qR0, qR1, qR2, qR3⟩ := KR.out.c4
   have jR := KR.out.lt
   have zR := KR.out.frozen
   rw [hv]
   go_wp2_with fail
   refine (l1Space_c s _).mono ?_; rintro r wq2 ⟨rfl, rfl⟩
   rw [hb]
   go_wp2_with fail
   refine name_calls ?_; intro v3 hv3
   have X3 : Hid (Chg (0) (0) w1 v3) := zx hv3
   have t3 := X3.out.size
   have Ev3 := zq (Ew1.out.chg X3.out (by omega))
   clear qX0 qX1 qX2 qX3 jX
   clear qR0 qR1 qR2 qR3 jR zR
   replace KX := zq (KX.out.chg X3.out (by omega))
   replace KR := zq (KR.out.chg X3.out (by omega))
   replace DX := zq (HX.out.ex Ev3.out)
   clear hv3
   refine (l5Copy_c t A c _ DX.out hn hc hc2).mono ?_; rintro r w3 ⟨A3, c3, rfl, hf3, hb3⟩
   have Y3 := zq (Chg.of_ex hb3)
   have s3 := Y3.out.size
   have Ew3 := zq (Ev3.out.chg Y3.out (by omega))
   clear hb3
   replace KX := zq (KX.out.chg Y3.out (by omega))
   replace KR := zq (KR.out.chg Y3.out (by omega))
   replace DX := zq (HX.out.ex Ew3.out)
   have HF3 := zq hf3; clear hf3
   have WHF3 := zq HF3.out.row
   obtain ⟨qX0, qX1, qX2, qX3⟩ := KX.out.c4
   have jX := KX.out.lt
   obtain ⟨qR0, qR1, qR2, qR3⟩ := KR.out.c4
   have jR := KR.out.lt
   have zR := KR.out.frozen
   go_wp2_with fail
   refine name_calls ?_; intro v5 hv5
   have X5 : Hid (Chg (0) (0) w3 v5) := zx hv5
   have t5 := X5.out.size
   have Ev5 := zq (Ew3.out.chg X5.out (by omega))
   clear qX0 qX1 qX2 qX3 jX
   clear qR0 qR1 qR2 qR3 jR zR
   replace KX := zq (KX.out.chg X5.out (by omega))
   replace KR := zq (KR.out.chg X5.out (by omega))
   replace HF3 := zq (HF3.out.chg X5.out WHF3.out (by omega))
   have KO : Hid (Blk v5 (w3.heap.size) 32 [.int .i64 t.count, .int .i64 t.next, .int .i64 t.round, .slice A3 t.owns.length c3]) := zk hv5
   have lO : w3.heap.size < v5.heap.size := KO.out.lt
   replace DX := zq (HX.out.ex Ev5.out)
   clear hv5
   refine (C1.out A c _ DX.out hn).mono ?_; rintro r w5 ⟨rfl, hb5⟩
   have Y5 := zq (Chg.of_ex hb5)
   have s5 := Y5.out.size
   have Ew5 := zq (Ev5.out.chg Y5.out (by omega))
   clear hb5
   replace KX := zq (KX.out.chg Y5.out (by omega))
   replace KR := zq (KR.out.chg Y5.out (by omega))
   replace KO := zq (KO.out.chg Y5.out (by omega))
   replace HF3 := zq (HF3.out.chg Y5.out WHF3.out (by omega))
   replace DX := zq (HX.out.ex Ew5.out)
   obtain ⟨qX0, qX1, qX2, qX3⟩ := KX.out.c4
   have jX := KX.out.lt
   obtain ⟨qR0, qR1, qR2, qR3⟩ := KR.out.c4
   have jR := KR.out.lt
   have zR := KR.out.frozen
   obtain ⟨qO0, qO1, qO2, qO3⟩ := KO.out.c4
   have jO := KO.out.lt
   have zO := KO.out.frozen
   clear HF3 WHF3
   have zO := KO.out.frozen
   have h63 : 0 + 1 ≤ maxLen := by simp [maxLen]
   have hby : (0 + 1) * 16 ≤ 140737488355328 := by omega
   have HO : Hid (∀ (w1 : World) (a : Option Addr), Fr 93 w1 w5.heap.size a 0 ([] : List OwnD)) := zq (fun w1 a => Fr.none_ _ _ _ _)
   go_wp2_with (at_builtin; refine wpList_append_fr (α := OwnD) rfl _ _ 30 rfl 93 i0 _ 16 w5.heap.size Tryz.underlying30 hi hz0 hz1 hz2 rfl _ 0 0 [] rfl rfl (HO.out _ _) _ 1 1 [(⟨s, 0⟩ : OwnD)] rfl rfl (one_own_at _ _ _ (by simp)) h63 hby (by simp <;> omega) ?_)
   intro A6 c6 w6 ha
   have HA := zq ha
   clear ha
   have hex := (Ex.refl _).grown HA.out.grown (fun g hg => by simp [rowOf] at hg)
   have Y6 : Hid (Chg w3.heap.size (w3.heap.size + 1) w5 w6) := zq (by
    refine Chg.trans ?_ ((Chg.of_ex hex).mono' _ _)
    repeat' (first | with_reducible exact Chg.refl _ _ _ | with_reducible refine Chg.alloc ?_ _ | with_reducible refine Chg.drew ?_ | with_reducible refine Chg.set ?_ (by omega) _))
   have KO6 : Hid (Blk w6 w3.heap.size 32 [.int .i64 t.count, .int .i64 0, .int .i64 (t.round + 1), .slice (some ⟨w5.heap.size, 0, none⟩) 0 0]) := zq (by
    refine Blk.ex ?_ hex
    repeat' (first | with_reducible exact KO.out | with_reducible refine Blk.alloc ?_ _ | with_reducible exact Blk.put4 KO.out | with_reducible exact Blk.put4 (KO.out.alloc _)))
   clear hex
   clear qO0 qO1 qO2 qO3 jO zO
   clear KO
   have s6 := Y6.out.size
   have Ew6 := zq (Ew5.out.chg Y6.out (by omega))
   clear qX0 qX1 qX2 qX3 jX
   clear qR0 qR1 qR2 qR3 jR zR
   replace KX := zq (KX.out.chg Y6.out (by omega))
   replace KR := zq (KR.out.chg Y6.out (by omega))
   replace DX := zq (HX.out.ex Ew6.out)
   obtain ⟨qX0, qX1, qX2, qX3⟩ := KX.out.c4
   have jX := KX.out.lt
   obtain ⟨qR0, qR1, qR2, qR3⟩ := KR.out.c4
   have jR := KR.out.lt
   have zR := KR.out.frozen
   have KO := KO6
   obtain ⟨qO0, qO1, qO2, qO3⟩ := KO.out.c4
   have jO := KO.out.lt
   have HF6 := zq HA.out.fr
   have WHF6 := zq HF6.out.row
   have hle6 := HF6.out.le
   have hca6 := HF6.out.cap
   clear HA
   simp only [List.length_cons, List.length_nil] at hle6
   have zO := KO.out.frozen
   have zR := KR.out.frozen
   have hRO : ¬ w.heap.size + 1 = w3.heap.size := by omega
   have hRO' : ¬ w3.heap.size = w.heap.size + 1 := by omega
   go_wp2
   exact bodyPost_ret (v := .tuple #[.agg #[.int .i64 t.count, .int .i64 1, .int .i64 (t.round + 1), .slice A6 1 c6], .int .i64 0, .bool true, .bool true]) (by first | (simp [results, Tryz.results88, go_sem, *]; done) | (simp [results, Tryz.results88, go_sem, qR0, qR1, qR2, qR3]; done)) rfl
    ⟨A6, c6, rfl, Fr.mono (B := w5.heap.size) (by with_reducible repeat' (first | exact HF6.out | refine Fr.drew ?_ | refine Fr.alloc ?_ _ | refine Fr.put ?_ (fun b hb => by have := WHF6.out b hb; omega) _)) (by omega), (ze Ew6.out)⟩
 ·have e : takeTag t s = (⟨t.count, t.next + 1, t.round, t.owns ++ [⟨s, t.next⟩]⟩, t.next, false, true) := by unfold takeTag; rw [if_pos ⟨hv, hb⟩, if_neg (by omega), if_neg hnc]
  rw [e]
  clear e
  rw [hp] at C1
  have hnb : (t.next == t.count) = false := by simp [hnc]
  have hr2 : ¬ (1000000 : Int) < t.round := by omega
  have hfew := (tv_few hv).2
  clear hnone hp hnc
  go_enter Tryz.func88, Tryz.ntmps88
  go_wp2_with fail
  refine name_calls ?_; intro v1 hv1
  have X1 : Hid (Chg (0) (0) w v1) := zx hv1
  have t1 := X1.out.size
  have Ev1 := zq ((Ex.refl w).chg X1.out (by omega))
  have KX : Hid (Blk v1 (w.heap.size) 32 [.int .i64 t.count, .int .i64 t.next, .int .i64 t.round, .slice A t.owns.length c]) := zk hv1
  have lX : w.heap.size < v1.heap.size := KX.out.lt
  have KR : Hid (Blk v1 (w.heap.size + 1) 32 [.int .i64 0, .int .i64 0, .int .i64 0, .slice none 0 0]) := zk hv1
  have lR : w.heap.size + 1 < v1.heap.size := KR.out.lt
  have DX := zq (HX.out.ex Ev1.out)
  clear hv1
  refine (tagsValidS_c t A c _ DX.out hn hc).mono ?_; rintro r w1 ⟨rfl, hb1⟩
  have Y1 := zq (Chg.of_ex hb1)
  have s1 := Y1.out.size
  have Ew1 := zq (Ev1.out.chg Y1.out (by omega))
  clear hb1
  replace KX := zq (KX.out.chg Y1.out (by omega))
  replace KR := zq (KR.out.chg Y1.out (by omega))
  replace DX := zq (HX.out.ex Ew1.out)
  obtain ⟨qX0, qX1, qX2, qX3⟩ := KX.out.c4
  have jX := KX.out.lt
  obtain ⟨qR0, qR1, qR2, qR3⟩ := KR.out.c4
  have jR := KR.out.lt
  have zR := KR.out.frozen
  rw [hv]
  go_wp2_with fail
  refine (l1Space_c s _).mono ?_; rintro r wq2 ⟨rfl, rfl⟩
  rw [hb]
  go_wp2_with fail
  refine name_calls ?_; intro v3 hv3
  have X3 : Hid (Chg (0) (0) w1 v3) := zx hv3
  have t3 := X3.out.size
  have Ev3 := zq (Ew1.out.chg X3.out (by omega))
  clear qX0 qX1 qX2 qX3 jX
  clear qR0 qR1 qR2 qR3 jR zR
  replace KX := zq (KX.out.chg X3.out (by omega))
  replace KR := zq (KR.out.chg X3.out (by omega))
  replace DX := zq (HX.out.ex Ev3.out)
  clear hv3
  refine (l5Copy_c t A c _ DX.out hn hc hc2).mono ?_; rintro r w3 ⟨A3, c3, rfl, hf3, hb3⟩
  have Y3 := zq (Chg.of_ex hb3)
  have s3 := Y3.out.size
  have Ew3 := zq (Ev3.out.chg Y3.out (by omega))
  clear hb3
  replace KX := zq (KX.out.chg Y3.out (by omega))
  replace KR := zq (KR.out.chg Y3.out (by omega))
  replace DX := zq (HX.out.ex Ew3.out)
  have HF3 := zq hf3; clear hf3
  have WHF3 := zq HF3.out.row
  obtain ⟨qX0, qX1, qX2, qX3⟩ := KX.out.c4
  have jX := KX.out.lt
  obtain ⟨qR0, qR1, qR2, qR3⟩ := KR.out.c4
  have jR := KR.out.lt
  have zR := KR.out.frozen
  go_wp2_with fail
  refine name_calls ?_; intro v5 hv5
  have X5 : Hid (Chg (0) (0) w3 v5) := zx hv5
  have t5 := X5.out.size
  have Ev5 := zq (Ew3.out.chg X5.out (by omega))
  clear qX0 qX1 qX2 qX3 jX
  clear qR0 qR1 qR2 qR3 jR zR
  replace KX := zq (KX.out.chg X5.out (by omega))
  replace KR := zq (KR.out.chg X5.out (by omega))
  replace HF3 := zq (HF3.out.chg X5.out WHF3.out (by omega))
  have KO : Hid (Blk v5 (w3.heap.size) 32 [.int .i64 t.count, .int .i64 t.next, .int .i64 t.round, .slice A3 t.owns.length c3]) := zk hv5
  have lO : w3.heap.size < v5.heap.size := KO.out.lt
  replace DX := zq (HX.out.ex Ev5.out)
  clear hv5
  refine (C1.out A c _ DX.out hn).mono ?_; rintro r w5 ⟨rfl, hb5⟩
  have Y5 := zq (Chg.of_ex hb5)
  have s5 := Y5.out.size
  have Ew5 := zq (Ev5.out.chg Y5.out (by omega))
  clear hb5
  replace KX := zq (KX.out.chg Y5.out (by omega))
  replace KR := zq (KR.out.chg Y5.out (by omega))
  replace KO := zq (KO.out.chg Y5.out (by omega))
  replace HF3 := zq (HF3.out.chg Y5.out WHF3.out (by omega))
  replace DX := zq (HX.out.ex Ew5.out)
  obtain ⟨qX0, qX1, qX2, qX3⟩ := KX.out.c4
  have jX := KX.out.lt
  obtain ⟨qR0, qR1, qR2, qR3⟩ := KR.out.c4
  have jR := KR.out.lt
  have zR := KR.out.frozen
  obtain ⟨qO0, qO1, qO2, qO3⟩ := KO.out.c4
  have jO := KO.out.lt
  have zO := KO.out.frozen
  have zO := KO.out.frozen
  have h63 : t.owns.length + 1 ≤ maxLen := by simp [maxLen]; omega
  have hby : (t.owns.length + 1) * 16 ≤ 140737488355328 := by omega
  go_wp2_with (at_builtin; refine wpList_append_fr (α := OwnD) rfl _ _ 30 rfl 93 i0 _ 16 v3.heap.size Tryz.underlying30 hi hz0 hz1 hz2 rfl _ _ _ t.owns rfl rfl (HF3.out.alloc _) _ 1 1 [(⟨s, t.next⟩ : OwnD)] rfl rfl (one_own _ _ _) h63 hby (by simp <;> omega) ?_)
  intro A6 c6 w6 ha
  have HA := zq ha
  clear ha
  have Y6 : Hid (Chg v3.heap.size w3.heap.size w5 w6) := zq (((Chg.refl _ _ w5).alloc _).trans (Chg.of_grown HA.out.grown WHF3.out))
  have WNE6 : Hid (∀ b, rowOf A6 c6 = some b → b ≠ w3.heap.size ∧ b ≠ w.heap.size + 1) := zq (fun b hb => by
   rcases HA.out.row with e | e
   ·rw [hb] at e
    have := WHF3.out b e.symm
    omega
   ·rw [hb] at e
    injection e with e
    simp at e
    omega)
  clear HF3 WHF3
  have s6 := Y6.out.size
  have Ew6 := zq (Ew5.out.chg Y6.out (by omega))
  clear qX0 qX1 qX2 qX3 jX
  clear qR0 qR1 qR2 qR3 jR zR
  clear qO0 qO1 qO2 qO3 jO zO
  replace KX := zq (KX.out.chg Y6.out (by omega))
  replace KR := zq (KR.out.chg Y6.out (by omega))
  replace KO := zq (KO.out.chg Y6.out (by omega))
  replace DX := zq (HX.out.ex Ew6.out)
  obtain ⟨qX0, qX1, qX2, qX3⟩ := KX.out.c4
  have jX := KX.out.lt
  obtain ⟨qR0, qR1, qR2, qR3⟩ := KR.out.c4
  have jR := KR.out.lt
  have zR := KR.out.frozen
  obtain ⟨qO0, qO1, qO2, qO3⟩ := KO.out.c4
  have jO := KO.out.lt
  have zO := KO.out.frozen
  have HF6 := zq HA.out.fr
  have WHF6 := zq HF6.out.row
  have hle6 := HF6.out.le
  have hca6 := HF6.out.cap
  clear HA
  rw [List.length_append] at hle6
  have zO := KO.out.frozen
  have zR := KR.out.frozen
  have hRO : ¬ w.heap.size + 1 = w3.heap.size := by omega
  have hRO' : ¬ w3.heap.size = w.heap.size + 1 := by omega
  go_wp2
  exact bodyPost_ret (v := .tuple #[.agg #[.int .i64 t.count, .int .i64 (t.next + 1), .int .i64 t.round, .slice A6 (t.owns.length + 1) c6], .int .i64 t.next, .bool false, .bool true]) (by first | (simp [results, Tryz.results88, go_sem, *]; done) | (simp [results, Tryz.results88, go_sem, qR0, qR1, qR2, qR3]; done)) rfl
   ⟨A6, c6, by simp, Fr.mono (B := v3.heap.size) (by with_reducible repeat' (first | exact HF6.out | refine Fr.drew ?_ | refine Fr.alloc ?_ _ | refine Fr.put ?_ (fun b hb => by have := WNE6.out b hb; omega) _)) (by omega), (ze Ew6.out)⟩

def noMach : MachD := ⟨noTable, noCache, noTags, 0⟩
def newMach (f b l t : Int) : MachD × Bool := if ((newTable f b).2 && ((newCache l).2 && (newTags t).2)) = true then (⟨(newTable f b).1, (newCache l).1, (takeTag (newTags t).1 0).1, 0⟩, true) else (noMach, false)
theorem newTags_few (n : Int) : (newTags n).1.owns.length ≤ 8 := by unfold newTags; split <;> simp [noTags]
set_option maxHeartbeats 8000000 in
theorem newMachS_c (f b l t : Int) (w : World) : Calls Tryz.prog 62 #[.int .i64 f, .int .i64 b, .int .i64 l, .int .i64 t] w
  fun r w' => ∃ a : MA, r = .returned (.tuple #[.agg #[.slice a.b (newMach f b l t).1.table.buckets.length a.bc, .slice a.f (newMach f b l t).1.table.frames.length a.fc, .slice a.l (newMach f b l t).1.cache.lines.length a.lc, .int .i64 (newMach f b l t).1.cache.hand, .int .i64 (newMach f b l t).1.tags.count, .int .i64 (newMach f b l t).1.tags.next, .int .i64 (newMach f b l t).1.tags.round, .slice a.o (newMach f b l t).1.tags.owns.length a.oc, .int .i64 (newMach f b l t).1.space], .bool (newMach f b l t).2]) ∧ FrM w' w.heap.size (newMach f b l t).1 a ∧ Ex w w' := by
 have C1 := zq (fun w' => newTableS_c f b w')
 have C2 := zq (fun w' => newCacheS_c l w')
 have C3 := zq (fun w' => newTagsS_c t w')
 have C4 := zq (takeTagS_c (newTags t).1 0)
 have hg8 := newTags_few t
 unfold newMach
 generalize newTable f b = q1 at C1 ⊢
 generalize newCache l = q2 at C2 ⊢
 generalize newTags t = q3 at C3 C4 hg8 ⊢
 obtain ⟨tb, p1⟩ := q1
 obtain ⟨ch, p2⟩ := q2
 obtain ⟨tg, p3⟩ := q3
 dsimp only at C1 C2 C3 C4 hg8 ⊢
 generalize hk : takeTag tg 0 = k at C4 ⊢
 obtain ⟨tk, k1, k2, k3⟩ := k
 dsimp only at C4 ⊢
 have hg : tg.owns.length ≤ 1048576 := by omega
 clear hk hg8
 cases hp : (p1 && (p2 && p3))
 ·simp only [Bool.false_eq_true, if_false]
  have HP := zq hp
  clear hp
  go_enter Tryz.func62, Tryz.ntmps62
  go_wp2_with fail
  refine name_calls ?_; intro v1 hv1
  have X1 : Hid (Chg (0) (0) w v1) := zx hv1
  have t1 := X1.out.size
  have Ev1 := zq ((Ex.refl w).chg X1.out (by omega))
  have KR : Hid (Blk v1 (w.heap.size) 34 [.slice none 0 0, .slice none 0 0, .slice none 0 0, .int .i64 0, .int .i64 0, .int .i64 0, .int .i64 0, .slice none 0 0, .int .i64 0]) := zk hv1
  have lR : w.heap.size < v1.heap.size := KR.out.lt
  clear hv1
  refine (C1.out _).mono ?_; rintro r w1 ⟨A1, c1, B1, d1, rfl, hf1, hf1b, hb1⟩
  have Y1 := zq (Chg.of_ex hb1)
  have s1 := Y1.out.size
  have Ew1 := zq (Ev1.out.chg Y1.out (by omega))
  clear hb1
  replace KR := zq (KR.out.chg Y1.out (by omega))
  have HF1 := zq hf1; clear hf1
  have WHF1 := zq HF1.out.row
  have HF1B := zq hf1b; clear hf1b
  have WHF1B := zq HF1B.out.row
  obtain ⟨qR0, qR1, qR2, qR3, qR4, qR5, qR6, qR7, qR8⟩ := KR.out.c9
  have jR := KR.out.lt
  have zR := KR.out.frozen
  skip
  skip
  go_wp2_with fail
  refine name_calls ?_; intro v2 hv2
  have X2 : Hid (Chg (0) (0) w1 v2) := zx hv2
  have t2 := X2.out.size
  have Ev2 := zq (Ew1.out.chg X2.out (by omega))
  clear qR0 qR1 qR2 qR3 qR4 qR5 qR6 qR7 qR8 jR zR
  replace KR := zq (KR.out.chg X2.out (by omega))
  replace HF1 := zq (HF1.out.chg X2.out WHF1.out (by omega))
  replace HF1B := zq (HF1B.out.chg X2.out WHF1B.out (by omega))
  clear hv2
  refine (C2.out _).mono ?_; rintro r w2 ⟨A2, c2, rfl, hf2, hb2⟩
  have Y2 := zq (Chg.of_ex hb2)
  have s2 := Y2.out.size
  have Ew2 := zq (Ev2.out.chg Y2.out (by omega))
  clear hb2
  replace KR := zq (KR.out.chg Y2.out (by omega))
  replace HF1 := zq (HF1.out.chg Y2.out WHF1.out (by omega))
  replace HF1B := zq (HF1B.out.chg Y2.out WHF1B.out (by omega))
  have HF2 := zq hf2; clear hf2
  have WHF2 := zq HF2.out.row
  obtain ⟨qR0, qR1, qR2, qR3, qR4, qR5, qR6, qR7, qR8⟩ := KR.out.c9
  have jR := KR.out.lt
  have zR := KR.out.frozen
  go_wp2_with fail
  refine name_calls ?_; intro v3 hv3
  have X3 : Hid (Chg (0) (0) w2 v3) := zx hv3
  have t3 := X3.out.size
  have Ev3 := zq (Ew2.out.chg X3.out (by omega))
  clear qR0 qR1 qR2 qR3 qR4 qR5 qR6 qR7 qR8 jR zR
  replace KR := zq (KR.out.chg X3.out (by omega))
  replace HF1 := zq (HF1.out.chg X3.out WHF1.out (by omega))
  replace HF1B := zq (HF1B.out.chg X3.out WHF1B.out (by omega))
  replace HF2 := zq (HF2.out.chg X3.out WHF2.out (by omega))
  clear hv3
  refine (C3.out _).mono ?_; rintro r w3 ⟨A3, c3, rfl, hf3, hb3⟩
  have Y3 := zq (Chg.of_ex hb3)
  have s3 := Y3.out.size
  have Ew3 := zq (Ev3.out.chg Y3.out (by omega))
  clear hb3
  replace KR := zq (KR.out.chg Y3.out (by omega))
  replace HF1 := zq (HF1.out.chg Y3.out WHF1.out (by omega))
  replace HF1B := zq (HF1B.out.chg Y3.out WHF1B.out (by omega))
  replace HF2 := zq (HF2.out.chg Y3.out WHF2.out (by omega))
  have HF3 := zq hf3; clear hf3
  have WHF3 := zq HF3.out.row
  obtain ⟨qR0, qR1, qR2, qR3, qR4, qR5, qR6, qR7, qR8⟩ := KR.out.c9
  have jR := KR.out.lt
  have zR := KR.out.frozen
  have hp : (p1 = false) ∨ (p1 = true ∧ p2 = false) ∨ (p1 = true ∧ p2 = true ∧ p3 = false) := by
   have := HP.out
   cases p1 <;> cases p2 <;> cases p3 <;> simp at this <;> simp
  rcases hp with rfl | ⟨rfl, rfl⟩ | ⟨rfl, rfl, rfl⟩
  all_goals
   go_wp2
   exact bodyPost_ret (v := .tuple #[.agg #[.slice none 0 0, .slice none 0 0, .slice none 0 0, .int .i64 0, .int .i64 0, .int .i64 0, .int .i64 0, .slice none 0 0, .int .i64 0], .bool false]) (by first | (simp [results, Tryz.results62, go_sem, *]; done) | (simp [results, Tryz.results62, go_sem, qR0, qR1, qR2, qR3, qR4, qR5, qR6, qR7, qR8, jR]; done)) rfl
    ⟨⟨none, 0, none, 0, none, 0, none, 0⟩, rfl, ⟨Fr.none_ _ _ _ _, Fr.none_ _ _ _ _, Fr.none_ _ _ _ _, Fr.none_ _ _ _ _⟩, (ze Ew3.out)⟩
 ·simp only [if_true]
  obtain ⟨rfl, rfl, rfl⟩ : p1 = true ∧ p2 = true ∧ p3 = true := by cases p1 <;> cases p2 <;> cases p3 <;> simp at hp <;> simp
  clear hp
  go_enter Tryz.func62, Tryz.ntmps62
  go_wp2_with fail
  refine name_calls ?_; intro v1 hv1
  have X1 : Hid (Chg (0) (0) w v1) := zx hv1
  have t1 := X1.out.size
  have Ev1 := zq ((Ex.refl w).chg X1.out (by omega))
  have KR : Hid (Blk v1 (w.heap.size) 34 [.slice none 0 0, .slice none 0 0, .slice none 0 0, .int .i64 0, .int .i64 0, .int .i64 0, .int .i64 0, .slice none 0 0, .int .i64 0]) := zk hv1
  have lR : w.heap.size < v1.heap.size := KR.out.lt
  clear hv1
  refine (C1.out _).mono ?_; rintro r w1 ⟨A1, c1, B1, d1, rfl, hf1, hf1b, hb1⟩
  have Y1 := zq (Chg.of_ex hb1)
  have s1 := Y1.out.size
  have Ew1 := zq (Ev1.out.chg Y1.out (by omega))
  clear hb1
  replace KR := zq (KR.out.chg Y1.out (by omega))
  have HF1 := zq hf1; clear hf1
  have WHF1 := zq HF1.out.row
  have HF1B := zq hf1b; clear hf1b
  have WHF1B := zq HF1B.out.row
  obtain ⟨qR0, qR1, qR2, qR3, qR4, qR5, qR6, qR7, qR8⟩ := KR.out.c9
  have jR := KR.out.lt
  have zR := KR.out.frozen
  skip
  skip
  go_wp2_with fail
  refine name_calls ?_; intro v2 hv2
  have X2 : Hid (Chg (0) (0) w1 v2) := zx hv2
  have t2 := X2.out.size
  have Ev2 := zq (Ew1.out.chg X2.out (by omega))
  clear qR0 qR1 qR2 qR3 qR4 qR5 qR6 qR7 qR8 jR zR
  replace KR := zq (KR.out.chg X2.out (by omega))
  replace HF1 := zq (HF1.out.chg X2.out WHF1.out (by omega))
  replace HF1B := zq (HF1B.out.chg X2.out WHF1B.out (by omega))
  have KT : Hid (Blk v2 (w1.heap.size) 26 [.slice A1 tb.buckets.length c1, .slice B1 tb.frames.length d1]) := zk hv2
  have lT : w1.heap.size < v2.heap.size := KT.out.lt
  clear hv2
  refine (C2.out _).mono ?_; rintro r w2 ⟨A2, c2, rfl, hf2, hb2⟩
  have Y2 := zq (Chg.of_ex hb2)
  have s2 := Y2.out.size
  have Ew2 := zq (Ev2.out.chg Y2.out (by omega))
  clear hb2
  replace KR := zq (KR.out.chg Y2.out (by omega))
  replace KT := zq (KT.out.chg Y2.out (by omega))
  replace HF1 := zq (HF1.out.chg Y2.out WHF1.out (by omega))
  replace HF1B := zq (HF1B.out.chg Y2.out WHF1B.out (by omega))
  have HF2 := zq hf2; clear hf2
  have WHF2 := zq HF2.out.row
  obtain ⟨qR0, qR1, qR2, qR3, qR4, qR5, qR6, qR7, qR8⟩ := KR.out.c9
  have jR := KR.out.lt
  have zR := KR.out.frozen
  obtain ⟨qT0, qT1⟩ := KT.out.c2
  have jT := KT.out.lt
  go_wp2_with fail
  refine name_calls ?_; intro v3 hv3
  have X3 : Hid (Chg (0) (0) w2 v3) := zx hv3
  have t3 := X3.out.size
  have Ev3 := zq (Ew2.out.chg X3.out (by omega))
  clear qR0 qR1 qR2 qR3 qR4 qR5 qR6 qR7 qR8 jR zR
  clear qT0 qT1 jT
  replace KR := zq (KR.out.chg X3.out (by omega))
  replace KT := zq (KT.out.chg X3.out (by omega))
  replace HF1 := zq (HF1.out.chg X3.out WHF1.out (by omega))
  replace HF1B := zq (HF1B.out.chg X3.out WHF1B.out (by omega))
  replace HF2 := zq (HF2.out.chg X3.out WHF2.out (by omega))
  have KC : Hid (Blk v3 (w2.heap.size) 29 [.slice A2 ch.lines.length c2, .int .i64 ch.hand]) := zk hv3
  have lC : w2.heap.size < v3.heap.size := KC.out.lt
  clear hv3
  refine (C3.out _).mono ?_; rintro r w3 ⟨A3, c3, rfl, hf3, hb3⟩
  have Y3 := zq (Chg.of_ex hb3)
  have s3 := Y3.out.size
  have Ew3 := zq (Ev3.out.chg Y3.out (by omega))
  clear hb3
  replace KR := zq (KR.out.chg Y3.out (by omega))
  replace KT := zq (KT.out.chg Y3.out (by omega))
  replace KC := zq (KC.out.chg Y3.out (by omega))
  replace HF1 := zq (HF1.out.chg Y3.out WHF1.out (by omega))
  replace HF1B := zq (HF1B.out.chg Y3.out WHF1B.out (by omega))
  replace HF2 := zq (HF2.out.chg Y3.out WHF2.out (by omega))
  have HF3 := zq hf3; clear hf3
  have WHF3 := zq HF3.out.row
  obtain ⟨qR0, qR1, qR2, qR3, qR4, qR5, qR6, qR7, qR8⟩ := KR.out.c9
  have jR := KR.out.lt
  have zR := KR.out.frozen
  obtain ⟨qT0, qT1⟩ := KT.out.c2
  have jT := KT.out.lt
  obtain ⟨qC0, qC1⟩ := KC.out.c2
  have jC := KC.out.lt
  go_wp2_with fail
  refine name_calls ?_; intro v4 hv4
  have X4 : Hid (Chg (0) (0) w3 v4) := zx hv4
  have t4 := X4.out.size
  have Ev4 := zq (Ew3.out.chg X4.out (by omega))
  clear qR0 qR1 qR2 qR3 qR4 qR5 qR6 qR7 qR8 jR zR
  clear qT0 qT1 jT
  clear qC0 qC1 jC
  replace KR := zq (KR.out.chg X4.out (by omega))
  replace KT := zq (KT.out.chg X4.out (by omega))
  replace KC := zq (KC.out.chg X4.out (by omega))
  replace HF1 := zq (HF1.out.chg X4.out WHF1.out (by omega))
  replace HF1B := zq (HF1B.out.chg X4.out WHF1B.out (by omega))
  replace HF2 := zq (HF2.out.chg X4.out WHF2.out (by omega))
  replace HF3 := zq (HF3.out.chg X4.out WHF3.out (by omega))
  have KG : Hid (Blk v4 (w3.heap.size) 32 [.int .i64 tg.count, .int .i64 tg.next, .int .i64 tg.round, .slice A3 tg.owns.length c3]) := zk hv4
  have lG : w3.heap.size < v4.heap.size := KG.out.lt
  clear hv4
  refine (C4.out A3 c3 _ HF3.out.rd hg HF3.out.le HF3.out.cap).mono ?_; rintro r w4 ⟨A4, c4, rfl, hf4, hb4⟩
  have Y4 := zq (Chg.of_ex hb4)
  have s4 := Y4.out.size
  have Ew4 := zq (Ev4.out.chg Y4.out (by omega))
  clear hb4
  replace KR := zq (KR.out.chg Y4.out (by omega))
  replace KT := zq (KT.out.chg Y4.out (by omega))
  replace KC := zq (KC.out.chg Y4.out (by omega))
  replace KG := zq (KG.out.chg Y4.out (by omega))
  replace HF1 := zq (HF1.out.chg Y4.out WHF1.out (by omega))
  replace HF1B := zq (HF1B.out.chg Y4.out WHF1B.out (by omega))
  replace HF2 := zq (HF2.out.chg Y4.out WHF2.out (by omega))
  replace HF3 := zq (HF3.out.chg Y4.out WHF3.out (by omega))
  have HF4 := zq hf4; clear hf4
  have WHF4 := zq HF4.out.row
  obtain ⟨qR0, qR1, qR2, qR3, qR4, qR5, qR6, qR7, qR8⟩ := KR.out.c9
  have jR := KR.out.lt
  have zR := KR.out.frozen
  obtain ⟨qT0, qT1⟩ := KT.out.c2
  have jT := KT.out.lt
  obtain ⟨qC0, qC1⟩ := KC.out.c2
  have jC := KC.out.lt
  obtain ⟨qG0, qG1, qG2, qG3⟩ := KG.out.c4
  have jG := KG.out.lt
  have zG := KG.out.frozen
  have zR := KR.out.frozen
  have hne1 : ¬ w3.heap.size = w1.heap.size := by omega
  have hne2 : ¬ w3.heap.size = w2.heap.size := by omega
  have hne3 : ¬ w3.heap.size = w.heap.size := by omega
  have hne4 : ¬ w1.heap.size = w3.heap.size := by omega
  have hne5 : ¬ w2.heap.size = w3.heap.size := by omega
  have hne6 : ¬ w.heap.size = w3.heap.size := by omega
  go_wp2
  exact bodyPost_ret (v := .tuple #[.agg #[.slice (⟨A1, c1, B1, d1, A2, c2, A4, c4⟩ : MA).b (⟨tb, ch, tk, 0⟩ : MachD).table.buckets.length (⟨A1, c1, B1, d1, A2, c2, A4, c4⟩ : MA).bc, .slice (⟨A1, c1, B1, d1, A2, c2, A4, c4⟩ : MA).f (⟨tb, ch, tk, 0⟩ : MachD).table.frames.length (⟨A1, c1, B1, d1, A2, c2, A4, c4⟩ : MA).fc, .slice (⟨A1, c1, B1, d1, A2, c2, A4, c4⟩ : MA).l (⟨tb, ch, tk, 0⟩ : MachD).cache.lines.length (⟨A1, c1, B1, d1, A2, c2, A4, c4⟩ : MA).lc, .int .i64 (⟨tb, ch, tk, 0⟩ : MachD).cache.hand, .int .i64 (⟨tb, ch, tk, 0⟩ : MachD).tags.count, .int .i64 (⟨tb, ch, tk, 0⟩ : MachD).tags.next, .int .i64 (⟨tb, ch, tk, 0⟩ : MachD).tags.round, .slice (⟨A1, c1, B1, d1, A2, c2, A4, c4⟩ : MA).o (⟨tb, ch, tk, 0⟩ : MachD).tags.owns.length (⟨A1, c1, B1, d1, A2, c2, A4, c4⟩ : MA).oc, .int .i64 (⟨tb, ch, tk, 0⟩ : MachD).space], .bool true]) (by first | (simp [results, Tryz.results62, go_sem, *]; done) | (simp [results, Tryz.results62, go_sem, qR0, qR1, qR2, qR3, qR4, qR5, qR6, qR7, qR8, jR]; done)) rfl
   ⟨⟨A1, c1, B1, d1, A2, c2, A4, c4⟩, rfl, ⟨Fr.mono (B := v1.heap.size) (zp HF1.out WHF1.out) (by omega), Fr.mono (B := v1.heap.size) (zp HF1B.out WHF1B.out) (by omega), Fr.mono (B := v2.heap.size) (zp HF2.out WHF2.out) (by omega), Fr.mono (B := v4.heap.size) (zp HF4.out WHF4.out) (by omega)⟩, (ze Ew4.out)⟩

end Go.Proofs.YtbdlpbladpppjaaGreatDoor
