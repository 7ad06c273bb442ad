/- Joined: Gc, Sb, Zm. -/
import Derived.Deep.RegionHeld3
import Derived.Test.YtbdlpbladpppjaaGreatDoorK10
import Derived.Test.YtbdlpbladpppjaaGreatDoorK1
import Derived.Test.YtbdlpbladpppjaaGreatDoorK6
import Derived.Test.YtbdlpbladpppjaaGreatDoorK7
import Derived.Test.YtbdlpbladpppjaaGreatDoorK12
import Derived.Test.YtbdlpbladpppjaaGreatDoorK8
import Derived.Test.YtbdlpbladpppjaaGreatDoorK3
import Derived.Test.YtbdlpbladpppjaaGreatDoorK11
namespace Go.Proofs.YtbdlpbladpppjaaGreatDoor
open Go.ChangeShapes Go.WideShapes Go.ChangeAt Go.RowKit
open Rec (sz cs)
set_option linter.unusedVariables false
set_option maxRecDepth 100000

def SomeWrong (g p : Nat) (w : World) (e : Ending) (w' : World) : Prop := ∃ (t : CacheD) (A : Option Addr) (c p' : Nat), e = .returned (.agg #[.slice A t.lines.length c, .int .i64 t.hand]) ∧ t.lines.length ≤ 8 ∧ Fr 64 w' w.heap.size A c t.lines ∧ Rdr w' g p' ∧ p' ≤ p + 10 ∧ w.grownBy w' (some g)

set_option maxHeartbeats 16000000 in
theorem l4Wrong_c (g p : Nat) (t : CacheD) (A : Option Addr) (c : Nat) (w : World) (h : Rdr w g p) (hp : p ≤ 900000) (hf : t.lines.length ≤ 8) (hx : Rd w A t.lines) (hc : t.lines.length ≤ c) (hc2 : c ≤ maxLen) :
  Calls Tryz.prog 65 #[.pointer (some ⟨g, 0, none⟩), .agg #[.slice A t.lines.length c, .int .i64 t.hand]] w (SomeWrong g p w) := by
 have lg := h.lt
 have HR0 := zq h
 have HX := zq hx
 have HFW := zq hf
 have hn8 := hf
 have hn : t.lines.length ≤ 1048576 := by omega
 clear h hx hf
 go_enter Tryz.func65, Tryz.ntmps65
 go_wp2_with fail
 refine name_calls ?_; intro v1 hv1
 have X1 : Hid (Chg (0) (0) w v1) := zx hv1
 have t1 := X1.out.size
 have Ev1 : Hid (Chg g (g + 1) w v1) := zq ((Chg.refl g (g + 1) w).step X1.out (by omega))
 replace HR0 := zq (HR0.out.chg X1.out (by omega))
 have KX : Hid (Blk v1 (w.heap.size) 29 [.slice A t.lines.length c, .int .i64 t.hand]) := zk hv1
 have lX : w.heap.size < v1.heap.size := KX.out.lt
 have KR : Hid (Blk v1 (w.heap.size + 1) 29 [.slice none 0 0, .int .i64 0]) := zk hv1
 have lR : w.heap.size + 1 < v1.heap.size := KR.out.lt
 clear hv1
 refine (l4Copy_c t A c _ (HX.out.chg X1.out (fun _ _ _ => .inr (Nat.zero_le _))) hn hc hc2).mono ?_; rintro r w1 ⟨A1, c1, rfl, hf1, hb1⟩
 have Y1 := zq (Chg.of_ex hb1)
 have s1 := Y1.out.size
 have Ew1 : Hid (Chg g (g + 1) w w1) := zq (Ev1.out.step Y1.out (by omega))
 clear hb1
 replace KX := zq (KX.out.chg Y1.out (by omega))
 replace KR := zq (KR.out.chg Y1.out (by omega))
 replace HR0 := zq (HR0.out.chg Y1.out (by omega))
 have HF1 := zq hf1; clear hf1
 have WHF1 := zq HF1.out.row
 obtain ⟨qX0, qX1⟩ := KX.out.c2
 have jX := KX.out.lt
 obtain ⟨qR0, qR1⟩ := KR.out.c2
 have jR := KR.out.lt
 have zR := KR.out.frozen
 by_cases h0 : t.lines.length = 0
 ·have h0' : ((t.lines.length : Int) == 0) = true := by simp [h0]
  have H0 := zq h0
  clear h0
  go_wp2
  exact bodyPost_ret (v := .agg #[.slice A1 t.lines.length c1, .int .i64 t.hand]) (by first | (simp [results, Tryz.results65, go_sem, *]; done) | (simp [results, Tryz.results65, go_sem, qR0, qR1, jR]; done)) rfl
   ⟨t, A1, c1, p, rfl, HFW.out, Fr.mono (B := v1.heap.size) (by with_reducible repeat' (first | exact HF1.out | refine Fr.alloc ?_ _ | refine Fr.drew ?_ | refine Fr.set_below ?_ (by first | (simp; done) | (simp; omega)) _)) (by omega), Rdr.chg (lo := w.heap.size + 1) (hi := w.heap.size + 2) HR0.out (by with_reducible repeat' (first | exact Chg.refl _ _ w1 | refine Chg.alloc ?_ _ | refine Chg.drew ?_ | refine Chg.set ?_ (by omega) _)) (by omega), by omega, Chg.grown (zc Ew1.out)⟩
 have h0' : ((t.lines.length : Int) == 0) = false := by simp; intro h; rw [h] at h0; simp at h0
 go_wp2_with fail
 refine name_calls ?_; intro v2 hv2
 have X2 : Hid (Chg (0) (0) w1 v2) := zx hv2
 have t2 := X2.out.size
 have Ev2 : Hid (Chg g (g + 1) w v2) := zq (Ew1.out.step X2.out (by omega))
 clear qX0 qX1 jX
 clear qR0 qR1 jR zR
 replace KX := zq (KX.out.chg X2.out (by omega))
 replace KR := zq (KR.out.chg X2.out (by omega))
 replace HF1 := zq (HF1.out.chg X2.out WHF1.out (by omega))
 replace HR0 := zq (HR0.out.chg X2.out (by omega))
 have KO : Hid (Blk v2 (w1.heap.size) 29 [.slice A1 t.lines.length c1, .int .i64 t.hand]) := zk hv2
 have lO : w1.heap.size < v2.heap.size := KO.out.lt
 clear hv2
 refine (pick_c g p t.lines.length _ HR0.out (by omega) (by omega)).mono ?_; rintro r w2 ⟨k2, rfl, hhk2, hrd2, hb2⟩
 have Y2 : Hid (Chg (g) (g + 1) v2 w2) := zq (Chg.of_grown hb2 (fun b hb => by injection hb with hb; omega))
 have s2 := Y2.out.size
 have Ew2 : Hid (Chg g (g + 1) w w2) := zq (Ev2.out.step Y2.out (by omega))
 clear hb2
 replace KX := zq (KX.out.chg Y2.out (by omega))
 replace KR := zq (KR.out.chg Y2.out (by omega))
 replace KO := zq (KO.out.chg Y2.out (by omega))
 replace HF1 := zq (HF1.out.chg Y2.out WHF1.out (by omega))
 clear HR0
 have HRD2 := zq hrd2; clear hrd2
 have HHK2 := zq hhk2; clear hhk2
 obtain ⟨qX0, qX1⟩ := KX.out.c2
 have jX := KX.out.lt
 obtain ⟨qR0, qR1⟩ := KR.out.c2
 have jR := KR.out.lt
 have zR := KR.out.frozen
 obtain ⟨qO0, qO1⟩ := KO.out.c2
 have jO := KO.out.lt
 obtain ⟨k, rfl⟩ := Int.eq_ofNat_of_zero_le HHK2.out.1
 have hk : k < t.lines.length := by have := HHK2.out.2.1 (by omega); omega
 have hk0 : ¬ ((k : Int) < 0) := by omega
 have hkl : (k : Int) < (t.lines.length : Int) := by omega
 obtain ⟨gr, rest, hA1, hBg, hbk, hrest⟩ := HF1.out.open_ hk
 subst hA1
 have HBK := zq hbk
 have HREST := zq hrest
 have hle := HF1.out.le
 have hca := HF1.out.cap
 obtain ⟨x, hxk⟩ : ∃ x, t.lines[k]? = some x := ⟨_, List.getElem?_eq_getElem hk⟩
 have HXK := zq hxk
 have hgr1 : gr < w1.heap.size := (WHF1.out gr (rowOf_some (by omega))).2
 have hgr2 : w.heap.size + 1 < gr := by omega
 have hgrg : gr ≠ g := by omega
 clear hbk hrest h0 hxk
 clear HF1 WHF1
 go_wp2_with fail
 refine name_calls ?_; intro v3 hv3
 have X3 : Hid (Chg (0) (0) w2 v3) := zx hv3
 have t3 := X3.out.size
 have Ev3 : Hid (Chg g (g + 1) w v3) := zq (Ew2.out.step X3.out (by omega))
 clear qX0 qX1 jX
 clear qR0 qR1 jR zR
 clear qO0 qO1 jO
 replace KX := zq (KX.out.chg X3.out (by omega))
 replace KR := zq (KR.out.chg X3.out (by omega))
 replace KO := zq (KO.out.chg X3.out (by omega))
 replace HRD2 := zq (HRD2.out.chg X3.out (by omega))
 replace HBK := zq (HBK.out.chg X3.out (by omega))
 clear hv3
 refine (pick_c g (p + 1) 24 _ HRD2.out (by omega) (by omega)).mono ?_; rintro r w3 ⟨z3, rfl, hhs3, hrd3, hb3⟩
 have Y3 : Hid (Chg (g) (g + 1) v3 w3) := zq (Chg.of_grown hb3 (fun b hb => by injection hb with hb; omega))
 have s3 := Y3.out.size
 have Ew3 : Hid (Chg g (g + 1) w w3) := zq (Ev3.out.step Y3.out (by omega))
 clear hb3
 replace KX := zq (KX.out.chg Y3.out (by omega))
 replace KR := zq (KR.out.chg Y3.out (by omega))
 replace KO := zq (KO.out.chg Y3.out (by omega))
 replace HBK := zq (HBK.out.chg Y3.out (by omega))
 clear HRD2
 have HRD3 := zq hrd3; clear hrd3
 have HHS3 := zq hhs3; clear hhs3
 obtain ⟨qX0, qX1⟩ := KX.out.c2
 have jX := KX.out.lt
 obtain ⟨qR0, qR1⟩ := KR.out.c2
 have jR := KR.out.lt
 have zR := KR.out.frozen
 obtain ⟨qO0, qO1⟩ := KO.out.c2
 have jO := KO.out.lt
 have hs0 := HHS3.out.1
 obtain ⟨d0, d1, d2, d3, d4, d5⟩ := HBK.out.line HXK.out
 have hfz := HBK.out.frozen
 have lgr := Blk.lt HBK.out
 have hOr : ¬ w1.heap.size = gr := by omega
 have hOr' : ¬ gr = w1.heap.size := by omega
 have hRr : ¬ w.heap.size + 1 = gr := by omega
 have hRr' : ¬ gr = w.heap.size + 1 := by omega
 have hRO : ¬ w.heap.size + 1 = w1.heap.size := by omega
 have hRO' : ¬ w1.heap.size = w.heap.size + 1 := by omega
 have zO := KO.out.frozen
 by_cases s0 : z3 = 0
 ·subst s0
  go_wp2_with fail
  refine name_calls ?_; intro v4 hv4
  have X4 : Hid (Chg (0) (0) w3 v4) := zx hv4
  have t4 := X4.out.size
  have Ev4 : Hid (Chg g (g + 1) w v4) := zq (Ew3.out.step X4.out (by omega))
  clear qX0 qX1 jX
  clear qR0 qR1 jR zR
  clear qO0 qO1 jO
  replace KX := zq (KX.out.chg X4.out (by omega))
  replace KR := zq (KR.out.chg X4.out (by omega))
  replace KO := zq (KO.out.chg X4.out (by omega))
  replace HBK := zq (HBK.out.chg X4.out (by omega))
  replace HRD3 := zq (HRD3.out.chg X4.out (by omega))
  have L4 : Hid (Rd v4 (some ⟨w3.heap.size, 0, none⟩) ([-1, 8, 0] : List Int)) := zq (by rw [hv4]; repeat' (first | exact Rd.lits _ _ _ | exact Rd.lits_at _ _ _ (by simp) | with_reducible refine Rd.alloc ?_ _))
  clear hv4
  refine (num_c g (p + 2) _ 0 _ [-1, 8, 0] _ HRD3.out L4.out (by simp) (by simp) (by omega) (by omega)).mono ?_; rintro r w4 ⟨h4, rfl, hhh4, hrd4, hb4⟩
  have Y4 : Hid (Chg (g) (g + 1) v4 w4) := zq (Chg.of_grown hb4 (fun b hb => by injection hb with hb; omega))
  have s4 := Y4.out.size
  have Ew4 : Hid (Chg g (g + 1) w w4) := zq (Ev4.out.step Y4.out (by omega))
  clear hb4
  replace KX := zq (KX.out.chg Y4.out (by omega))
  replace KR := zq (KR.out.chg Y4.out (by omega))
  replace KO := zq (KO.out.chg Y4.out (by omega))
  replace HBK := zq (HBK.out.chg Y4.out (by omega))
  clear HRD3
  have HRD4 := zq hrd4; clear hrd4
  have HHH4 := zq hhh4; clear hhh4
  obtain ⟨qX0, qX1⟩ := KX.out.c2
  have jX := KX.out.lt
  obtain ⟨qR0, qR1⟩ := KR.out.c2
  have jR := KR.out.lt
  have zR := KR.out.frozen
  obtain ⟨qO0, qO1⟩ := KO.out.c2
  have jO := KO.out.lt
  have zO := KO.out.frozen
  go_wp2
  exact bodyPost_ret (v := .agg #[.slice (some ⟨gr, 0, none⟩) t.lines.length c1, .int .i64 (h4)]) (by first | (simp [results, Tryz.results65, go_sem, *]; done) | (simp [results, Tryz.results65, go_sem, qR0, qR1, qO0, qO1, jR, jO, hRO, hRO']; done)) rfl
     ⟨⟨t.lines, h4⟩, some ⟨gr, 0, none⟩, c1, p + 3, rfl, HFW.out, Fr.close (xs := t.lines) (rest := rest) (by repeat' (first | with_reducible refine Bk.alloc ?_ _ | with_reducible refine Bk.drew ?_ | with_reducible refine Bk.far ?_ (by first | (simp; done) | (simp; omega)) _ | exact HBK.out)) (by omega) (HREST.out) (by first | omega | (simp; omega)) hca, Rdr.chg (lo := w.heap.size + 1) (hi := w1.heap.size + 1) HRD4.out (by with_reducible repeat' (first | exact Chg.refl _ _ w4 | refine Chg.alloc ?_ _ | refine Chg.drew ?_ | refine Chg.set ?_ (by omega) _)) (by omega), by omega, Chg.grown (zc Ew4.out)⟩
 have b0 : (z3 == 0) = false := by simp [s0]
 by_cases s1 : z3 = 1
 ·subst s1
  cases hxv : x.valid
  all_goals
   rw [hxv] at d0
   go_wp2_with fail
   go_region
   go_wp2
  ·exact bodyPost_ret (v := .agg #[.slice (some ⟨gr, 0, none⟩) t.lines.length c1, .int .i64 (t.hand)]) (by first | (simp [results, Tryz.results65, go_sem, *]; done) | (simp [results, Tryz.results65, go_sem, qR0, qR1, qO0, qO1, jR, jO, hRO, hRO']; done)) rfl
     ⟨⟨(t.lines.set k { x with valid := true }), t.hand⟩, some ⟨gr, 0, none⟩, c1, p + 2, by simp, (by simpa using HFW.out), Fr.close (xs := (t.lines.set k { x with valid := true })) (rest := rest) (by repeat' (first | with_reducible refine Bk.alloc ?_ _ | with_reducible refine Bk.drew ?_ | with_reducible refine Bk.far ?_ (by first | (simp; done) | (simp; omega)) _ | exact Bk.set (k := k) (j := 0) (off := k * 6) (u := .bool true) (y := { x with valid := true }) HBK.out HXK.out (by decide) rfl (by simp [sz]))) (by omega) (by rw [List.length_set]; exact HREST.out) (by first | omega | (simp; omega)) hca, Rdr.chg (lo := w.heap.size + 1) (hi := w1.heap.size + 1) HRD3.out (by with_reducible repeat' (first | exact Chg.refl _ _ w3 | refine Chg.alloc ?_ _ | refine Chg.drew ?_ | refine Chg.set ?_ (by omega) _)) (by omega), by omega, Chg.grown (zc Ew3.out)⟩
  ·exact bodyPost_ret (v := .agg #[.slice (some ⟨gr, 0, none⟩) t.lines.length c1, .int .i64 (t.hand)]) (by first | (simp [results, Tryz.results65, go_sem, *]; done) | (simp [results, Tryz.results65, go_sem, qR0, qR1, qO0, qO1, jR, jO, hRO, hRO']; done)) rfl
     ⟨⟨(t.lines.set k { x with valid := false }), t.hand⟩, some ⟨gr, 0, none⟩, c1, p + 2, by simp, (by simpa using HFW.out), Fr.close (xs := (t.lines.set k { x with valid := false })) (rest := rest) (by repeat' (first | with_reducible refine Bk.alloc ?_ _ | with_reducible refine Bk.drew ?_ | with_reducible refine Bk.far ?_ (by first | (simp; done) | (simp; omega)) _ | exact Bk.set (k := k) (j := 0) (off := k * 6) (u := .bool false) (y := { x with valid := false }) HBK.out HXK.out (by decide) rfl (by simp [sz]))) (by omega) (by rw [List.length_set]; exact HREST.out) (by first | omega | (simp; omega)) hca, Rdr.chg (lo := w.heap.size + 1) (hi := w1.heap.size + 1) HRD3.out (by with_reducible repeat' (first | exact Chg.refl _ _ w3 | refine Chg.alloc ?_ _ | refine Chg.drew ?_ | refine Chg.set ?_ (by omega) _)) (by omega), by omega, Chg.grown (zc Ew3.out)⟩

 have b1 : (z3 == 1) = false := by simp [s1]
 by_cases s2 : z3 = 2
 ·subst s2
  have CN : Hid (∀ (b : Nat) (w1 : World), Rdr w1 g (p + 1 + 1) → Rd w1 (some ⟨b, 0, none⟩) ([2, 256, 3] : List Int) → b ≠ g → Calls Tryz.prog 38 #[.pointer (some ⟨g, 0, none⟩), .slice (some ⟨b, 0, none⟩) 3 3] w1 (Chosen g (p + 1 + 1) [2, 256, 3] w1)) := zq (fun b w1 h hz hne => num_c g (p + 1 + 1) b 0 3 [2, 256, 3] w1 h hz (by simp) (by simp) (by omega) hne)
  have hneL : w3.heap.size ≠ g := by omega
  have hneR : some gr ≠ some g := fun e => by injection e with e; omega
  have hneO : some w1.heap.size ≠ some g := fun e => by injection e with e; omega
  have hneRt : some (w.heap.size + 1) ≠ some g := fun e => by injection e with e; omega
  clear d0 d1 d2 d3 d4 d5 hfz lgr zO
  go_wp2_with fail
  go_region_held3 (fun w' => (w'.cell? ⟨w1.heap.size, 0, none⟩ = some (.slice (some ⟨gr, 0, none⟩) t.lines.length c1) ∧ w'.cell? ⟨w1.heap.size, 1, none⟩ = some (.int .i64 t.hand))) (first | exact KO.out.c2 | exact (Blk.drew KO.out).c2 | exact ((Blk.drew KO.out).alloc _).c2 | exact hO4.c2 | exact (Blk.far hO4 hOr _).c2 | go_keep) (first | (go_at_call 38; (with_reducible refine (CN.out _ _ ?_ ?_ ?_).mono ?_); (exact (Rdr.drew HRD3.out).alloc _); (exact Rd.lits _ _ _); (exact hneL); rintro r w4 ⟨h4, rfl, hv4, hrd4, hg4⟩; have hO4 := Blk.grown ((Blk.drew KO.out).alloc _) hg4 hneO; have hR4 := Blk.grown ((Blk.drew KR.out).alloc _) hg4 hneRt; have hB4 := Bk.grown (Bk.alloc (Bk.drew HBK.out) _) hg4 hneR; obtain ⟨d0, d1, d2, d3, d4, d5⟩ := Bk.line hB4 HXK.out; have hfz := Bk.frozen hB4; have lgr := Blk.lt hB4; obtain ⟨r0, r1⟩ := hR4.c2; have rfz := hR4.frozen; have rl := hR4.lt; obtain ⟨x0, x1⟩ := hO4.c2; have xl := hO4.lt))
  rename_i hHeld
  clear hHeld
  have Y4 : Chg g (g + 1) w3 w4 := ((Chg.refl g (g + 1) w3).drew.alloc _).trans (Chg.of_grown hg4 (fun b hb => by injection hb with hb; omega))
  have Ew4 : Hid (Chg g (g + 1) w w4) := zq (Ew3.out.trans Y4)
  have HRD4 := zq hrd4
  have HB4 := zq hB4
  have s4 := Y4.size
  clear hv4 hg4 hrd4 hB4 hO4 hR4
  go_wp2
  exact bodyPost_ret (v := .agg #[.slice (some ⟨gr, 0, none⟩) t.lines.length c1, .int .i64 (t.hand)]) (by first | (simp [results, Tryz.results65, go_sem, *]; done) | (simp [results, Tryz.results65, go_sem, qR0, qR1, r0, r1, rl, x0, x1, xl, hRO, hRO']; done)) rfl
     ⟨⟨(t.lines.set k { x with page := h4 }), t.hand⟩, some ⟨gr, 0, none⟩, c1, p + 1 + 1 + 1, by simp, (by simpa using HFW.out), Fr.close (xs := (t.lines.set k { x with page := h4 })) (rest := rest) (by repeat' (first | with_reducible refine Bk.alloc ?_ _ | with_reducible refine Bk.drew ?_ | with_reducible refine Bk.far ?_ (by first | (simp; done) | (simp; omega)) _ | exact Bk.set (k := k) (j := 2) (off := k * 6 + 2) (u := .int .i64 h4) (y := { x with page := h4 }) HB4.out HXK.out (by decide) rfl (by simp [sz]))) (by omega) (by rw [List.length_set]; exact HREST.out) (by first | omega | (simp; omega)) hca, Rdr.chg (lo := w.heap.size + 1) (hi := w1.heap.size + 1) HRD4.out (by with_reducible repeat' (first | exact Chg.refl _ _ w4 | refine Chg.alloc ?_ _ | refine Chg.drew ?_ | refine Chg.set ?_ (by omega) _)) (by omega), by omega, Chg.grown (zc Ew4.out)⟩
 have b2 : (z3 == 2) = false := by simp [s2]
 by_cases s3 : z3 = 3
 ·subst s3
  have CN : Hid (∀ (b : Nat) (w1 : World), Rdr w1 g (p + 1 + 1) → Rd w1 (some ⟨b, 0, none⟩) ([8, -2, 0, -1] : List Int) → b ≠ g → Calls Tryz.prog 38 #[.pointer (some ⟨g, 0, none⟩), .slice (some ⟨b, 0, none⟩) 4 4] w1 (Chosen g (p + 1 + 1) [8, -2, 0, -1] w1)) := zq (fun b w1 h hz hne => num_c g (p + 1 + 1) b 0 4 [8, -2, 0, -1] w1 h hz (by simp) (by simp) (by omega) hne)
  have hneL : w3.heap.size ≠ g := by omega
  have hneR : some gr ≠ some g := fun e => by injection e with e; omega
  have hneO : some w1.heap.size ≠ some g := fun e => by injection e with e; omega
  have hneRt : some (w.heap.size + 1) ≠ some g := fun e => by injection e with e; omega
  clear d0 d1 d2 d3 d4 d5 hfz lgr zO
  go_wp2_with fail
  go_region_held3 (fun w' => (w'.cell? ⟨w1.heap.size, 0, none⟩ = some (.slice (some ⟨gr, 0, none⟩) t.lines.length c1) ∧ w'.cell? ⟨w1.heap.size, 1, none⟩ = some (.int .i64 t.hand))) (first | exact KO.out.c2 | exact (Blk.drew KO.out).c2 | exact ((Blk.drew KO.out).alloc _).c2 | exact hO4.c2 | exact (Blk.far hO4 hOr _).c2 | go_keep) (first | (go_at_call 38; (with_reducible refine (CN.out _ _ ?_ ?_ ?_).mono ?_); (exact (Rdr.drew HRD3.out).alloc _); (exact Rd.lits _ _ _); (exact hneL); rintro r w4 ⟨h4, rfl, hv4, hrd4, hg4⟩; have hO4 := Blk.grown ((Blk.drew KO.out).alloc _) hg4 hneO; have hR4 := Blk.grown ((Blk.drew KR.out).alloc _) hg4 hneRt; have hB4 := Bk.grown (Bk.alloc (Bk.drew HBK.out) _) hg4 hneR; obtain ⟨d0, d1, d2, d3, d4, d5⟩ := Bk.line hB4 HXK.out; have hfz := Bk.frozen hB4; have lgr := Blk.lt hB4; obtain ⟨r0, r1⟩ := hR4.c2; have rfz := hR4.frozen; have rl := hR4.lt; obtain ⟨x0, x1⟩ := hO4.c2; have xl := hO4.lt))
  rename_i hHeld
  clear hHeld
  have Y4 : Chg g (g + 1) w3 w4 := ((Chg.refl g (g + 1) w3).drew.alloc _).trans (Chg.of_grown hg4 (fun b hb => by injection hb with hb; omega))
  have Ew4 : Hid (Chg g (g + 1) w w4) := zq (Ew3.out.trans Y4)
  have HRD4 := zq hrd4
  have HB4 := zq hB4
  have s4 := Y4.size
  clear hv4 hg4 hrd4 hB4 hO4 hR4
  go_wp2
  exact bodyPost_ret (v := .agg #[.slice (some ⟨gr, 0, none⟩) t.lines.length c1, .int .i64 (t.hand)]) (by first | (simp [results, Tryz.results65, go_sem, *]; done) | (simp [results, Tryz.results65, go_sem, qR0, qR1, r0, r1, rl, x0, x1, xl, hRO, hRO']; done)) rfl
     ⟨⟨(t.lines.set k { x with tag := h4 }), t.hand⟩, some ⟨gr, 0, none⟩, c1, p + 1 + 1 + 1, by simp, (by simpa using HFW.out), Fr.close (xs := (t.lines.set k { x with tag := h4 })) (rest := rest) (by repeat' (first | with_reducible refine Bk.alloc ?_ _ | with_reducible refine Bk.drew ?_ | with_reducible refine Bk.far ?_ (by first | (simp; done) | (simp; omega)) _ | exact Bk.set (k := k) (j := 1) (off := k * 6 + 1) (u := .int .i64 h4) (y := { x with tag := h4 }) HB4.out HXK.out (by decide) rfl (by simp [sz]))) (by omega) (by rw [List.length_set]; exact HREST.out) (by first | omega | (simp; omega)) hca, Rdr.chg (lo := w.heap.size + 1) (hi := w1.heap.size + 1) HRD4.out (by with_reducible repeat' (first | exact Chg.refl _ _ w4 | refine Chg.alloc ?_ _ | refine Chg.drew ?_ | refine Chg.set ?_ (by omega) _)) (by omega), by omega, Chg.grown (zc Ew4.out)⟩
 have b3 : (z3 == 3) = false := by simp [s3]
 by_cases s4 : z3 = 4
 ·subst s4
  go_wp2
  exact bodyPost_ret (v := .agg #[.slice (some ⟨w3.heap.size, 0, none⟩) 0 0, .int .i64 t.hand]) (by first | (simp [results, Tryz.results65, go_sem, *]; done) | (simp [results, Tryz.results65, go_sem, qR0, qR1, qO0, qO1, jR, jO, hRO, hRO']; done)) rfl
   ⟨⟨[], t.hand⟩, some ⟨w3.heap.size, 0, none⟩, 0, p + 1 + 1, rfl, (by simp), ⟨Nat.le_refl _, Nat.zero_le _, .inl rfl⟩, Rdr.chg (lo := w.heap.size + 1) (hi := w1.heap.size + 1) HRD3.out (by with_reducible repeat' (first | exact Chg.refl _ _ w3 | refine Chg.alloc ?_ _ | refine Chg.drew ?_ | refine Chg.set ?_ (by omega) _)) (by omega), by omega, Chg.grown (zc Ew3.out)⟩
 have b4 : (z3 == 4) = false := by simp [s4]
 go_wp2
 exact bodyPost_ret (v := .agg #[.slice (some ⟨gr, 0, none⟩) t.lines.length c1, .int .i64 t.hand]) (by first | (simp [results, Tryz.results65, go_sem, *]; done) | (simp [results, Tryz.results65, go_sem, qR0, qR1, qO0, qO1, jR, jO, hRO, hRO']; done)) rfl
  ⟨t, some ⟨gr, 0, none⟩, c1, p + 1 + 1, rfl, HFW.out, Fr.close (xs := t.lines) (rest := rest) (by repeat' (first | with_reducible refine Bk.alloc ?_ _ | with_reducible refine Bk.drew ?_ | with_reducible refine Bk.far ?_ (by first | (simp; done) | (simp; omega)) _ | exact HBK.out)) (by omega) HREST.out hle hca, Rdr.chg (lo := w.heap.size + 1) (hi := w1.heap.size + 1) HRD3.out (by with_reducible repeat' (first | exact Chg.refl _ _ w3 | refine Chg.alloc ?_ _ | refine Chg.drew ?_ | refine Chg.set ?_ (by omega) _)) (by omega), by omega, Chg.grown (zc Ew3.out)⟩

def SomeTagsR (g p m : Nat) (w : World) (e : Ending) (w' : World) : Prop := ∃ (t : TagsD) (A : Option Addr) (c p' : Nat), e = .returned (.agg #[.int .i64 t.count, .int .i64 t.next, .int .i64 t.round, .slice A t.owns.length c]) ∧ t.owns.length ≤ m ∧ Fr 93 w' w.heap.size A c t.owns ∧ Rdr w' g p' ∧ p' ≤ p + 20 ∧ w.grownBy w' (some g)

set_option maxHeartbeats 8000000 in
theorem l5Wrong_c (g p : Nat) (t : TagsD) (A : Option Addr) (c : Nat) (w : World) (h : Rdr w g p) (hp : p ≤ 800000) (hx : Rd w A t.owns) (hn : t.owns.length ≤ 1000) (hc : t.owns.length ≤ c) (hc2 : c ≤ maxLen) :
  Calls Tryz.prog 67 #[.pointer (some ⟨g, 0, none⟩), .agg #[.int .i64 t.count, .int .i64 t.next, .int .i64 t.round, .slice A t.owns.length c]] w (SomeTagsR g p (t.owns.length + 1) w) := by
 obtain ⟨i0, hi, hz0, hz1, hz2⟩ := info_parts infoOwn
 have lg := h.lt
 have HR0 := zq h
 have HX := zq hx
 have C1 := zq (fun w' (h : Ex w w') => l5Copy_c t A c w' (hx.ex h) (by omega) hc hc2)
 clear h hx
 go_enter Tryz.func67, Tryz.ntmps67
 go_wp2_with fail
 refine name_calls ?_; intro v1 hv1
 have X1 : Hid (Chg (0) (0) w v1) := zx hv1
 have t1 := X1.out.size
 have Ev1 : Hid (Chg g (g + 1) w v1) := zq ((Chg.refl g (g + 1) w).step X1.out (by omega))
 replace HR0 := zq (HR0.out.chg X1.out (by omega))
 have KX : Hid (Blk v1 (w.heap.size) 32 [.int .i64 t.count, .int .i64 t.next, .int .i64 t.round, .slice A t.owns.length c]) := zk hv1
 have lX : w.heap.size < v1.heap.size := KX.out.lt
 have KR : Hid (Blk v1 (w.heap.size + 1) 32 [.int .i64 0, .int .i64 0, .int .i64 0, .slice none 0 0]) := zk hv1
 have lR : w.heap.size + 1 < v1.heap.size := KR.out.lt
 clear hv1
 refine (C1.out _ X1.out.ex_).mono ?_; rintro r w1 ⟨A1, c1, rfl, hf1, hb1⟩
 have Y1 := zq (Chg.of_ex hb1)
 have s1 := Y1.out.size
 have Ew1 : Hid (Chg g (g + 1) w w1) := zq (Ev1.out.step Y1.out (by omega))
 clear hb1
 replace KX := zq (KX.out.chg Y1.out (by omega))
 replace KR := zq (KR.out.chg Y1.out (by omega))
 replace HR0 := zq (HR0.out.chg Y1.out (by omega))
 have HF1 := zq hf1; clear hf1
 have WHF1 := zq HF1.out.row
 obtain ⟨qX0, qX1, qX2, qX3⟩ := KX.out.c4
 have jX := KX.out.lt
 obtain ⟨qR0, qR1, qR2, qR3⟩ := KR.out.c4
 have jR := KR.out.lt
 have zR := KR.out.frozen
 clear qX0 qX1 qX2 qX3 jX
 clear KX
 go_wp2_with fail
 refine name_calls ?_; intro v2 hv2
 have X2 : Hid (Chg (0) (0) w1 v2) := zx hv2
 have t2 := X2.out.size
 have Ev2 : Hid (Chg g (g + 1) w v2) := zq (Ew1.out.step X2.out (by omega))
 clear qR0 qR1 qR2 qR3 jR zR
 replace KR := zq (KR.out.chg X2.out (by omega))
 replace HF1 := zq (HF1.out.chg X2.out WHF1.out (by omega))
 replace HR0 := zq (HR0.out.chg X2.out (by omega))
 have KO : Hid (Blk v2 (w1.heap.size) 32 [.int .i64 t.count, .int .i64 t.next, .int .i64 t.round, .slice A1 t.owns.length c1]) := zk hv2
 have lO : w1.heap.size < v2.heap.size := KO.out.lt
 clear hv2
 refine (pick_c g p 20 _ HR0.out (by omega) (by omega)).mono ?_; rintro r w2 ⟨z2, rfl, hh2, hrd2, hb2⟩
 have Y2 : Hid (Chg (g) (g + 1) v2 w2) := zq (Chg.of_grown hb2 (fun b hb => by injection hb with hb; omega))
 have s2 := Y2.out.size
 have Ew2 : Hid (Chg g (g + 1) w w2) := zq (Ev2.out.step Y2.out (by omega))
 clear hb2
 replace KR := zq (KR.out.chg Y2.out (by omega))
 replace KO := zq (KO.out.chg Y2.out (by omega))
 replace HF1 := zq (HF1.out.chg Y2.out WHF1.out (by omega))
 clear HR0
 have HRD2 := zq hrd2; clear hrd2
 have HH2 := zq hh2; clear hh2
 obtain ⟨qR0, qR1, qR2, qR3⟩ := KR.out.c4
 have jR := KR.out.lt
 have zR := KR.out.frozen
 obtain ⟨qO0, qO1, qO2, qO3⟩ := KO.out.c4
 have jO := KO.out.lt
 have zO := KO.out.frozen
 have hRO : ¬ w.heap.size + 1 = w1.heap.size := by omega
 by_cases hz : z2 = 0
 ·have hb0 : (z2 == 0) = true := by simp [hz]
  clear hz
  go_wp2_with fail
  refine name_calls ?_; intro v3 hv3
  have X3 : Hid (Chg (0) (0) w2 v3) := zx hv3
  have t3 := X3.out.size
  have Ev3 : Hid (Chg g (g + 1) w v3) := zq (Ew2.out.step X3.out (by omega))
  clear qR0 qR1 qR2 qR3 jR zR
  clear qO0 qO1 qO2 qO3 jO zO
  replace KR := zq (KR.out.chg X3.out (by omega))
  replace KO := zq (KO.out.chg X3.out (by omega))
  replace HF1 := zq (HF1.out.chg X3.out WHF1.out (by omega))
  replace HRD2 := zq (HRD2.out.chg X3.out (by omega))
  have L3 : Hid (Rd v3 (some ⟨w2.heap.size, 0, none⟩) ([-1, 9, 0] : List Int)) := zq (by rw [hv3]; repeat' (first | exact Rd.lits _ _ _ | exact Rd.lits_at _ _ _ (by simp) | with_reducible refine Rd.alloc ?_ _))
  clear hv3
  refine (num_c g (p + 1) _ 0 _ [-1, 9, 0] _ HRD2.out L3.out (by simp) (by simp) (by omega) (by omega)).mono ?_; rintro r w3 ⟨f3, rfl, hhf3, hrd3, hb3⟩
  have Y3 : Hid (Chg (g) (g + 1) v3 w3) := zq (Chg.of_grown hb3 (fun b hb => by injection hb with hb; omega))
  have s3 := Y3.out.size
  have Ew3 : Hid (Chg g (g + 1) w w3) := zq (Ev3.out.step Y3.out (by omega))
  clear hb3
  replace KR := zq (KR.out.chg Y3.out (by omega))
  replace KO := zq (KO.out.chg Y3.out (by omega))
  replace HF1 := zq (HF1.out.chg Y3.out WHF1.out (by omega))
  clear HRD2
  have HRD3 := zq hrd3; clear hrd3
  have HHF3 := zq hhf3; clear hhf3
  obtain ⟨qR0, qR1, qR2, qR3⟩ := KR.out.c4
  have jR := KR.out.lt
  have zR := KR.out.frozen
  obtain ⟨qO0, qO1, qO2, qO3⟩ := KO.out.c4
  have jO := KO.out.lt
  have zO := KO.out.frozen
  have zO := KO.out.frozen
  have zR := KR.out.frozen
  go_wp2
  exact bodyPost_ret (v := .agg #[.int .i64 t.count, .int .i64 f3, .int .i64 t.round, .slice A1 t.owns.length c1]) (by first | (simp [results, Tryz.results67, go_sem, *]; done) | (simp [results, Tryz.results67, go_sem, qR0, qR1, qR2, qR3]; done)) rfl
   ⟨⟨t.count, f3, t.round, t.owns⟩, A1, c1, p + 1 + 1, rfl, Nat.le_succ _, Fr.mono (B := v1.heap.size) (zp HF1.out WHF1.out) (by omega), Rdr.chg (lo := w.heap.size) (hi := w1.heap.size + 1) HRD3.out (by with_reducible repeat' (first | exact Chg.refl _ _ w3 | refine Chg.alloc ?_ _ | refine Chg.drew ?_ | refine Chg.set ?_ (by omega) _)) (by omega), by omega, Chg.grown (zc Ew3.out)⟩
 have hb0 : (z2 == 0) = false := by simp [hz]
 clear hz
 by_cases hz : z2 = 1
 ·have hb1 : (z2 == 1) = true := by simp [hz]
  clear hz
  go_wp2_with fail
  refine name_calls ?_; intro v3 hv3
  have X3 : Hid (Chg (0) (0) w2 v3) := zx hv3
  have t3 := X3.out.size
  have Ev3 : Hid (Chg g (g + 1) w v3) := zq (Ew2.out.step X3.out (by omega))
  clear qR0 qR1 qR2 qR3 jR zR
  clear qO0 qO1 qO2 qO3 jO zO
  replace KR := zq (KR.out.chg X3.out (by omega))
  replace KO := zq (KO.out.chg X3.out (by omega))
  replace HF1 := zq (HF1.out.chg X3.out WHF1.out (by omega))
  replace HRD2 := zq (HRD2.out.chg X3.out (by omega))
  have L3 : Hid (Rd v3 (some ⟨w2.heap.size, 0, none⟩) ([0, 9, 1] : List Int)) := zq (by rw [hv3]; repeat' (first | exact Rd.lits _ _ _ | exact Rd.lits_at _ _ _ (by simp) | with_reducible refine Rd.alloc ?_ _))
  clear hv3
  refine (num_c g (p + 1) _ 0 _ [0, 9, 1] _ HRD2.out L3.out (by simp) (by simp) (by omega) (by omega)).mono ?_; rintro r w3 ⟨f3, rfl, hhf3, hrd3, hb3⟩
  have Y3 : Hid (Chg (g) (g + 1) v3 w3) := zq (Chg.of_grown hb3 (fun b hb => by injection hb with hb; omega))
  have s3 := Y3.out.size
  have Ew3 : Hid (Chg g (g + 1) w w3) := zq (Ev3.out.step Y3.out (by omega))
  clear hb3
  replace KR := zq (KR.out.chg Y3.out (by omega))
  replace KO := zq (KO.out.chg Y3.out (by omega))
  replace HF1 := zq (HF1.out.chg Y3.out WHF1.out (by omega))
  clear HRD2
  have HRD3 := zq hrd3; clear hrd3
  have HHF3 := zq hhf3; clear hhf3
  obtain ⟨qR0, qR1, qR2, qR3⟩ := KR.out.c4
  have jR := KR.out.lt
  have zR := KR.out.frozen
  obtain ⟨qO0, qO1, qO2, qO3⟩ := KO.out.c4
  have jO := KO.out.lt
  have zO := KO.out.frozen
  have zO := KO.out.frozen
  have zR := KR.out.frozen
  go_wp2
  exact bodyPost_ret (v := .agg #[.int .i64 f3, .int .i64 t.next, .int .i64 t.round, .slice A1 t.owns.length c1]) (by first | (simp [results, Tryz.results67, go_sem, *]; done) | (simp [results, Tryz.results67, go_sem, qR0, qR1, qR2, qR3]; done)) rfl
   ⟨⟨f3, t.next, t.round, t.owns⟩, A1, c1, p + 1 + 1, rfl, Nat.le_succ _, Fr.mono (B := v1.heap.size) (zp HF1.out WHF1.out) (by omega), Rdr.chg (lo := w.heap.size) (hi := w1.heap.size + 1) HRD3.out (by with_reducible repeat' (first | exact Chg.refl _ _ w3 | refine Chg.alloc ?_ _ | refine Chg.drew ?_ | refine Chg.set ?_ (by omega) _)) (by omega), by omega, Chg.grown (zc Ew3.out)⟩
 have hb1 : (z2 == 1) = false := by simp [hz]
 clear hz
 by_cases hz : z2 = 2
 ·have hb2 : (z2 == 2) = true := by simp [hz]
  clear hz
  obtain ⟨gO, hgO⟩ : ∃ gO, gO = w1.heap.size := ⟨_, rfl⟩
  have CP1 : Hid (∀ w1, Rdr w1 g (p + 1) → Calls Tryz.prog 35 #[.pointer (some ⟨g, 0, none⟩), .int .i64 3] w1 (Picked g (p + 1) 3 w1)) := zq (fun w1 h => pick_c g (p + 1) 3 w1 h (by omega) (by omega))
  have CP2 : Hid (∀ w1, Rdr w1 g (p + 1 + 1) → Calls Tryz.prog 35 #[.pointer (some ⟨g, 0, none⟩), .int .i64 3] w1 (Picked g (p + 1 + 1) 3 w1)) := zq (fun w1 h => pick_c g (p + 1 + 1) 3 w1 h (by omega) (by omega))
  have hneO : some gO ≠ some g := fun e => by injection e with e; omega
  have hneF : some gO ≠ rowOf A1 c1 := fun e => by have := WHF1.out _ e.symm; omega
  have hneR : some (w.heap.size + 1) ≠ some g := fun e => by injection e with e; omega
  have FRK : Hid (∀ wa wb, w2.drew.grownBy wa (some g) → wa.grownBy wb (some g) → Fr 93 wb v1.heap.size A1 c1 t.owns) := zq (fun wa wb h1 h2 => Fr.chg (Fr.chg HF1.out ((Chg.refl g (g + 1) w2).drew.trans (Chg.of_grown h1 (fun b hb => by injection hb with hb; omega))) WHF1.out (by omega)) (Chg.of_grown (lo := g) (hi := g + 1) h2 (fun b hb => by injection hb with hb; omega)) WHF1.out (by omega))
  have FSZ : Hid (∀ wa wb, w2.drew.grownBy wa (some g) → wa.grownBy wb (some g) → w2.heap.size ≤ wb.heap.size) := zq (fun wa wb h1 h2 => Nat.le_trans h1.size h2.size)
  have H63 : Hid (t.owns.length + 1 ≤ maxLen) := zq (by simp [maxLen]; omega)
  have HBY : Hid ((t.owns.length + 1) * 16 ≤ 140737488355328) := zq (by omega)
  have HV1 : Hid (v1.heap.size ≤ w2.heap.size) := zq (by omega)
  have CE : Hid (∀ (args : Array Value) (w : World), (callFunc 35 args).run Tryz.prog w = .ok (.enter 35 args) w) := zq (enters Tryz.func35 (by kernel_rfl) (by kernel_rfl))
  have hgO2 : w1.heap.size ≤ gO ∧ w.heap.size + 1 < gO := by omega
  rw [← hgO] at KO qO0 qO1 qO2 qO3 jO zO hRO ⊢
  clear hgO
  have lgO : gO < w2.heap.size := KO.out.lt
  go_wp2_with fail
  go_region_law (first | (refine step_append_fr (α := OwnD) rfl _ _ 30 rfl 93 i0 _ 16 v1.heap.size Tryz.underlying30 hi hz0 hz1 hz2 rfl A1 c1 t.owns.length t.owns rfl rfl ((FRK.out _ _ hga hgb).alloc _) _ 1 1 [(⟨za, zb⟩ : OwnD)] rfl rfl (one_own _ _ _) H63.out HBY.out (Nat.le_trans HV1.out (Nat.le_trans (FSZ.out _ _ hga hgb) ((Ex.refl wb).alloc _).size)) ?_; intro A6 c6 w6 ha; have ho6 := Blk.grown (hob.alloc _) ha.grown hneF; obtain ⟨h60, h61, h62, h63⟩ := ho6.c4; have h6f := ho6.frozen; have h6l := ho6.lt) | (refine step_call rfl CE.out _ _ rfl #[.pointer (some ⟨g, 0, none⟩), .int .i64 3] rfl (CP1.out _ (Rdr.drew HRD2.out)) ?_; rintro r wa ⟨za, rfl, hva, hra, hga⟩; refine ⟨_, rfl, ?_⟩; have hoa := Blk.grown (Blk.drew KO.out) hga hneO; obtain ⟨ha0, ha1, ha2, ha3⟩ := hoa.c4; have haf := hoa.frozen; have hal := hoa.lt) | (refine step_call rfl CE.out _ _ rfl #[.pointer (some ⟨g, 0, none⟩), .int .i64 3] rfl (CP2.out _ hra) ?_; rintro r wb ⟨zb, rfl, hvb, hrb, hgb⟩; refine ⟨_, rfl, ?_⟩; have hob := Blk.grown hoa hgb hneO; obtain ⟨hb0', hb1', hb2', hb3'⟩ := hob.c4; have hbf := hob.frozen; have hbl := hob.lt))
  all_goals
   have HB : Hid (Chg g (g + 1) w2 wb) := zq ((((Chg.refl g (g + 1) w2).drew).trans (Chg.of_grown hga (fun b hb => by injection hb with hb; omega))).trans (Chg.of_grown hgb (fun b hb => by injection hb with hb; omega)))
   have KO6 := zq ho6
   have hg6 := ha.grown
   have Ew6 : Hid (Chg g (g + 1) w w6) := zq (((Ew2.out.trans HB.out).alloc _).step (Chg.of_grown hg6 WHF1.out) (.inr (.inl (by omega))))
   have KR6 : Hid (Blk w6 (w.heap.size + 1) 32 [.int .i64 0, .int .i64 0, .int .i64 0, .slice none 0 0]) := zq (((KR.out.chg HB.out (by omega)).alloc _).grown hg6 (fun e => by have := WHF1.out _ e.symm; omega))
   have HRD6 : Hid (Rdr w6 g (p + 1 + 1 + 1)) := zq ((hrb.alloc _).chg (Chg.of_grown hg6 WHF1.out) (.inl (by omega)))
   have HF6 := zq ha.fr
   have hwb := HB.out.size
   have WNE6 : Hid (∀ b, rowOf A6 c6 = some b → v1.heap.size ≤ b ∧ b ≠ gO) := zq (fun b hb => by
    refine ⟨(HF6.out.row b hb).1, ?_⟩
    rcases ha.row with e | e
    ·rw [hb] at e
     have := WHF1.out b e.symm
     omega
    ·rw [hb] at e
     injection e with e
     simp at e
     omega)
   have HL : Hid ((t.owns ++ [(⟨za, zb⟩ : OwnD)]).length = t.owns.length + 1) := zq (by simp)
   clear ha ho6 hg6 hoa hob hga hgb hra hrb hva hvb KO KR h60 h61 h62 h63 h6f h6l ha0 ha1 ha2 ha3 haf hal hb0' hb1' hb2' hb3' hbf hbl qO0 qO1 qO2 qO3 jO zO qR0 qR1 qR2 qR3 jR zR
   obtain ⟨qO0, qO1, qO2, qO3⟩ := KO6.out.c4
   have jO := KO6.out.lt
   have zO := KO6.out.frozen
   obtain ⟨qR0, qR1, qR2, qR3⟩ := KR6.out.c4
   have jR := KR6.out.lt
   have zR := KR6.out.frozen
   go_wp2
   exact bodyPost_ret (v := .agg #[.int .i64 t.count, .int .i64 t.next, .int .i64 t.round, .slice A6 (t.owns.length + 1) c6]) (by first | (simp [results, Tryz.results67, go_sem, *]; done) | (simp [results, Tryz.results67, go_sem, qR0, qR1, qR2, qR3]; done)) rfl
    ⟨⟨t.count, t.next, t.round, t.owns ++ [⟨za, zb⟩]⟩, A6, c6, p + 1 + 1 + 1, by rw [HL.out], Nat.le_of_eq HL.out, Fr.mono (B := v1.heap.size) (by with_reducible repeat' (first | exact HF6.out | refine Fr.alloc ?_ _ | refine Fr.put ?_ (fun b hb => by have := WNE6.out b hb; omega) _)) (by omega), Rdr.chg (lo := w.heap.size) (hi := gO + 1) HRD6.out (by with_reducible repeat' (first | exact Chg.refl _ _ w6 | refine Chg.alloc ?_ _ | refine Chg.drew ?_ | refine Chg.set ?_ (by omega) _)) (by omega), by omega, Chg.grown (zc Ew6.out)⟩
 have hb2 : (z2 == 2) = false := by simp [hz]
 clear hz
 by_cases hz : z2 = 3
 ·have hb3 : (z2 == 3) = true := by simp [hz]
  clear hz
  go_wp2_with fail
  refine name_calls ?_; intro v3 hv3
  have X3 : Hid (Chg (0) (0) w2 v3) := zx hv3
  have t3 := X3.out.size
  have Ev3 : Hid (Chg g (g + 1) w v3) := zq (Ew2.out.step X3.out (by omega))
  clear qR0 qR1 qR2 qR3 jR zR
  clear qO0 qO1 qO2 qO3 jO zO
  replace KR := zq (KR.out.chg X3.out (by omega))
  replace KO := zq (KO.out.chg X3.out (by omega))
  replace HF1 := zq (HF1.out.chg X3.out WHF1.out (by omega))
  replace HRD2 := zq (HRD2.out.chg X3.out (by omega))
  have L3 : Hid (Rd v3 (some ⟨w2.heap.size, 0, none⟩) ([-1, 1000001, 1000000] : List Int)) := zq (by rw [hv3]; repeat' (first | exact Rd.lits _ _ _ | exact Rd.lits_at _ _ _ (by simp) | with_reducible refine Rd.alloc ?_ _))
  clear hv3
  refine (num_c g (p + 1) _ 0 _ [-1, 1000001, 1000000] _ HRD2.out L3.out (by simp) (by simp) (by omega) (by omega)).mono ?_; rintro r w3 ⟨f3, rfl, hhf3, hrd3, hb3⟩
  have Y3 : Hid (Chg (g) (g + 1) v3 w3) := zq (Chg.of_grown hb3 (fun b hb => by injection hb with hb; omega))
  have s3 := Y3.out.size
  have Ew3 : Hid (Chg g (g + 1) w w3) := zq (Ev3.out.step Y3.out (by omega))
  clear hb3
  replace KR := zq (KR.out.chg Y3.out (by omega))
  replace KO := zq (KO.out.chg Y3.out (by omega))
  replace HF1 := zq (HF1.out.chg Y3.out WHF1.out (by omega))
  clear HRD2
  have HRD3 := zq hrd3; clear hrd3
  have HHF3 := zq hhf3; clear hhf3
  obtain ⟨qR0, qR1, qR2, qR3⟩ := KR.out.c4
  have jR := KR.out.lt
  have zR := KR.out.frozen
  obtain ⟨qO0, qO1, qO2, qO3⟩ := KO.out.c4
  have jO := KO.out.lt
  have zO := KO.out.frozen
  have zO := KO.out.frozen
  have zR := KR.out.frozen
  go_wp2
  exact bodyPost_ret (v := .agg #[.int .i64 t.count, .int .i64 t.next, .int .i64 f3, .slice A1 t.owns.length c1]) (by first | (simp [results, Tryz.results67, go_sem, *]; done) | (simp [results, Tryz.results67, go_sem, qR0, qR1, qR2, qR3]; done)) rfl
   ⟨⟨t.count, t.next, f3, t.owns⟩, A1, c1, p + 1 + 1, rfl, Nat.le_succ _, Fr.mono (B := v1.heap.size) (zp HF1.out WHF1.out) (by omega), Rdr.chg (lo := w.heap.size) (hi := w1.heap.size + 1) HRD3.out (by with_reducible repeat' (first | exact Chg.refl _ _ w3 | refine Chg.alloc ?_ _ | refine Chg.drew ?_ | refine Chg.set ?_ (by omega) _)) (by omega), by omega, Chg.grown (zc Ew3.out)⟩
 have hb3 : (z2 == 3) = false := by simp [hz]
 clear hz
 go_wp2
 exact bodyPost_ret (v := .agg #[.int .i64 t.count, .int .i64 t.next, .int .i64 t.round, .slice A1 t.owns.length c1]) (by first | (simp [results, Tryz.results67, go_sem, *]; done) | (simp [results, Tryz.results67, go_sem, qR0, qR1, qR2, qR3]; done)) rfl
  ⟨⟨t.count, t.next, t.round, t.owns⟩, A1, c1, p + 1, rfl, Nat.le_succ _, Fr.mono (B := v1.heap.size) (zp HF1.out WHF1.out) (by omega), Rdr.chg (lo := w.heap.size) (hi := w1.heap.size + 1) HRD2.out (by with_reducible repeat' (first | exact Chg.refl _ _ w2 | refine Chg.alloc ?_ _ | refine Chg.drew ?_ | refine Chg.set ?_ (by omega) _)) (by omega), by omega, Chg.grown (zc Ew2.out)⟩

set_option maxHeartbeats 8000000 in
theorem l6Wrong_c (g p lo k : Nat) (m : MachD) (a : MA) (w : World) (h : Rdr w g p) (hp : p ≤ 700000) (hm : FewB m k) (hk : k ≤ 900) (hx : FrM w lo m a) :
  Calls Tryz.prog 39 #[.pointer (some ⟨g, 0, none⟩), .agg #[.slice a.b m.table.buckets.length a.bc, .slice a.f m.table.frames.length a.fc, .slice a.l m.cache.lines.length a.lc, .int .i64 m.cache.hand, .int .i64 m.tags.count, .int .i64 m.tags.next, .int .i64 m.tags.round, .slice a.o m.tags.owns.length a.oc, .int .i64 m.space]] w (SomeMach g p w.heap.size 60 (fun q => FewB q (k + 2)) w) := by
 have lg := h.lt
 have HR0 := zq h
 have HM := zq hm
 have C1 := zq (fun w' (e : Ex w w') => l6Copy_c m a w' (hx.has.ex e) (hm.few (by omega)) hx.cap hx.capx)
 have n1 := hm.b
 have n2 := hm.f
 have n3 := hm.l
 have n4 := hm.o
 clear h hx hm
 go_enter Tryz.func39, Tryz.ntmps39
 go_wp2_with fail
 refine name_calls ?_; intro v1 hv1
 have X1 : Hid (Chg (0) (0) w v1) := zx hv1
 have t1 := X1.out.size
 have Ev1 : Hid (Chg g (g + 1) w v1) := zq ((Chg.refl g (g + 1) w).step X1.out (by omega))
 replace HR0 := zq (HR0.out.chg X1.out (by omega))
 have KX : Hid (Blk v1 (w.heap.size) 34 [.slice a.b m.table.buckets.length a.bc, .slice a.f m.table.frames.length a.fc, .slice a.l m.cache.lines.length a.lc, .int .i64 m.cache.hand, .int .i64 m.tags.count, .int .i64 m.tags.next, .int .i64 m.tags.round, .slice a.o m.tags.owns.length a.oc, .int .i64 m.space]) := zk hv1
 have lX : w.heap.size < v1.heap.size := KX.out.lt
 have KR : Hid (Blk v1 (w.heap.size + 1) 34 [.slice none 0 0, .slice none 0 0, .slice none 0 0, .int .i64 0, .int .i64 0, .int .i64 0, .int .i64 0, .slice none 0 0, .int .i64 0]) := zk hv1
 have lR : w.heap.size + 1 < v1.heap.size := KR.out.lt
 clear hv1
 refine (C1.out _ X1.out.ex_).mono ?_; rintro r w1 ⟨a1, rfl, ⟨hfa, hfb, hfc, hfd⟩, hb1⟩
 have Y1 := zq (Chg.of_ex hb1)
 have s1 := Y1.out.size
 have Ew1 : Hid (Chg g (g + 1) w w1) := zq (Ev1.out.step Y1.out (by omega))
 clear hb1
 replace KX := zq (KX.out.chg Y1.out (by omega))
 replace KR := zq (KR.out.chg Y1.out (by omega))
 replace HR0 := zq (HR0.out.chg Y1.out (by omega))
 have HFA := zq hfa; clear hfa
 have WHFA := zq HFA.out.row
 have HFB := zq hfb; clear hfb
 have WHFB := zq HFB.out.row
 have HFC := zq hfc; clear hfc
 have WHFC := zq HFC.out.row
 have HFD := zq hfd; clear hfd
 have WHFD := zq HFD.out.row
 obtain ⟨qX0, qX1, qX2, qX3, qX4, qX5, qX6, qX7, qX8⟩ := KX.out.c9
 have jX := KX.out.lt
 obtain ⟨qR0, qR1, qR2, qR3, qR4, qR5, qR6, qR7, qR8⟩ := KR.out.c9
 have jR := KR.out.lt
 have zR := KR.out.frozen
 clear qX0 qX1 qX2 qX3 qX4 qX5 qX6 qX7 qX8 jX
 clear KX
 go_wp2_with fail
 refine name_calls ?_; intro v2 hv2
 have X2 : Hid (Chg (0) (0) w1 v2) := zx hv2
 have t2 := X2.out.size
 have Ev2 : Hid (Chg g (g + 1) w v2) := zq (Ew1.out.step X2.out (by omega))
 clear qR0 qR1 qR2 qR3 qR4 qR5 qR6 qR7 qR8 jR zR
 replace KR := zq (KR.out.chg X2.out (by omega))
 replace HFA := zq (HFA.out.chg X2.out WHFA.out (by omega))
 replace HFB := zq (HFB.out.chg X2.out WHFB.out (by omega))
 replace HFC := zq (HFC.out.chg X2.out WHFC.out (by omega))
 replace HFD := zq (HFD.out.chg X2.out WHFD.out (by omega))
 replace HR0 := zq (HR0.out.chg X2.out (by omega))
 have KO : Hid (Blk v2 (w1.heap.size) 34 [.slice a1.b m.table.buckets.length a1.bc, .slice a1.f m.table.frames.length a1.fc, .slice a1.l m.cache.lines.length a1.lc, .int .i64 m.cache.hand, .int .i64 m.tags.count, .int .i64 m.tags.next, .int .i64 m.tags.round, .slice a1.o m.tags.owns.length a1.oc, .int .i64 m.space]) := zk hv2
 have lO : w1.heap.size < v2.heap.size := KO.out.lt
 clear hv2
 refine (pick_c g p 24 _ HR0.out (by omega) (by omega)).mono ?_; rintro r w2 ⟨z2, rfl, hh2, hrd2, hb2⟩
 have Y2 : Hid (Chg (g) (g + 1) v2 w2) := zq (Chg.of_grown hb2 (fun b hb => by injection hb with hb; omega))
 have s2 := Y2.out.size
 have Ew2 : Hid (Chg g (g + 1) w w2) := zq (Ev2.out.step Y2.out (by omega))
 clear hb2
 replace KR := zq (KR.out.chg Y2.out (by omega))
 replace KO := zq (KO.out.chg Y2.out (by omega))
 replace HFA := zq (HFA.out.chg Y2.out WHFA.out (by omega))
 replace HFB := zq (HFB.out.chg Y2.out WHFB.out (by omega))
 replace HFC := zq (HFC.out.chg Y2.out WHFC.out (by omega))
 replace HFD := zq (HFD.out.chg Y2.out WHFD.out (by omega))
 clear HR0
 have HRD2 := zq hrd2; clear hrd2
 have HH2 := zq hh2; clear hh2
 obtain ⟨qR0, qR1, qR2, qR3, qR4, qR5, qR6, qR7, qR8⟩ := KR.out.c9
 have jR := KR.out.lt
 have zR := KR.out.frozen
 obtain ⟨qO0, qO1, qO2, qO3, qO4, qO5, qO6, qO7, qO8⟩ := KO.out.c9
 have jO := KO.out.lt
 have zO := KO.out.frozen
 have hRO : ¬ w.heap.size + 1 = w1.heap.size := by omega
 have hRO' : ¬ w1.heap.size = w.heap.size + 1 := by omega
 have HRO : Hid (¬ w.heap.size + 1 = w1.heap.size ∧ ¬ w1.heap.size = w.heap.size + 1) := zq ⟨hRO, hRO'⟩
 have hle1 := HFA.out.le
 have hle2 := HFB.out.le
 have hle3 := HFC.out.le
 have hle4 := HFD.out.le
 have hcc1 := HFA.out.cap
 have hcc2 := HFB.out.cap
 have hcc3 := HFC.out.cap
 have hcc4 := HFD.out.cap
 by_cases hz : z2 = 0
 ·have hb0 : (z2 == 0) = true := by simp [hz]
  clear hz
  go_wp2_with fail
  refine name_calls ?_; intro v3 hv3
  have X3 : Hid (Chg (0) (0) w2 v3) := zx hv3
  have t3 := X3.out.size
  have Ev3 : Hid (Chg g (g + 1) w v3) := zq (Ew2.out.step X3.out (by omega))
  clear qR0 qR1 qR2 qR3 qR4 qR5 qR6 qR7 qR8 jR zR
  clear qO0 qO1 qO2 qO3 qO4 qO5 qO6 qO7 qO8 jO zO
  replace KR := zq (KR.out.chg X3.out (by omega))
  replace KO := zq (KO.out.chg X3.out (by omega))
  replace HFA := zq (HFA.out.chg X3.out WHFA.out (by omega))
  replace HFB := zq (HFB.out.chg X3.out WHFB.out (by omega))
  replace HFC := zq (HFC.out.chg X3.out WHFC.out (by omega))
  replace HFD := zq (HFD.out.chg X3.out WHFD.out (by omega))
  replace HRD2 := zq (HRD2.out.chg X3.out (by omega))
  have L3 : Hid (Rd v3 (some ⟨w2.heap.size, 0, none⟩) ([9, -1, 1] : List Int)) := zq (by rw [hv3]; repeat' (first | exact Rd.lits _ _ _ | exact Rd.lits_at _ _ _ (by simp) | with_reducible refine Rd.alloc ?_ _))
  clear hv3
  refine (num_c g (p + 1) _ 0 _ [9, -1, 1] _ HRD2.out L3.out (by simp) (by simp) (by omega) (by omega)).mono ?_; rintro r w3 ⟨f3, rfl, hhf3, hrd3, hb3⟩
  have Y3 : Hid (Chg (g) (g + 1) v3 w3) := zq (Chg.of_grown hb3 (fun b hb => by injection hb with hb; omega))
  have s3 := Y3.out.size
  have Ew3 : Hid (Chg g (g + 1) w w3) := zq (Ev3.out.step Y3.out (by omega))
  clear hb3
  replace KR := zq (KR.out.chg Y3.out (by omega))
  replace KO := zq (KO.out.chg Y3.out (by omega))
  replace HFA := zq (HFA.out.chg Y3.out WHFA.out (by omega))
  replace HFB := zq (HFB.out.chg Y3.out WHFB.out (by omega))
  replace HFC := zq (HFC.out.chg Y3.out WHFC.out (by omega))
  replace HFD := zq (HFD.out.chg Y3.out WHFD.out (by omega))
  clear HRD2
  have HRD3 := zq hrd3; clear hrd3
  have HHF3 := zq hhf3; clear hhf3
  obtain ⟨qR0, qR1, qR2, qR3, qR4, qR5, qR6, qR7, qR8⟩ := KR.out.c9
  have jR := KR.out.lt
  have zR := KR.out.frozen
  obtain ⟨qO0, qO1, qO2, qO3, qO4, qO5, qO6, qO7, qO8⟩ := KO.out.c9
  have jO := KO.out.lt
  have zO := KO.out.frozen
  go_wp2
  exact bodyPost_ret (v := .agg #[.slice (a1 : MA).b (⟨m.table, m.cache, m.tags, f3⟩ : MachD).table.buckets.length (a1 : MA).bc, .slice (a1 : MA).f (⟨m.table, m.cache, m.tags, f3⟩ : MachD).table.frames.length (a1 : MA).fc, .slice (a1 : MA).l (⟨m.table, m.cache, m.tags, f3⟩ : MachD).cache.lines.length (a1 : MA).lc, .int .i64 (⟨m.table, m.cache, m.tags, f3⟩ : MachD).cache.hand, .int .i64 (⟨m.table, m.cache, m.tags, f3⟩ : MachD).tags.count, .int .i64 (⟨m.table, m.cache, m.tags, f3⟩ : MachD).tags.next, .int .i64 (⟨m.table, m.cache, m.tags, f3⟩ : MachD).tags.round, .slice (a1 : MA).o (⟨m.table, m.cache, m.tags, f3⟩ : MachD).tags.owns.length (a1 : MA).oc, .int .i64 (⟨m.table, m.cache, m.tags, f3⟩ : MachD).space]) (by simp [results, Tryz.results39, go_sem, *]) rfl
   ⟨⟨m.table, m.cache, m.tags, f3⟩, a1, p + 1 + 1, rfl, ⟨by have := HM.out.b; show m.table.buckets.length ≤ _; omega, by have := HM.out.f; show m.table.frames.length ≤ _; omega, HM.out.l, by have := HM.out.o; show m.tags.owns.length ≤ _; omega, HM.out.z⟩, ⟨(Fr.mono (zp HFA.out WHFA.out) (by omega)), (Fr.mono (zp HFB.out WHFB.out) (by omega)), (Fr.mono (zp HFC.out WHFC.out) (by omega)), (Fr.mono (zp HFD.out WHFD.out) (by omega))⟩, Rdr.chg (lo := w.heap.size + 1) (hi := w1.heap.size + 1) HRD3.out (by with_reducible repeat' (first | exact Chg.refl _ _ w3 | refine Chg.alloc ?_ _ | refine Chg.drew ?_ | refine Chg.set ?_ (by omega) _)) (by omega), by omega, Chg.grown (zc Ew3.out)⟩
 have hb0 : (z2 == 0) = false := by simp [hz]
 clear hz
 by_cases hz : z2 = 1
 ·have hb1 : (z2 == 1) = true := by simp [hz]
  clear hz
  go_wp2_with fail
  refine name_calls ?_; intro v3 hv3
  have X3 : Hid (Chg (0) (0) w2 v3) := zx hv3
  have t3 := X3.out.size
  have Ev3 : Hid (Chg g (g + 1) w v3) := zq (Ew2.out.step X3.out (by omega))
  clear qR0 qR1 qR2 qR3 qR4 qR5 qR6 qR7 qR8 jR zR
  clear qO0 qO1 qO2 qO3 qO4 qO5 qO6 qO7 qO8 jO zO
  replace KR := zq (KR.out.chg X3.out (by omega))
  replace KO := zq (KO.out.chg X3.out (by omega))
  replace HFA := zq (HFA.out.chg X3.out WHFA.out (by omega))
  replace HFB := zq (HFB.out.chg X3.out WHFB.out (by omega))
  replace HFC := zq (HFC.out.chg X3.out WHFC.out (by omega))
  replace HFD := zq (HFD.out.chg X3.out WHFD.out (by omega))
  replace HRD2 := zq (HRD2.out.chg X3.out (by omega))
  clear hv3
  refine (l4Wrong_c g (p + 1) m.cache a1.l a1.lc _ HRD2.out (by omega) n3 HFC.out.rd hle3 hcc3).mono ?_; rintro r w3 ⟨t3, A3, c3, p3, rfl, ht3, hf3, hrd3, hp3, hb3⟩
  have Y3 : Hid (Chg (g) (g + 1) v3 w3) := zq (Chg.of_grown hb3 (fun b hb => by injection hb with hb; omega))
  have s3 := Y3.out.size
  have Ew3 : Hid (Chg g (g + 1) w w3) := zq (Ev3.out.step Y3.out (by omega))
  clear hb3
  replace KR := zq (KR.out.chg Y3.out (by omega))
  replace KO := zq (KO.out.chg Y3.out (by omega))
  replace HFA := zq (HFA.out.chg Y3.out WHFA.out (by omega))
  replace HFB := zq (HFB.out.chg Y3.out WHFB.out (by omega))
  replace HFC := zq (HFC.out.chg Y3.out WHFC.out (by omega))
  replace HFD := zq (HFD.out.chg Y3.out WHFD.out (by omega))
  clear HRD2
  have HF3 := zq hf3; clear hf3
  have WHF3 := zq HF3.out.row
  have HRD3 := zq hrd3; clear hrd3
  obtain ⟨qR0, qR1, qR2, qR3, qR4, qR5, qR6, qR7, qR8⟩ := KR.out.c9
  have jR := KR.out.lt
  have zR := KR.out.frozen
  obtain ⟨qO0, qO1, qO2, qO3, qO4, qO5, qO6, qO7, qO8⟩ := KO.out.c9
  have jO := KO.out.lt
  have zO := KO.out.frozen
  have hle5 := HF3.out.le
  have hcc5 := HF3.out.cap
  go_wp2_with fail
  refine name_calls ?_; intro v4 hv4
  have X4 : Hid (Chg (0) (0) w3 v4) := zx hv4
  have t4 := X4.out.size
  have Ev4 : Hid (Chg g (g + 1) w v4) := zq (Ew3.out.step X4.out (by omega))
  clear qR0 qR1 qR2 qR3 qR4 qR5 qR6 qR7 qR8 jR zR
  clear qO0 qO1 qO2 qO3 qO4 qO5 qO6 qO7 qO8 jO zO
  replace KR := zq (KR.out.chg X4.out (by omega))
  replace KO := zq (KO.out.chg X4.out (by omega))
  replace HFA := zq (HFA.out.chg X4.out WHFA.out (by omega))
  replace HFB := zq (HFB.out.chg X4.out WHFB.out (by omega))
  replace HFC := zq (HFC.out.chg X4.out WHFC.out (by omega))
  replace HFD := zq (HFD.out.chg X4.out WHFD.out (by omega))
  replace HF3 := zq (HF3.out.chg X4.out WHF3.out (by omega))
  replace HRD3 := zq (HRD3.out.chg X4.out (by omega))
  clear hv4
  refine (l4Wrong_c g p3 t3 A3 c3 _ HRD3.out (by omega) ht3 HF3.out.rd hle5 hcc5).mono ?_; rintro r w4 ⟨t4, A4, c4, p4, rfl, ht4, hf4, hrd4, hp4, hb4⟩
  have Y4 : Hid (Chg (g) (g + 1) v4 w4) := zq (Chg.of_grown hb4 (fun b hb => by injection hb with hb; omega))
  have s4 := Y4.out.size
  have Ew4 : Hid (Chg g (g + 1) w w4) := zq (Ev4.out.step Y4.out (by omega))
  clear hb4
  replace KR := zq (KR.out.chg Y4.out (by omega))
  replace KO := zq (KO.out.chg Y4.out (by omega))
  replace HFA := zq (HFA.out.chg Y4.out WHFA.out (by omega))
  replace HFB := zq (HFB.out.chg Y4.out WHFB.out (by omega))
  replace HFC := zq (HFC.out.chg Y4.out WHFC.out (by omega))
  replace HFD := zq (HFD.out.chg Y4.out WHFD.out (by omega))
  replace HF3 := zq (HF3.out.chg Y4.out WHF3.out (by omega))
  clear HRD3
  have HF4 := zq hf4; clear hf4
  have WHF4 := zq HF4.out.row
  have HRD4 := zq hrd4; clear hrd4
  obtain ⟨qR0, qR1, qR2, qR3, qR4, qR5, qR6, qR7, qR8⟩ := KR.out.c9
  have jR := KR.out.lt
  have zR := KR.out.frozen
  obtain ⟨qO0, qO1, qO2, qO3, qO4, qO5, qO6, qO7, qO8⟩ := KO.out.c9
  have jO := KO.out.lt
  have zO := KO.out.frozen
  go_wp2
  exact bodyPost_ret (v := .agg #[.slice (⟨a1.b, a1.bc, a1.f, a1.fc, A4, c4, a1.o, a1.oc⟩ : MA).b (⟨m.table, t4, m.tags, m.space⟩ : MachD).table.buckets.length (⟨a1.b, a1.bc, a1.f, a1.fc, A4, c4, a1.o, a1.oc⟩ : MA).bc, .slice (⟨a1.b, a1.bc, a1.f, a1.fc, A4, c4, a1.o, a1.oc⟩ : MA).f (⟨m.table, t4, m.tags, m.space⟩ : MachD).table.frames.length (⟨a1.b, a1.bc, a1.f, a1.fc, A4, c4, a1.o, a1.oc⟩ : MA).fc, .slice (⟨a1.b, a1.bc, a1.f, a1.fc, A4, c4, a1.o, a1.oc⟩ : MA).l (⟨m.table, t4, m.tags, m.space⟩ : MachD).cache.lines.length (⟨a1.b, a1.bc, a1.f, a1.fc, A4, c4, a1.o, a1.oc⟩ : MA).lc, .int .i64 (⟨m.table, t4, m.tags, m.space⟩ : MachD).cache.hand, .int .i64 (⟨m.table, t4, m.tags, m.space⟩ : MachD).tags.count, .int .i64 (⟨m.table, t4, m.tags, m.space⟩ : MachD).tags.next, .int .i64 (⟨m.table, t4, m.tags, m.space⟩ : MachD).tags.round, .slice (⟨a1.b, a1.bc, a1.f, a1.fc, A4, c4, a1.o, a1.oc⟩ : MA).o (⟨m.table, t4, m.tags, m.space⟩ : MachD).tags.owns.length (⟨a1.b, a1.bc, a1.f, a1.fc, A4, c4, a1.o, a1.oc⟩ : MA).oc, .int .i64 (⟨m.table, t4, m.tags, m.space⟩ : MachD).space]) (by simp [results, Tryz.results39, go_sem, *]) rfl
   ⟨⟨m.table, t4, m.tags, m.space⟩, ⟨a1.b, a1.bc, a1.f, a1.fc, A4, c4, a1.o, a1.oc⟩, p4, rfl, ⟨by have := HM.out.b; show m.table.buckets.length ≤ _; omega, by have := HM.out.f; show m.table.frames.length ≤ _; omega, ht4, by have := HM.out.o; show m.tags.owns.length ≤ _; omega, HM.out.z⟩, ⟨(Fr.mono (zp HFA.out WHFA.out) (by omega)), (Fr.mono (zp HFB.out WHFB.out) (by omega)), (Fr.mono (zp HF4.out WHF4.out) (by omega)), (Fr.mono (zp HFD.out WHFD.out) (by omega))⟩, Rdr.chg (lo := w.heap.size + 1) (hi := w1.heap.size + 1) HRD4.out (by with_reducible repeat' (first | exact Chg.refl _ _ w4 | refine Chg.alloc ?_ _ | refine Chg.drew ?_ | refine Chg.set ?_ (by omega) _)) (by omega), by omega, Chg.grown (zc Ew4.out)⟩
 have hb1 : (z2 == 1) = false := by simp [hz]
 clear hz
 by_cases hz : z2 = 2
 ·have hb2 : (z2 == 2) = true := by simp [hz]
  clear hz
  go_wp2_with fail
  refine name_calls ?_; intro v3 hv3
  have X3 : Hid (Chg (0) (0) w2 v3) := zx hv3
  have t3 := X3.out.size
  have Ev3 : Hid (Chg g (g + 1) w v3) := zq (Ew2.out.step X3.out (by omega))
  clear qR0 qR1 qR2 qR3 qR4 qR5 qR6 qR7 qR8 jR zR
  clear qO0 qO1 qO2 qO3 qO4 qO5 qO6 qO7 qO8 jO zO
  replace KR := zq (KR.out.chg X3.out (by omega))
  replace KO := zq (KO.out.chg X3.out (by omega))
  replace HFA := zq (HFA.out.chg X3.out WHFA.out (by omega))
  replace HFB := zq (HFB.out.chg X3.out WHFB.out (by omega))
  replace HFC := zq (HFC.out.chg X3.out WHFC.out (by omega))
  replace HFD := zq (HFD.out.chg X3.out WHFD.out (by omega))
  replace HRD2 := zq (HRD2.out.chg X3.out (by omega))
  clear hv3
  refine (l3Wrong_c g (p + 1) m.table a1.b a1.bc a1.f a1.fc _ HRD2.out (by omega) HFA.out.rd HFB.out.rd (by omega) (by omega) HM.out.z hle1 hle2 hcc1 hcc2).mono ?_; rintro r w3 ⟨t3, A3, c3, B3, d3, p3, rfl, hq3, hm3, hz3, hf3, hf3b, hrd3, hp3, hb3⟩
  have Y3 : Hid (Chg (g) (g + 1) v3 w3) := zq (Chg.of_grown hb3 (fun b hb => by injection hb with hb; omega))
  have s3 := Y3.out.size
  have Ew3 : Hid (Chg g (g + 1) w w3) := zq (Ev3.out.step Y3.out (by omega))
  clear hb3
  replace KR := zq (KR.out.chg Y3.out (by omega))
  replace KO := zq (KO.out.chg Y3.out (by omega))
  replace HFA := zq (HFA.out.chg Y3.out WHFA.out (by omega))
  replace HFB := zq (HFB.out.chg Y3.out WHFB.out (by omega))
  replace HFC := zq (HFC.out.chg Y3.out WHFC.out (by omega))
  replace HFD := zq (HFD.out.chg Y3.out WHFD.out (by omega))
  clear HRD2
  have HF3 := zq hf3; clear hf3
  have WHF3 := zq HF3.out.row
  have HF3B := zq hf3b; clear hf3b
  have WHF3B := zq HF3B.out.row
  have HRD3 := zq hrd3; clear hrd3
  obtain ⟨qR0, qR1, qR2, qR3, qR4, qR5, qR6, qR7, qR8⟩ := KR.out.c9
  have jR := KR.out.lt
  have zR := KR.out.frozen
  obtain ⟨qO0, qO1, qO2, qO3, qO4, qO5, qO6, qO7, qO8⟩ := KO.out.c9
  have jO := KO.out.lt
  have zO := KO.out.frozen
  have HZ3 := zq hz3
  have hle5 := HF3.out.le
  have hcc5 := HF3.out.cap
  have hle6 := HF3B.out.le
  have hcc6 := HF3B.out.cap
  clear hz3
  go_wp2_with fail
  refine name_calls ?_; intro v4 hv4
  have X4 : Hid (Chg (0) (0) w3 v4) := zx hv4
  have t4 := X4.out.size
  have Ev4 : Hid (Chg g (g + 1) w v4) := zq (Ew3.out.step X4.out (by omega))
  clear qR0 qR1 qR2 qR3 qR4 qR5 qR6 qR7 qR8 jR zR
  clear qO0 qO1 qO2 qO3 qO4 qO5 qO6 qO7 qO8 jO zO
  replace KR := zq (KR.out.chg X4.out (by omega))
  replace KO := zq (KO.out.chg X4.out (by omega))
  replace HFA := zq (HFA.out.chg X4.out WHFA.out (by omega))
  replace HFB := zq (HFB.out.chg X4.out WHFB.out (by omega))
  replace HFC := zq (HFC.out.chg X4.out WHFC.out (by omega))
  replace HFD := zq (HFD.out.chg X4.out WHFD.out (by omega))
  replace HF3 := zq (HF3.out.chg X4.out WHF3.out (by omega))
  replace HF3B := zq (HF3B.out.chg X4.out WHF3B.out (by omega))
  replace HRD3 := zq (HRD3.out.chg X4.out (by omega))
  clear hv4
  refine (l3Wrong_c g p3 t3 A3 c3 B3 d3 _ HRD3.out (by omega) HF3.out.rd HF3B.out.rd (by omega) (by omega) HZ3.out hle5 hle6 hcc5 hcc6).mono ?_; rintro r w4 ⟨t4, A4, c4, B4, d4, p4, rfl, hq4, hm4, hz4, hf4, hf4b, hrd4, hp4, hb4⟩
  have Y4 : Hid (Chg (g) (g + 1) v4 w4) := zq (Chg.of_grown hb4 (fun b hb => by injection hb with hb; omega))
  have s4 := Y4.out.size
  have Ew4 : Hid (Chg g (g + 1) w w4) := zq (Ev4.out.step Y4.out (by omega))
  clear hb4
  replace KR := zq (KR.out.chg Y4.out (by omega))
  replace KO := zq (KO.out.chg Y4.out (by omega))
  replace HFA := zq (HFA.out.chg Y4.out WHFA.out (by omega))
  replace HFB := zq (HFB.out.chg Y4.out WHFB.out (by omega))
  replace HFC := zq (HFC.out.chg Y4.out WHFC.out (by omega))
  replace HFD := zq (HFD.out.chg Y4.out WHFD.out (by omega))
  replace HF3 := zq (HF3.out.chg Y4.out WHF3.out (by omega))
  replace HF3B := zq (HF3B.out.chg Y4.out WHF3B.out (by omega))
  clear HRD3
  have HF4 := zq hf4; clear hf4
  have WHF4 := zq HF4.out.row
  have HF4B := zq hf4b; clear hf4b
  have WHF4B := zq HF4B.out.row
  have HRD4 := zq hrd4; clear hrd4
  obtain ⟨qR0, qR1, qR2, qR3, qR4, qR5, qR6, qR7, qR8⟩ := KR.out.c9
  have jR := KR.out.lt
  have zR := KR.out.frozen
  obtain ⟨qO0, qO1, qO2, qO3, qO4, qO5, qO6, qO7, qO8⟩ := KO.out.c9
  have jO := KO.out.lt
  have zO := KO.out.frozen
  have HZ4 := zq hz4
  clear hz4
  go_wp2
  exact bodyPost_ret (v := .agg #[.slice (⟨A4, c4, B4, d4, a1.l, a1.lc, a1.o, a1.oc⟩ : MA).b (⟨t4, m.cache, m.tags, m.space⟩ : MachD).table.buckets.length (⟨A4, c4, B4, d4, a1.l, a1.lc, a1.o, a1.oc⟩ : MA).bc, .slice (⟨A4, c4, B4, d4, a1.l, a1.lc, a1.o, a1.oc⟩ : MA).f (⟨t4, m.cache, m.tags, m.space⟩ : MachD).table.frames.length (⟨A4, c4, B4, d4, a1.l, a1.lc, a1.o, a1.oc⟩ : MA).fc, .slice (⟨A4, c4, B4, d4, a1.l, a1.lc, a1.o, a1.oc⟩ : MA).l (⟨t4, m.cache, m.tags, m.space⟩ : MachD).cache.lines.length (⟨A4, c4, B4, d4, a1.l, a1.lc, a1.o, a1.oc⟩ : MA).lc, .int .i64 (⟨t4, m.cache, m.tags, m.space⟩ : MachD).cache.hand, .int .i64 (⟨t4, m.cache, m.tags, m.space⟩ : MachD).tags.count, .int .i64 (⟨t4, m.cache, m.tags, m.space⟩ : MachD).tags.next, .int .i64 (⟨t4, m.cache, m.tags, m.space⟩ : MachD).tags.round, .slice (⟨A4, c4, B4, d4, a1.l, a1.lc, a1.o, a1.oc⟩ : MA).o (⟨t4, m.cache, m.tags, m.space⟩ : MachD).tags.owns.length (⟨A4, c4, B4, d4, a1.l, a1.lc, a1.o, a1.oc⟩ : MA).oc, .int .i64 (⟨t4, m.cache, m.tags, m.space⟩ : MachD).space]) (by simp [results, Tryz.results39, go_sem, *]) rfl
   ⟨⟨t4, m.cache, m.tags, m.space⟩, ⟨A4, c4, B4, d4, a1.l, a1.lc, a1.o, a1.oc⟩, p4, rfl, ⟨by show t4.buckets.length ≤ _; omega, by show t4.frames.length ≤ _; omega, HM.out.l, by have := HM.out.o; show m.tags.owns.length ≤ _; omega, HZ4.out⟩, ⟨(Fr.mono (zp HF4.out WHF4.out) (by omega)), (Fr.mono (zp HF4B.out WHF4B.out) (by omega)), (Fr.mono (zp HFC.out WHFC.out) (by omega)), (Fr.mono (zp HFD.out WHFD.out) (by omega))⟩, Rdr.chg (lo := w.heap.size + 1) (hi := w1.heap.size + 1) HRD4.out (by with_reducible repeat' (first | exact Chg.refl _ _ w4 | refine Chg.alloc ?_ _ | refine Chg.drew ?_ | refine Chg.set ?_ (by omega) _)) (by omega), by omega, Chg.grown (zc Ew4.out)⟩
 have hb2 : (z2 == 2) = false := by simp [hz]
 clear hz
 by_cases hz : z2 = 3
 ·have hb3 : (z2 == 3) = true := by simp [hz]
  clear hz
  go_wp2_with fail
  refine name_calls ?_; intro v3 hv3
  have X3 : Hid (Chg (0) (0) w2 v3) := zx hv3
  have t3 := X3.out.size
  have Ev3 : Hid (Chg g (g + 1) w v3) := zq (Ew2.out.step X3.out (by omega))
  clear qR0 qR1 qR2 qR3 qR4 qR5 qR6 qR7 qR8 jR zR
  clear qO0 qO1 qO2 qO3 qO4 qO5 qO6 qO7 qO8 jO zO
  replace KR := zq (KR.out.chg X3.out (by omega))
  replace KO := zq (KO.out.chg X3.out (by omega))
  replace HFA := zq (HFA.out.chg X3.out WHFA.out (by omega))
  replace HFB := zq (HFB.out.chg X3.out WHFB.out (by omega))
  replace HFC := zq (HFC.out.chg X3.out WHFC.out (by omega))
  replace HFD := zq (HFD.out.chg X3.out WHFD.out (by omega))
  replace HRD2 := zq (HRD2.out.chg X3.out (by omega))
  clear hv3
  refine (l5Wrong_c g (p + 1) m.tags a1.o a1.oc _ HRD2.out (by omega) HFD.out.rd (by omega) hle4 hcc4).mono ?_; rintro r w3 ⟨t3, A3, c3, p3, rfl, ht3, hf3, hrd3, hp3, hb3⟩
  have Y3 : Hid (Chg (g) (g + 1) v3 w3) := zq (Chg.of_grown hb3 (fun b hb => by injection hb with hb; omega))
  have s3 := Y3.out.size
  have Ew3 : Hid (Chg g (g + 1) w w3) := zq (Ev3.out.step Y3.out (by omega))
  clear hb3
  replace KR := zq (KR.out.chg Y3.out (by omega))
  replace KO := zq (KO.out.chg Y3.out (by omega))
  replace HFA := zq (HFA.out.chg Y3.out WHFA.out (by omega))
  replace HFB := zq (HFB.out.chg Y3.out WHFB.out (by omega))
  replace HFC := zq (HFC.out.chg Y3.out WHFC.out (by omega))
  replace HFD := zq (HFD.out.chg Y3.out WHFD.out (by omega))
  clear HRD2
  have HF3 := zq hf3; clear hf3
  have WHF3 := zq HF3.out.row
  have HRD3 := zq hrd3; clear hrd3
  obtain ⟨qR0, qR1, qR2, qR3, qR4, qR5, qR6, qR7, qR8⟩ := KR.out.c9
  have jR := KR.out.lt
  have zR := KR.out.frozen
  obtain ⟨qO0, qO1, qO2, qO3, qO4, qO5, qO6, qO7, qO8⟩ := KO.out.c9
  have jO := KO.out.lt
  have zO := KO.out.frozen
  have hle5 := HF3.out.le
  have hcc5 := HF3.out.cap
  go_wp2_with fail
  refine name_calls ?_; intro v4 hv4
  have X4 : Hid (Chg (0) (0) w3 v4) := zx hv4
  have t4 := X4.out.size
  have Ev4 : Hid (Chg g (g + 1) w v4) := zq (Ew3.out.step X4.out (by omega))
  clear qR0 qR1 qR2 qR3 qR4 qR5 qR6 qR7 qR8 jR zR
  clear qO0 qO1 qO2 qO3 qO4 qO5 qO6 qO7 qO8 jO zO
  replace KR := zq (KR.out.chg X4.out (by omega))
  replace KO := zq (KO.out.chg X4.out (by omega))
  replace HFA := zq (HFA.out.chg X4.out WHFA.out (by omega))
  replace HFB := zq (HFB.out.chg X4.out WHFB.out (by omega))
  replace HFC := zq (HFC.out.chg X4.out WHFC.out (by omega))
  replace HFD := zq (HFD.out.chg X4.out WHFD.out (by omega))
  replace HF3 := zq (HF3.out.chg X4.out WHF3.out (by omega))
  replace HRD3 := zq (HRD3.out.chg X4.out (by omega))
  clear hv4
  refine (l5Wrong_c g p3 t3 A3 c3 _ HRD3.out (by omega) HF3.out.rd (by omega) hle5 hcc5).mono ?_; rintro r w4 ⟨t4, A4, c4, p4, rfl, ht4, hf4, hrd4, hp4, hb4⟩
  have Y4 : Hid (Chg (g) (g + 1) v4 w4) := zq (Chg.of_grown hb4 (fun b hb => by injection hb with hb; omega))
  have s4 := Y4.out.size
  have Ew4 : Hid (Chg g (g + 1) w w4) := zq (Ev4.out.step Y4.out (by omega))
  clear hb4
  replace KR := zq (KR.out.chg Y4.out (by omega))
  replace KO := zq (KO.out.chg Y4.out (by omega))
  replace HFA := zq (HFA.out.chg Y4.out WHFA.out (by omega))
  replace HFB := zq (HFB.out.chg Y4.out WHFB.out (by omega))
  replace HFC := zq (HFC.out.chg Y4.out WHFC.out (by omega))
  replace HFD := zq (HFD.out.chg Y4.out WHFD.out (by omega))
  replace HF3 := zq (HF3.out.chg Y4.out WHF3.out (by omega))
  clear HRD3
  have HF4 := zq hf4; clear hf4
  have WHF4 := zq HF4.out.row
  have HRD4 := zq hrd4; clear hrd4
  obtain ⟨qR0, qR1, qR2, qR3, qR4, qR5, qR6, qR7, qR8⟩ := KR.out.c9
  have jR := KR.out.lt
  have zR := KR.out.frozen
  obtain ⟨qO0, qO1, qO2, qO3, qO4, qO5, qO6, qO7, qO8⟩ := KO.out.c9
  have jO := KO.out.lt
  have zO := KO.out.frozen
  go_wp2
  exact bodyPost_ret (v := .agg #[.slice (⟨a1.b, a1.bc, a1.f, a1.fc, a1.l, a1.lc, A4, c4⟩ : MA).b (⟨m.table, m.cache, t4, m.space⟩ : MachD).table.buckets.length (⟨a1.b, a1.bc, a1.f, a1.fc, a1.l, a1.lc, A4, c4⟩ : MA).bc, .slice (⟨a1.b, a1.bc, a1.f, a1.fc, a1.l, a1.lc, A4, c4⟩ : MA).f (⟨m.table, m.cache, t4, m.space⟩ : MachD).table.frames.length (⟨a1.b, a1.bc, a1.f, a1.fc, a1.l, a1.lc, A4, c4⟩ : MA).fc, .slice (⟨a1.b, a1.bc, a1.f, a1.fc, a1.l, a1.lc, A4, c4⟩ : MA).l (⟨m.table, m.cache, t4, m.space⟩ : MachD).cache.lines.length (⟨a1.b, a1.bc, a1.f, a1.fc, a1.l, a1.lc, A4, c4⟩ : MA).lc, .int .i64 (⟨m.table, m.cache, t4, m.space⟩ : MachD).cache.hand, .int .i64 (⟨m.table, m.cache, t4, m.space⟩ : MachD).tags.count, .int .i64 (⟨m.table, m.cache, t4, m.space⟩ : MachD).tags.next, .int .i64 (⟨m.table, m.cache, t4, m.space⟩ : MachD).tags.round, .slice (⟨a1.b, a1.bc, a1.f, a1.fc, a1.l, a1.lc, A4, c4⟩ : MA).o (⟨m.table, m.cache, t4, m.space⟩ : MachD).tags.owns.length (⟨a1.b, a1.bc, a1.f, a1.fc, a1.l, a1.lc, A4, c4⟩ : MA).oc, .int .i64 (⟨m.table, m.cache, t4, m.space⟩ : MachD).space]) (by simp [results, Tryz.results39, go_sem, *]) rfl
   ⟨⟨m.table, m.cache, t4, m.space⟩, ⟨a1.b, a1.bc, a1.f, a1.fc, a1.l, a1.lc, A4, c4⟩, p4, rfl, ⟨by have := HM.out.b; show m.table.buckets.length ≤ _; omega, by have := HM.out.f; show m.table.frames.length ≤ _; omega, HM.out.l, by show t4.owns.length ≤ _; omega, HM.out.z⟩, ⟨(Fr.mono (zp HFA.out WHFA.out) (by omega)), (Fr.mono (zp HFB.out WHFB.out) (by omega)), (Fr.mono (zp HFC.out WHFC.out) (by omega)), (Fr.mono (zp HF4.out WHF4.out) (by omega))⟩, Rdr.chg (lo := w.heap.size + 1) (hi := w1.heap.size + 1) HRD4.out (by with_reducible repeat' (first | exact Chg.refl _ _ w4 | refine Chg.alloc ?_ _ | refine Chg.drew ?_ | refine Chg.set ?_ (by omega) _)) (by omega), by omega, Chg.grown (zc Ew4.out)⟩
 have hb3 : (z2 == 3) = false := by simp [hz]
 clear hz
 go_wp2
 exact bodyPost_ret (v := .agg #[.slice (a1 : MA).b (⟨m.table, m.cache, m.tags, m.space⟩ : MachD).table.buckets.length (a1 : MA).bc, .slice (a1 : MA).f (⟨m.table, m.cache, m.tags, m.space⟩ : MachD).table.frames.length (a1 : MA).fc, .slice (a1 : MA).l (⟨m.table, m.cache, m.tags, m.space⟩ : MachD).cache.lines.length (a1 : MA).lc, .int .i64 (⟨m.table, m.cache, m.tags, m.space⟩ : MachD).cache.hand, .int .i64 (⟨m.table, m.cache, m.tags, m.space⟩ : MachD).tags.count, .int .i64 (⟨m.table, m.cache, m.tags, m.space⟩ : MachD).tags.next, .int .i64 (⟨m.table, m.cache, m.tags, m.space⟩ : MachD).tags.round, .slice (a1 : MA).o (⟨m.table, m.cache, m.tags, m.space⟩ : MachD).tags.owns.length (a1 : MA).oc, .int .i64 (⟨m.table, m.cache, m.tags, m.space⟩ : MachD).space]) (by simp [results, Tryz.results39, go_sem, *]) rfl
  ⟨⟨m.table, m.cache, m.tags, m.space⟩, a1, p + 1, rfl, ⟨by have := HM.out.b; show m.table.buckets.length ≤ _; omega, by have := HM.out.f; show m.table.frames.length ≤ _; omega, HM.out.l, by have := HM.out.o; show m.tags.owns.length ≤ _; omega, HM.out.z⟩, ⟨(Fr.mono (zp HFA.out WHFA.out) (by omega)), (Fr.mono (zp HFB.out WHFB.out) (by omega)), (Fr.mono (zp HFC.out WHFC.out) (by omega)), (Fr.mono (zp HFD.out WHFD.out) (by omega))⟩, Rdr.chg (lo := w.heap.size + 1) (hi := w1.heap.size + 1) HRD2.out (by with_reducible repeat' (first | exact Chg.refl _ _ w2 | refine Chg.alloc ?_ _ | refine Chg.drew ?_ | refine Chg.set ?_ (by omega) _)) (by omega), by omega, Chg.grown (zc Ew2.out)⟩
end Go.Proofs.YtbdlpbladpppjaaGreatDoor
