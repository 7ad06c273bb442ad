/- Drawn caches: l4Wrong. -/
import Derived.Test.YtidnefcnojedoaaDb
namespace Go.Proofs.Ytidnefcnojedoaa
open Go.ChangeShapes Go.WideShapes Go.ChangeAt Go.RowKit
open Rec (sz cs)
set_option linter.unusedVariables false
set_option maxRecDepth 100000

set_option maxHeartbeats 16000000 in
theorem l4Wrong_c (g p : Nat) (t : CacheD) (A : Option Addr) (c : Nat) (w : World) (h : Rdr w g p) (hp : p ≤ 900000) (hf : Few t) (hx : Rd w A t.lines) (hc : t.lines.length ≤ c) (hc2 : c ≤ maxLen) :
    Calls Try.prog 25 #[.pointer (some ⟨g, 0, none⟩), .agg #[.slice A t.lines.length c, .int .i64 t.hand]] w (SomeWrong g p w) := by
  have lg := h.lt
  have HR0 := Lib.hid h
  have HX := Lib.hid hx
  have HFW := Lib.hid hf
  have hn8 := hf.1
  have hn : t.lines.length ≤ 1048576 := by omega
  clear h hx hf
  go_enter Try.func25, Try.ntmps25
  go_wp2_with fail
  refine name_calls ?_; intro v1 hv1
  have X1 : Hid (Chg (0) (0) w v1) := Lib.hid (by rw [hv1]; repeat' (first | with_reducible exact Chg.refl _ _ _ | with_reducible refine Chg.alloc ?_ _ | with_reducible refine Chg.drew ?_ | with_reducible refine Chg.set ?_ (by omega) _))
  have t1 : w.heap.size ≤ v1.heap.size := X1.out.size
  have Ev1 : Hid (Chg g (g + 1) w v1) := Lib.hid ((Chg.refl g (g + 1) w).step X1.out (by omega))
  replace HR0 := Lib.hid (HR0.out.chg X1.out (by omega))
  have KX : Hid (Blk v1 (w.heap.size) 33 [.slice A t.lines.length c, .int .i64 t.hand]) := Lib.hid (by rw [hv1]; repeat' (first | with_reducible exact Blk.new_at _ _ _ (by simp) | with_reducible refine Blk.alloc ?_ _ | with_reducible refine Blk.drew ?_ | with_reducible refine Blk.far ?_ (by simp; omega) _))
  have lX : w.heap.size < v1.heap.size := KX.out.lt
  have KR : Hid (Blk v1 (w.heap.size + 1) 33 [.slice none 0 0, .int .i64 0]) := Lib.hid (by rw [hv1]; repeat' (first | with_reducible exact Blk.new_at _ _ _ (by simp) | with_reducible refine Blk.alloc ?_ _ | with_reducible refine Blk.drew ?_ | with_reducible refine Blk.far ?_ (by simp; omega) _))
  have lR : w.heap.size + 1 < v1.heap.size := KR.out.lt
  clear hv1
  refine (l4Copy_c t A c _ (HX.out.chg X1.out (fun _ _ _ => .inr (Nat.zero_le _))) hn hc hc2).mono ?_; rintro r w1 ⟨A1, c1, rfl, hf1, hb1⟩
  have Y1 : Hid (Chg 0 0 v1 w1) := Lib.hid (Chg.of_ex hb1)
  have s1 : v1.heap.size ≤ w1.heap.size := Y1.out.size
  have Ew1 : Hid (Chg g (g + 1) w w1) := Lib.hid (Ev1.out.step Y1.out (by omega))
  clear hb1
  replace KX : Hid (Blk w1 (w.heap.size) 33 [.slice A t.lines.length c, .int .i64 t.hand]) := Lib.hid (KX.out.chg Y1.out (by omega))
  replace KR : Hid (Blk w1 (w.heap.size + 1) 33 [.slice none 0 0, .int .i64 0]) := Lib.hid (KR.out.chg Y1.out (by omega))
  replace HR0 := Lib.hid (HR0.out.chg Y1.out (by omega))
  have HF1 := Lib.hid hf1; clear hf1
  have WHF1 := Lib.hid HF1.out.row
  obtain ⟨qX0, qX1⟩ := KX.out.c2
  have jX := KX.out.lt
  obtain ⟨qR0, qR1⟩ := KR.out.c2
  have jR := KR.out.lt
  have zR := KR.out.frozen
  by_cases h0 : t.lines.length = 0
  · have h0' : ((t.lines.length : Int) == 0) = true := by simp [h0]
    have H0 := Lib.hid h0
    clear h0
    go_wp2
    exact bodyPost_ret (v := .agg #[.slice A1 t.lines.length c1, .int .i64 t.hand]) (by first | (simp [results, Try.results25, go_sem, qR0, qR1]; done) | (simp [results, Try.results25, go_sem, qR0, qR1, jR]; done)) rfl
      ⟨t, A1, c1, p, rfl, HFW.out, Fr.mono (B := v1.heap.size) (by repeat' (first | with_reducible exact HF1.out | with_reducible refine Fr.alloc ?_ _ | with_reducible refine Fr.drew ?_ | with_reducible refine Fr.set_below ?_ (by first | (simp; done) | (simp; omega)) _)) (by omega), Rdr.chg (lo := w.heap.size + 1) (hi := w.heap.size + 2) HR0.out (by repeat' (first | with_reducible exact Chg.refl _ _ w1 | with_reducible refine Chg.alloc ?_ _ | with_reducible refine Chg.drew ?_ | with_reducible refine Chg.set ?_ (by omega) _)) (by omega), by omega, Chg.grown (by repeat' (first | with_reducible exact Ew1.out | with_reducible refine Chg.alloc ?_ _ | with_reducible refine Chg.drew ?_ | with_reducible refine Chg.set ?_ (by omega) _))⟩
  have h0' : ((t.lines.length : Int) == 0) = false := by simp; intro h; rw [h] at h0; simp at h0
  go_wp2_with fail
  refine name_calls ?_; intro v2 hv2
  have X2 : Hid (Chg (0) (0) w1 v2) := Lib.hid (by rw [hv2]; repeat' (first | with_reducible exact Chg.refl _ _ _ | with_reducible refine Chg.alloc ?_ _ | with_reducible refine Chg.drew ?_ | with_reducible refine Chg.set ?_ (by omega) _))
  have t2 : w1.heap.size ≤ v2.heap.size := X2.out.size
  have Ev2 : Hid (Chg g (g + 1) w v2) := Lib.hid (Ew1.out.step X2.out (by omega))
  clear qX0 qX1 jX
  clear qR0 qR1 jR zR
  replace KX : Hid (Blk v2 (w.heap.size) 33 [.slice A t.lines.length c, .int .i64 t.hand]) := Lib.hid (KX.out.chg X2.out (by omega))
  replace KR : Hid (Blk v2 (w.heap.size + 1) 33 [.slice none 0 0, .int .i64 0]) := Lib.hid (KR.out.chg X2.out (by omega))
  replace HF1 := Lib.hid (HF1.out.chg X2.out WHF1.out (by omega))
  replace HR0 := Lib.hid (HR0.out.chg X2.out (by omega))
  have KO : Hid (Blk v2 (w1.heap.size) 33 [.slice A1 t.lines.length c1, .int .i64 t.hand]) := Lib.hid (by rw [hv2]; repeat' (first | with_reducible exact Blk.new_at _ _ _ (by simp) | with_reducible refine Blk.alloc ?_ _ | with_reducible refine Blk.drew ?_ | with_reducible refine Blk.far ?_ (by simp; omega) _))
  have lO : w1.heap.size < v2.heap.size := KO.out.lt
  clear hv2
  refine (pick_c g p t.lines.length _ HR0.out (by omega) (by omega)).mono ?_; rintro r w2 ⟨k2, rfl, hhk2, hrd2, hb2⟩
  have Y2 : Hid (Chg (g) (g + 1) v2 w2) := Lib.hid (Chg.of_grown hb2 (fun b hb => by injection hb with hb; omega))
  have s2 : v2.heap.size ≤ w2.heap.size := Y2.out.size
  have Ew2 : Hid (Chg g (g + 1) w w2) := Lib.hid (Ev2.out.step Y2.out (by omega))
  clear hb2
  replace KX : Hid (Blk w2 (w.heap.size) 33 [.slice A t.lines.length c, .int .i64 t.hand]) := Lib.hid (KX.out.chg Y2.out (by omega))
  replace KR : Hid (Blk w2 (w.heap.size + 1) 33 [.slice none 0 0, .int .i64 0]) := Lib.hid (KR.out.chg Y2.out (by omega))
  replace KO : Hid (Blk w2 (w1.heap.size) 33 [.slice A1 t.lines.length c1, .int .i64 t.hand]) := Lib.hid (KO.out.chg Y2.out (by omega))
  replace HF1 := Lib.hid (HF1.out.chg Y2.out WHF1.out (by omega))
  clear HR0
  have HRD2 := Lib.hid hrd2; clear hrd2
  have HHK2 := Lib.hid hhk2; clear hhk2
  obtain ⟨qX0, qX1⟩ := KX.out.c2
  have jX := KX.out.lt
  obtain ⟨qR0, qR1⟩ := KR.out.c2
  have jR := KR.out.lt
  have zR := KR.out.frozen
  obtain ⟨qO0, qO1⟩ := KO.out.c2
  have jO := KO.out.lt
  obtain ⟨k, rfl⟩ := Int.eq_ofNat_of_zero_le HHK2.out.1
  have hk : k < t.lines.length := by have := HHK2.out.2.1 (by omega); omega
  have hk0 : ¬ ((k : Int) < 0) := by omega
  have hkl : (k : Int) < (t.lines.length : Int) := by omega
  obtain ⟨gr, rest, hA1, hBg, hbk, hrest⟩ := HF1.out.open_ hk
  subst hA1
  have HBK := Lib.hid hbk
  have HREST := Lib.hid hrest
  have hle := HF1.out.le
  have hca := HF1.out.cap
  obtain ⟨x, hxk⟩ : ∃ x, t.lines[k]? = some x := ⟨_, List.getElem?_eq_getElem hk⟩
  have HXK := Lib.hid hxk
  have hgr1 : gr < w1.heap.size := (WHF1.out gr (rowOf_some (by omega))).2
  have hgr2 : w.heap.size + 1 < gr := by omega
  have hgrg : gr ≠ g := by omega
  clear hbk hrest h0 hxk
  clear HF1 WHF1
  go_wp2_with fail
  refine name_calls ?_; intro v3 hv3
  have X3 : Hid (Chg (0) (0) w2 v3) := Lib.hid (by rw [hv3]; repeat' (first | with_reducible exact Chg.refl _ _ _ | with_reducible refine Chg.alloc ?_ _ | with_reducible refine Chg.drew ?_ | with_reducible refine Chg.set ?_ (by omega) _))
  have t3 : w2.heap.size ≤ v3.heap.size := X3.out.size
  have Ev3 : Hid (Chg g (g + 1) w v3) := Lib.hid (Ew2.out.step X3.out (by omega))
  clear qX0 qX1 jX
  clear qR0 qR1 jR zR
  clear qO0 qO1 jO
  replace KX : Hid (Blk v3 (w.heap.size) 33 [.slice A t.lines.length c, .int .i64 t.hand]) := Lib.hid (KX.out.chg X3.out (by omega))
  replace KR : Hid (Blk v3 (w.heap.size + 1) 33 [.slice none 0 0, .int .i64 0]) := Lib.hid (KR.out.chg X3.out (by omega))
  replace KO : Hid (Blk v3 (w1.heap.size) 33 [.slice (some ⟨gr, 0, none⟩) t.lines.length c1, .int .i64 t.hand]) := Lib.hid (KO.out.chg X3.out (by omega))
  replace HRD2 := Lib.hid (HRD2.out.chg X3.out (by omega))
  replace HBK := Lib.hid (HBK.out.chg X3.out (by omega))
  clear hv3
  refine (pick_c g (p + 1) 24 _ HRD2.out (by omega) (by omega)).mono ?_; rintro r w3 ⟨z3, rfl, hhs3, hrd3, hb3⟩
  have Y3 : Hid (Chg (g) (g + 1) v3 w3) := Lib.hid (Chg.of_grown hb3 (fun b hb => by injection hb with hb; omega))
  have s3 : v3.heap.size ≤ w3.heap.size := Y3.out.size
  have Ew3 : Hid (Chg g (g + 1) w w3) := Lib.hid (Ev3.out.step Y3.out (by omega))
  clear hb3
  replace KX : Hid (Blk w3 (w.heap.size) 33 [.slice A t.lines.length c, .int .i64 t.hand]) := Lib.hid (KX.out.chg Y3.out (by omega))
  replace KR : Hid (Blk w3 (w.heap.size + 1) 33 [.slice none 0 0, .int .i64 0]) := Lib.hid (KR.out.chg Y3.out (by omega))
  replace KO : Hid (Blk w3 (w1.heap.size) 33 [.slice (some ⟨gr, 0, none⟩) t.lines.length c1, .int .i64 t.hand]) := Lib.hid (KO.out.chg Y3.out (by omega))
  replace HBK := Lib.hid (HBK.out.chg Y3.out (by omega))
  clear HRD2
  have HRD3 := Lib.hid hrd3; clear hrd3
  have HHS3 := Lib.hid hhs3; clear hhs3
  obtain ⟨qX0, qX1⟩ := KX.out.c2
  have jX := KX.out.lt
  obtain ⟨qR0, qR1⟩ := KR.out.c2
  have jR := KR.out.lt
  have zR := KR.out.frozen
  obtain ⟨qO0, qO1⟩ := KO.out.c2
  have jO := KO.out.lt
  have hs0 := HHS3.out.1
  obtain ⟨d0, d1, d2, d3, d4, d5⟩ := HBK.out.line HXK.out
  have hfz := HBK.out.frozen
  have lgr := Blk.lt HBK.out
  have hOr : ¬ w1.heap.size = gr := by omega
  have hOr' : ¬ gr = w1.heap.size := by omega
  have hRr : ¬ w.heap.size + 1 = gr := by omega
  have hRr' : ¬ gr = w.heap.size + 1 := by omega
  have hRO : ¬ w.heap.size + 1 = w1.heap.size := by omega
  have hRO' : ¬ w1.heap.size = w.heap.size + 1 := by omega
  have zO := KO.out.frozen
  by_cases s0 : z3 = 0
  · subst s0
    go_wp2_with fail
    refine name_calls ?_; intro v4 hv4
    have X4 : Hid (Chg (0) (0) w3 v4) := Lib.hid (by rw [hv4]; repeat' (first | with_reducible exact Chg.refl _ _ _ | with_reducible refine Chg.alloc ?_ _ | with_reducible refine Chg.drew ?_ | with_reducible refine Chg.set ?_ (by omega) _))
    have t4 : w3.heap.size ≤ v4.heap.size := X4.out.size
    have Ev4 : Hid (Chg g (g + 1) w v4) := Lib.hid (Ew3.out.step X4.out (by omega))
    clear qX0 qX1 jX
    clear qR0 qR1 jR zR
    clear qO0 qO1 jO
    replace KX : Hid (Blk v4 (w.heap.size) 33 [.slice A t.lines.length c, .int .i64 t.hand]) := Lib.hid (KX.out.chg X4.out (by omega))
    replace KR : Hid (Blk v4 (w.heap.size + 1) 33 [.slice none 0 0, .int .i64 0]) := Lib.hid (KR.out.chg X4.out (by omega))
    replace KO : Hid (Blk v4 (w1.heap.size) 33 [.slice (some ⟨gr, 0, none⟩) t.lines.length c1, .int .i64 t.hand]) := Lib.hid (KO.out.chg X4.out (by omega))
    replace HBK := Lib.hid (HBK.out.chg X4.out (by omega))
    replace HRD3 := Lib.hid (HRD3.out.chg X4.out (by omega))
    have L4 : Hid (Rd v4 (some ⟨w3.heap.size, 0, none⟩) ([-1, 8, 0] : List Int)) := Lib.hid (by rw [hv4]; repeat' (first | exact Rd.lits _ _ _ | exact Rd.lits_at _ _ _ (by simp) | with_reducible refine Rd.alloc ?_ _))
    clear hv4
    refine (num_c g (p + 2) _ 0 _ [-1, 8, 0] _ HRD3.out L4.out (by simp) (by simp) (by omega) (by omega)).mono ?_; rintro r w4 ⟨h4, rfl, hhh4, hrd4, hb4⟩
    have Y4 : Hid (Chg (g) (g + 1) v4 w4) := Lib.hid (Chg.of_grown hb4 (fun b hb => by injection hb with hb; omega))
    have s4 : v4.heap.size ≤ w4.heap.size := Y4.out.size
    have Ew4 : Hid (Chg g (g + 1) w w4) := Lib.hid (Ev4.out.step Y4.out (by omega))
    clear hb4
    replace KX : Hid (Blk w4 (w.heap.size) 33 [.slice A t.lines.length c, .int .i64 t.hand]) := Lib.hid (KX.out.chg Y4.out (by omega))
    replace KR : Hid (Blk w4 (w.heap.size + 1) 33 [.slice none 0 0, .int .i64 0]) := Lib.hid (KR.out.chg Y4.out (by omega))
    replace KO : Hid (Blk w4 (w1.heap.size) 33 [.slice (some ⟨gr, 0, none⟩) t.lines.length c1, .int .i64 t.hand]) := Lib.hid (KO.out.chg Y4.out (by omega))
    replace HBK := Lib.hid (HBK.out.chg Y4.out (by omega))
    clear HRD3
    have HRD4 := Lib.hid hrd4; clear hrd4
    have HHH4 := Lib.hid hhh4; clear hhh4
    obtain ⟨qX0, qX1⟩ := KX.out.c2
    have jX := KX.out.lt
    obtain ⟨qR0, qR1⟩ := KR.out.c2
    have jR := KR.out.lt
    have zR := KR.out.frozen
    obtain ⟨qO0, qO1⟩ := KO.out.c2
    have jO := KO.out.lt
    have zO := KO.out.frozen
    go_wp2
    exact bodyPost_ret (v := .agg #[.slice (some ⟨gr, 0, none⟩) t.lines.length c1, .int .i64 (h4)]) (by first | (simp [results, Try.results25, go_sem, qR0, qR1]; done) | (simp [results, Try.results25, go_sem, qR0, qR1, qO0, qO1, jR, jO, hRO, hRO']; done)) rfl
          ⟨⟨t.lines, h4⟩, some ⟨gr, 0, none⟩, c1, p + 3, rfl, HFW.out, Fr.close (xs := t.lines) (rest := rest) (by repeat' (first | with_reducible refine Bk.alloc ?_ _ | with_reducible refine Bk.drew ?_ | with_reducible refine Bk.far ?_ (by first | (simp; done) | (simp; omega)) _ | exact HBK.out)) (by omega) (HREST.out) (by first | omega | (simp; omega)) hca, Rdr.chg (lo := w.heap.size + 1) (hi := w1.heap.size + 1) HRD4.out (by repeat' (first | with_reducible exact Chg.refl _ _ w4 | with_reducible refine Chg.alloc ?_ _ | with_reducible refine Chg.drew ?_ | with_reducible refine Chg.set ?_ (by omega) _)) (by omega), by omega, Chg.grown (by repeat' (first | with_reducible exact Ew4.out | with_reducible refine Chg.alloc ?_ _ | with_reducible refine Chg.drew ?_ | with_reducible refine Chg.set ?_ (by omega) _))⟩
  have b0 : (z3 == 0) = false := by simp [s0]
  by_cases s1 : z3 = 1
  · subst s1
    cases hxv : x.valid
    all_goals
      rw [hxv] at d0
      go_wp2_with fail
      go_region
      go_wp2
    · exact bodyPost_ret (v := .agg #[.slice (some ⟨gr, 0, none⟩) t.lines.length c1, .int .i64 (t.hand)]) (by first | (simp [results, Try.results25, go_sem, qR0, qR1]; done) | (simp [results, Try.results25, go_sem, qR0, qR1, qO0, qO1, jR, jO, hRO, hRO']; done)) rfl
          ⟨⟨(t.lines.set k { x with valid := true }), t.hand⟩, some ⟨gr, 0, none⟩, c1, p + 2, by simp, few_set (x := { x with valid := true }) HFW.out (HFW.out.2 k x HXK.out) _, Fr.close (xs := (t.lines.set k { x with valid := true })) (rest := rest) (by repeat' (first | with_reducible refine Bk.alloc ?_ _ | with_reducible refine Bk.drew ?_ | with_reducible refine Bk.far ?_ (by first | (simp; done) | (simp; omega)) _ | exact Bk.set (k := k) (j := 0) (off := k * 6) (u := .bool true) (y := { x with valid := true }) HBK.out HXK.out (by decide) rfl (by simp [sz]))) (by omega) (by rw [List.length_set]; exact HREST.out) (by first | omega | (simp; omega)) hca, Rdr.chg (lo := w.heap.size + 1) (hi := w1.heap.size + 1) HRD3.out (by repeat' (first | with_reducible exact Chg.refl _ _ w3 | with_reducible refine Chg.alloc ?_ _ | with_reducible refine Chg.drew ?_ | with_reducible refine Chg.set ?_ (by omega) _)) (by omega), by omega, Chg.grown (by repeat' (first | with_reducible exact Ew3.out | with_reducible refine Chg.alloc ?_ _ | with_reducible refine Chg.drew ?_ | with_reducible refine Chg.set ?_ (by omega) _))⟩
    · exact bodyPost_ret (v := .agg #[.slice (some ⟨gr, 0, none⟩) t.lines.length c1, .int .i64 (t.hand)]) (by first | (simp [results, Try.results25, go_sem, qR0, qR1]; done) | (simp [results, Try.results25, go_sem, qR0, qR1, qO0, qO1, jR, jO, hRO, hRO']; done)) rfl
          ⟨⟨(t.lines.set k { x with valid := false }), t.hand⟩, some ⟨gr, 0, none⟩, c1, p + 2, by simp, few_set (x := { x with valid := false }) HFW.out (HFW.out.2 k x HXK.out) _, Fr.close (xs := (t.lines.set k { x with valid := false })) (rest := rest) (by repeat' (first | with_reducible refine Bk.alloc ?_ _ | with_reducible refine Bk.drew ?_ | with_reducible refine Bk.far ?_ (by first | (simp; done) | (simp; omega)) _ | exact Bk.set (k := k) (j := 0) (off := k * 6) (u := .bool false) (y := { x with valid := false }) HBK.out HXK.out (by decide) rfl (by simp [sz]))) (by omega) (by rw [List.length_set]; exact HREST.out) (by first | omega | (simp; omega)) hca, Rdr.chg (lo := w.heap.size + 1) (hi := w1.heap.size + 1) HRD3.out (by repeat' (first | with_reducible exact Chg.refl _ _ w3 | with_reducible refine Chg.alloc ?_ _ | with_reducible refine Chg.drew ?_ | with_reducible refine Chg.set ?_ (by omega) _)) (by omega), by omega, Chg.grown (by repeat' (first | with_reducible exact Ew3.out | with_reducible refine Chg.alloc ?_ _ | with_reducible refine Chg.drew ?_ | with_reducible refine Chg.set ?_ (by omega) _))⟩

  have b1 : (z3 == 1) = false := by simp [s1]
  by_cases s2 : z3 = 2
  · subst s2
    have CN : Hid (∀ (b : Nat) (w1 : World), Rdr w1 g (p + 1 + 1) → Rd w1 (some ⟨b, 0, none⟩) ([2, 256, 3] : List Int) → b ≠ g → Calls Try.prog 37 #[.pointer (some ⟨g, 0, none⟩), .slice (some ⟨b, 0, none⟩) 3 3] w1 (Chosen g (p + 1 + 1) [2, 256, 3] w1)) := Lib.hid (fun b w1 h hz hne => num_c g (p + 1 + 1) b 0 3 [2, 256, 3] w1 h hz (by simp) (by simp) (by omega) hne)
    have hneL : w3.heap.size ≠ g := by omega
    have hneR : some gr ≠ some g := fun e => by injection e with e; omega
    have hneO : some w1.heap.size ≠ some g := fun e => by injection e with e; omega
    have hneRt : some (w.heap.size + 1) ≠ some g := fun e => by injection e with e; omega
    clear d0 d1 d2 d3 d4 d5 hfz lgr zO
    go_wp2_with fail
    go_region_held3 (fun w' => (w'.cell? ⟨w1.heap.size, 0, none⟩ = some (.slice (some ⟨gr, 0, none⟩) t.lines.length c1) ∧ w'.cell? ⟨w1.heap.size, 1, none⟩ = some (.int .i64 t.hand))) (first | exact KO.out.c2 | exact (Blk.drew KO.out).c2 | exact ((Blk.drew KO.out).alloc _).c2 | exact hO4.c2 | exact (Blk.far hO4 hOr _).c2 | go_keep) (first | (go_at_call 37; (with_reducible refine (CN.out _ _ ?_ ?_ ?_).mono ?_); (exact (Rdr.drew HRD3.out).alloc _); (exact Rd.lits _ _ _); (exact hneL); rintro r w4 ⟨h4, rfl, hv4, hrd4, hg4⟩; have hO4 := Blk.grown ((Blk.drew KO.out).alloc _) hg4 hneO; have hR4 := Blk.grown ((Blk.drew KR.out).alloc _) hg4 hneRt; have hB4 := Bk.grown (Bk.alloc (Bk.drew HBK.out) _) hg4 hneR; obtain ⟨d0, d1, d2, d3, d4, d5⟩ := Bk.line hB4 HXK.out; have hfz := Bk.frozen hB4; have lgr := Blk.lt hB4; obtain ⟨r0, r1⟩ := hR4.c2; have rfz := hR4.frozen; have rl := hR4.lt; obtain ⟨x0, x1⟩ := hO4.c2; have xl := hO4.lt))
    rename_i hHeld
    clear hHeld
    have Y4 : Chg g (g + 1) w3 w4 := ((Chg.refl g (g + 1) w3).drew.alloc _).trans (Chg.of_grown hg4 (fun b hb => by injection hb with hb; omega))
    have Ew4 : Hid (Chg g (g + 1) w w4) := Lib.hid (Ew3.out.trans Y4)
    have HRD4 := Lib.hid hrd4
    have HB4 := Lib.hid hB4
    have s4 := Y4.size
    have HAP : Hid (Apart { x with page := h4 }) := Lib.hid (by have := hv4; simp at this; unfold Apart; simp only; omega)
    clear hv4 hg4 hrd4 hB4 hO4 hR4
    go_wp2
    exact bodyPost_ret (v := .agg #[.slice (some ⟨gr, 0, none⟩) t.lines.length c1, .int .i64 (t.hand)]) (by first | (simp [results, Try.results25, go_sem, qR0, qR1]; done) | (simp [results, Try.results25, go_sem, qR0, qR1, r0, r1, rl, x0, x1, xl, hRO, hRO']; done)) rfl
          ⟨⟨(t.lines.set k { x with page := h4 }), t.hand⟩, some ⟨gr, 0, none⟩, c1, p + 1 + 1 + 1, by simp, few_set HFW.out HAP.out _, Fr.close (xs := (t.lines.set k { x with page := h4 })) (rest := rest) (by repeat' (first | with_reducible refine Bk.alloc ?_ _ | with_reducible refine Bk.drew ?_ | with_reducible refine Bk.far ?_ (by first | (simp; done) | (simp; omega)) _ | exact Bk.set (k := k) (j := 2) (off := k * 6 + 2) (u := .int .i64 h4) (y := { x with page := h4 }) HB4.out HXK.out (by decide) rfl (by simp [sz]))) (by omega) (by rw [List.length_set]; exact HREST.out) (by first | omega | (simp; omega)) hca, Rdr.chg (lo := w.heap.size + 1) (hi := w1.heap.size + 1) HRD4.out (by repeat' (first | with_reducible exact Chg.refl _ _ w4 | with_reducible refine Chg.alloc ?_ _ | with_reducible refine Chg.drew ?_ | with_reducible refine Chg.set ?_ (by omega) _)) (by omega), by omega, Chg.grown (by repeat' (first | with_reducible exact Ew4.out | with_reducible refine Chg.alloc ?_ _ | with_reducible refine Chg.drew ?_ | with_reducible refine Chg.set ?_ (by omega) _))⟩
  have b2 : (z3 == 2) = false := by simp [s2]
  by_cases s3 : z3 = 3
  · subst s3
    have CN : Hid (∀ (b : Nat) (w1 : World), Rdr w1 g (p + 1 + 1) → Rd w1 (some ⟨b, 0, none⟩) ([8, -2, 0, -1] : List Int) → b ≠ g → Calls Try.prog 37 #[.pointer (some ⟨g, 0, none⟩), .slice (some ⟨b, 0, none⟩) 4 4] w1 (Chosen g (p + 1 + 1) [8, -2, 0, -1] w1)) := Lib.hid (fun b w1 h hz hne => num_c g (p + 1 + 1) b 0 4 [8, -2, 0, -1] w1 h hz (by simp) (by simp) (by omega) hne)
    have hneL : w3.heap.size ≠ g := by omega
    have hneR : some gr ≠ some g := fun e => by injection e with e; omega
    have hneO : some w1.heap.size ≠ some g := fun e => by injection e with e; omega
    have hneRt : some (w.heap.size + 1) ≠ some g := fun e => by injection e with e; omega
    clear d0 d1 d2 d3 d4 d5 hfz lgr zO
    go_wp2_with fail
    go_region_held3 (fun w' => (w'.cell? ⟨w1.heap.size, 0, none⟩ = some (.slice (some ⟨gr, 0, none⟩) t.lines.length c1) ∧ w'.cell? ⟨w1.heap.size, 1, none⟩ = some (.int .i64 t.hand))) (first | exact KO.out.c2 | exact (Blk.drew KO.out).c2 | exact ((Blk.drew KO.out).alloc _).c2 | exact hO4.c2 | exact (Blk.far hO4 hOr _).c2 | go_keep) (first | (go_at_call 37; (with_reducible refine (CN.out _ _ ?_ ?_ ?_).mono ?_); (exact (Rdr.drew HRD3.out).alloc _); (exact Rd.lits _ _ _); (exact hneL); rintro r w4 ⟨h4, rfl, hv4, hrd4, hg4⟩; have hO4 := Blk.grown ((Blk.drew KO.out).alloc _) hg4 hneO; have hR4 := Blk.grown ((Blk.drew KR.out).alloc _) hg4 hneRt; have hB4 := Bk.grown (Bk.alloc (Bk.drew HBK.out) _) hg4 hneR; obtain ⟨d0, d1, d2, d3, d4, d5⟩ := Bk.line hB4 HXK.out; have hfz := Bk.frozen hB4; have lgr := Blk.lt hB4; obtain ⟨r0, r1⟩ := hR4.c2; have rfz := hR4.frozen; have rl := hR4.lt; obtain ⟨x0, x1⟩ := hO4.c2; have xl := hO4.lt))
    rename_i hHeld
    clear hHeld
    have Y4 : Chg g (g + 1) w3 w4 := ((Chg.refl g (g + 1) w3).drew.alloc _).trans (Chg.of_grown hg4 (fun b hb => by injection hb with hb; omega))
    have Ew4 : Hid (Chg g (g + 1) w w4) := Lib.hid (Ew3.out.trans Y4)
    have HRD4 := Lib.hid hrd4
    have HB4 := Lib.hid hB4
    have s4 := Y4.size
    have HAP : Hid (Apart { x with tag := h4 }) := Lib.hid (HFW.out.2 k x HXK.out)
    clear hv4 hg4 hrd4 hB4 hO4 hR4
    go_wp2
    exact bodyPost_ret (v := .agg #[.slice (some ⟨gr, 0, none⟩) t.lines.length c1, .int .i64 (t.hand)]) (by first | (simp [results, Try.results25, go_sem, qR0, qR1]; done) | (simp [results, Try.results25, go_sem, qR0, qR1, r0, r1, rl, x0, x1, xl, hRO, hRO']; done)) rfl
          ⟨⟨(t.lines.set k { x with tag := h4 }), t.hand⟩, some ⟨gr, 0, none⟩, c1, p + 1 + 1 + 1, by simp, few_set HFW.out HAP.out _, Fr.close (xs := (t.lines.set k { x with tag := h4 })) (rest := rest) (by repeat' (first | with_reducible refine Bk.alloc ?_ _ | with_reducible refine Bk.drew ?_ | with_reducible refine Bk.far ?_ (by first | (simp; done) | (simp; omega)) _ | exact Bk.set (k := k) (j := 1) (off := k * 6 + 1) (u := .int .i64 h4) (y := { x with tag := h4 }) HB4.out HXK.out (by decide) rfl (by simp [sz]))) (by omega) (by rw [List.length_set]; exact HREST.out) (by first | omega | (simp; omega)) hca, Rdr.chg (lo := w.heap.size + 1) (hi := w1.heap.size + 1) HRD4.out (by repeat' (first | with_reducible exact Chg.refl _ _ w4 | with_reducible refine Chg.alloc ?_ _ | with_reducible refine Chg.drew ?_ | with_reducible refine Chg.set ?_ (by omega) _)) (by omega), by omega, Chg.grown (by repeat' (first | with_reducible exact Ew4.out | with_reducible refine Chg.alloc ?_ _ | with_reducible refine Chg.drew ?_ | with_reducible refine Chg.set ?_ (by omega) _))⟩
  have b3 : (z3 == 3) = false := by simp [s3]
  by_cases s4 : z3 = 4
  · subst s4
    go_wp2
    exact bodyPost_ret (v := .agg #[.slice (some ⟨w3.heap.size, 0, none⟩) 0 0, .int .i64 t.hand]) (by first | (simp [results, Try.results25, go_sem, qR0, qR1]; done) | (simp [results, Try.results25, go_sem, qR0, qR1, qO0, qO1, jR, jO, hRO, hRO']; done)) rfl
      ⟨⟨[], t.hand⟩, some ⟨w3.heap.size, 0, none⟩, 0, p + 1 + 1, rfl, ⟨by simp, fun i y hy => by simp at hy⟩, ⟨Nat.le_refl _, Nat.zero_le _, .inl rfl⟩, Rdr.chg (lo := w.heap.size + 1) (hi := w1.heap.size + 1) HRD3.out (by repeat' (first | with_reducible exact Chg.refl _ _ w3 | with_reducible refine Chg.alloc ?_ _ | with_reducible refine Chg.drew ?_ | with_reducible refine Chg.set ?_ (by omega) _)) (by omega), by omega, Chg.grown (by repeat' (first | with_reducible exact Ew3.out | with_reducible refine Chg.alloc ?_ _ | with_reducible refine Chg.drew ?_ | with_reducible refine Chg.set ?_ (by omega) _))⟩
  have b4 : (z3 == 4) = false := by simp [s4]
  go_wp2
  exact bodyPost_ret (v := .agg #[.slice (some ⟨gr, 0, none⟩) t.lines.length c1, .int .i64 t.hand]) (by first | (simp [results, Try.results25, go_sem, qR0, qR1]; done) | (simp [results, Try.results25, go_sem, qR0, qR1, qO0, qO1, jR, jO, hRO, hRO']; done)) rfl
    ⟨t, some ⟨gr, 0, none⟩, c1, p + 1 + 1, rfl, HFW.out, Fr.close (xs := t.lines) (rest := rest) (by repeat' (first | with_reducible refine Bk.alloc ?_ _ | with_reducible refine Bk.drew ?_ | with_reducible refine Bk.far ?_ (by first | (simp; done) | (simp; omega)) _ | exact HBK.out)) (by omega) HREST.out hle hca, Rdr.chg (lo := w.heap.size + 1) (hi := w1.heap.size + 1) HRD3.out (by repeat' (first | with_reducible exact Chg.refl _ _ w3 | with_reducible refine Chg.alloc ?_ _ | with_reducible refine Chg.drew ?_ | with_reducible refine Chg.set ?_ (by omega) _)) (by omega), by omega, Chg.grown (by repeat' (first | with_reducible exact Ew3.out | with_reducible refine Chg.alloc ?_ _ | with_reducible refine Chg.drew ?_ | with_reducible refine Chg.set ?_ (by omega) _))⟩
end Go.Proofs.Ytidnefcnojedoaa
