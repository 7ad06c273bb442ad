/- Drawn tags: l5Wrong. -/
import Derived.Test.YtidnefcnojedoaaSa
import Derived.Test.YtidnefcnojedoaaTh
import Derived.Test.YtidnefcnojedoaaSc
namespace Go.Proofs.Ytidnefcnojedoaa
open Go.ChangeShapes Go.WideShapes Go.ChangeAt Go.RowKit
open Rec (sz cs)
set_option linter.unusedVariables false
set_option maxRecDepth 100000

def SomeTagsR (g p m : Nat) (w : World) (e : Ending) (w' : World) : Prop := ∃ (t : TagsD) (A : Option Addr) (c p' : Nat), e = .returned (.agg #[.int .i64 t.count, .int .i64 t.next, .int .i64 t.round, .slice A t.owns.length c]) ∧ t.owns.length ≤ m ∧ Fr 50 w' w.heap.size A c t.owns ∧ Rdr w' g p' ∧ p' ≤ p + 20 ∧ w.grownBy w' (some g)

set_option maxHeartbeats 8000000 in
theorem l5Wrong_c (g p : Nat) (t : TagsD) (A : Option Addr) (c : Nat) (w : World) (h : Rdr w g p) (hp : p ≤ 800000) (hx : Rd w A t.owns) (hn : t.owns.length ≤ 1000) (hc : t.owns.length ≤ c) (hc2 : c ≤ maxLen) :
    Calls Try.prog 20 #[.pointer (some ⟨g, 0, none⟩), .agg #[.int .i64 t.count, .int .i64 t.next, .int .i64 t.round, .slice A t.owns.length c]] w (SomeTagsR g p (t.owns.length + 1) w) := by
  obtain ⟨i0, hi, hz0, hz1, hz2⟩ := info_parts infoOwn
  have lg := h.lt
  have HR0 := Lib.hid h
  have HX := Lib.hid hx
  have C1 := Lib.hid (fun w' (h : Ex w w') => l5Copy_c t A c w' (hx.ex h) (by omega) hc hc2)
  clear h hx
  go_enter Try.func20, Try.ntmps20
  go_wp2_with fail
  refine name_calls ?_; intro v1 hv1
  have X1 : Hid (Chg (0) (0) w v1) := Lib.hid (by rw [hv1]; repeat' (first | with_reducible exact Chg.refl _ _ _ | with_reducible refine Chg.alloc ?_ _ | with_reducible refine Chg.drew ?_ | with_reducible refine Chg.set ?_ (by omega) _))
  have t1 : w.heap.size ≤ v1.heap.size := X1.out.size
  have Ev1 : Hid (Chg g (g + 1) w v1) := Lib.hid ((Chg.refl g (g + 1) w).step X1.out (by omega))
  replace HR0 := Lib.hid (HR0.out.chg X1.out (by omega))
  have KX : Hid (Blk v1 (w.heap.size) 25 [.int .i64 t.count, .int .i64 t.next, .int .i64 t.round, .slice A t.owns.length c]) := Lib.hid (by rw [hv1]; repeat' (first | with_reducible exact Blk.new_at _ _ _ (by simp) | with_reducible refine Blk.alloc ?_ _ | with_reducible refine Blk.drew ?_ | with_reducible refine Blk.far ?_ (by simp; omega) _))
  have lX : w.heap.size < v1.heap.size := KX.out.lt
  have KR : Hid (Blk v1 (w.heap.size + 1) 25 [.int .i64 0, .int .i64 0, .int .i64 0, .slice none 0 0]) := Lib.hid (by rw [hv1]; repeat' (first | with_reducible exact Blk.new_at _ _ _ (by simp) | with_reducible refine Blk.alloc ?_ _ | with_reducible refine Blk.drew ?_ | with_reducible refine Blk.far ?_ (by simp; omega) _))
  have lR : w.heap.size + 1 < v1.heap.size := KR.out.lt
  clear hv1
  refine (C1.out _ X1.out.ex_).mono ?_; rintro r w1 ⟨A1, c1, rfl, hf1, hb1⟩
  have Y1 : Hid (Chg 0 0 v1 w1) := Lib.hid (Chg.of_ex hb1)
  have s1 : v1.heap.size ≤ w1.heap.size := Y1.out.size
  have Ew1 : Hid (Chg g (g + 1) w w1) := Lib.hid (Ev1.out.step Y1.out (by omega))
  clear hb1
  replace KX : Hid (Blk w1 (w.heap.size) 25 [.int .i64 t.count, .int .i64 t.next, .int .i64 t.round, .slice A t.owns.length c]) := Lib.hid (KX.out.chg Y1.out (by omega))
  replace KR : Hid (Blk w1 (w.heap.size + 1) 25 [.int .i64 0, .int .i64 0, .int .i64 0, .slice none 0 0]) := Lib.hid (KR.out.chg Y1.out (by omega))
  replace HR0 := Lib.hid (HR0.out.chg Y1.out (by omega))
  have HF1 := Lib.hid hf1; clear hf1
  have WHF1 := Lib.hid HF1.out.row
  obtain ⟨qX0, qX1, qX2, qX3⟩ := KX.out.c4
  have jX := KX.out.lt
  obtain ⟨qR0, qR1, qR2, qR3⟩ := KR.out.c4
  have jR := KR.out.lt
  have zR := KR.out.frozen
  clear qX0 qX1 qX2 qX3 jX
  clear KX
  go_wp2_with fail
  refine name_calls ?_; intro v2 hv2
  have X2 : Hid (Chg (0) (0) w1 v2) := Lib.hid (by rw [hv2]; repeat' (first | with_reducible exact Chg.refl _ _ _ | with_reducible refine Chg.alloc ?_ _ | with_reducible refine Chg.drew ?_ | with_reducible refine Chg.set ?_ (by omega) _))
  have t2 : w1.heap.size ≤ v2.heap.size := X2.out.size
  have Ev2 : Hid (Chg g (g + 1) w v2) := Lib.hid (Ew1.out.step X2.out (by omega))
  clear qR0 qR1 qR2 qR3 jR zR
  replace KR : Hid (Blk v2 (w.heap.size + 1) 25 [.int .i64 0, .int .i64 0, .int .i64 0, .slice none 0 0]) := Lib.hid (KR.out.chg X2.out (by omega))
  replace HF1 := Lib.hid (HF1.out.chg X2.out WHF1.out (by omega))
  replace HR0 := Lib.hid (HR0.out.chg X2.out (by omega))
  have KO : Hid (Blk v2 (w1.heap.size) 25 [.int .i64 t.count, .int .i64 t.next, .int .i64 t.round, .slice A1 t.owns.length c1]) := Lib.hid (by rw [hv2]; repeat' (first | with_reducible exact Blk.new_at _ _ _ (by simp) | with_reducible refine Blk.alloc ?_ _ | with_reducible refine Blk.drew ?_ | with_reducible refine Blk.far ?_ (by simp; omega) _))
  have lO : w1.heap.size < v2.heap.size := KO.out.lt
  clear hv2
  refine (pick_c g p 20 _ HR0.out (by omega) (by omega)).mono ?_; rintro r w2 ⟨z2, rfl, hh2, hrd2, hb2⟩
  have Y2 : Hid (Chg (g) (g + 1) v2 w2) := Lib.hid (Chg.of_grown hb2 (fun b hb => by injection hb with hb; omega))
  have s2 : v2.heap.size ≤ w2.heap.size := Y2.out.size
  have Ew2 : Hid (Chg g (g + 1) w w2) := Lib.hid (Ev2.out.step Y2.out (by omega))
  clear hb2
  replace KR : Hid (Blk w2 (w.heap.size + 1) 25 [.int .i64 0, .int .i64 0, .int .i64 0, .slice none 0 0]) := Lib.hid (KR.out.chg Y2.out (by omega))
  replace KO : Hid (Blk w2 (w1.heap.size) 25 [.int .i64 t.count, .int .i64 t.next, .int .i64 t.round, .slice A1 t.owns.length c1]) := Lib.hid (KO.out.chg Y2.out (by omega))
  replace HF1 := Lib.hid (HF1.out.chg Y2.out WHF1.out (by omega))
  clear HR0
  have HRD2 := Lib.hid hrd2; clear hrd2
  have HH2 := Lib.hid hh2; clear hh2
  obtain ⟨qR0, qR1, qR2, qR3⟩ := KR.out.c4
  have jR := KR.out.lt
  have zR := KR.out.frozen
  obtain ⟨qO0, qO1, qO2, qO3⟩ := KO.out.c4
  have jO := KO.out.lt
  have zO := KO.out.frozen
  have hRO : ¬ w.heap.size + 1 = w1.heap.size := by omega
  by_cases hz : z2 = 0
  · have hb0 : (z2 == 0) = true := by simp [hz]
    clear hz
    go_wp2_with fail
    refine name_calls ?_; intro v3 hv3
    have X3 : Hid (Chg (0) (0) w2 v3) := Lib.hid (by rw [hv3]; repeat' (first | with_reducible exact Chg.refl _ _ _ | with_reducible refine Chg.alloc ?_ _ | with_reducible refine Chg.drew ?_ | with_reducible refine Chg.set ?_ (by omega) _))
    have t3 : w2.heap.size ≤ v3.heap.size := X3.out.size
    have Ev3 : Hid (Chg g (g + 1) w v3) := Lib.hid (Ew2.out.step X3.out (by omega))
    clear qR0 qR1 qR2 qR3 jR zR
    clear qO0 qO1 qO2 qO3 jO zO
    replace KR : Hid (Blk v3 (w.heap.size + 1) 25 [.int .i64 0, .int .i64 0, .int .i64 0, .slice none 0 0]) := Lib.hid (KR.out.chg X3.out (by omega))
    replace KO : Hid (Blk v3 (w1.heap.size) 25 [.int .i64 t.count, .int .i64 t.next, .int .i64 t.round, .slice A1 t.owns.length c1]) := Lib.hid (KO.out.chg X3.out (by omega))
    replace HF1 := Lib.hid (HF1.out.chg X3.out WHF1.out (by omega))
    replace HRD2 := Lib.hid (HRD2.out.chg X3.out (by omega))
    have L3 : Hid (Rd v3 (some ⟨w2.heap.size, 0, none⟩) ([-1, 9, 0] : List Int)) := Lib.hid (by rw [hv3]; repeat' (first | exact Rd.lits _ _ _ | exact Rd.lits_at _ _ _ (by simp) | with_reducible refine Rd.alloc ?_ _))
    clear hv3
    refine (num_c g (p + 1) _ 0 _ [-1, 9, 0] _ HRD2.out L3.out (by simp) (by simp) (by omega) (by omega)).mono ?_; rintro r w3 ⟨f3, rfl, hhf3, hrd3, hb3⟩
    have Y3 : Hid (Chg (g) (g + 1) v3 w3) := Lib.hid (Chg.of_grown hb3 (fun b hb => by injection hb with hb; omega))
    have s3 : v3.heap.size ≤ w3.heap.size := Y3.out.size
    have Ew3 : Hid (Chg g (g + 1) w w3) := Lib.hid (Ev3.out.step Y3.out (by omega))
    clear hb3
    replace KR : Hid (Blk w3 (w.heap.size + 1) 25 [.int .i64 0, .int .i64 0, .int .i64 0, .slice none 0 0]) := Lib.hid (KR.out.chg Y3.out (by omega))
    replace KO : Hid (Blk w3 (w1.heap.size) 25 [.int .i64 t.count, .int .i64 t.next, .int .i64 t.round, .slice A1 t.owns.length c1]) := Lib.hid (KO.out.chg Y3.out (by omega))
    replace HF1 := Lib.hid (HF1.out.chg Y3.out WHF1.out (by omega))
    clear HRD2
    have HRD3 := Lib.hid hrd3; clear hrd3
    have HHF3 := Lib.hid hhf3; clear hhf3
    obtain ⟨qR0, qR1, qR2, qR3⟩ := KR.out.c4
    have jR := KR.out.lt
    have zR := KR.out.frozen
    obtain ⟨qO0, qO1, qO2, qO3⟩ := KO.out.c4
    have jO := KO.out.lt
    have zO := KO.out.frozen
    have zO := KO.out.frozen
    have zR := KR.out.frozen
    go_wp2
    exact bodyPost_ret (v := .agg #[.int .i64 t.count, .int .i64 f3, .int .i64 t.round, .slice A1 t.owns.length c1]) (by first | (simp [results, Try.results20, go_sem, qR0, qR1]; done) | (simp [results, Try.results20, go_sem, qR0, qR1, qR2, qR3]; done)) rfl
      ⟨⟨t.count, f3, t.round, t.owns⟩, A1, c1, p + 1 + 1, rfl, Nat.le_succ _, Fr.mono (B := v1.heap.size) (by repeat' (first | with_reducible exact HF1.out | with_reducible refine Fr.alloc ?_ _ | with_reducible refine Fr.put ?_ (fun b hb => by have := WHF1.out b hb; omega) _)) (by omega), Rdr.chg (lo := w.heap.size) (hi := w1.heap.size + 1) HRD3.out (by repeat' (first | with_reducible exact Chg.refl _ _ w3 | with_reducible refine Chg.alloc ?_ _ | with_reducible refine Chg.drew ?_ | with_reducible refine Chg.set ?_ (by omega) _)) (by omega), by omega, Chg.grown (by repeat' (first | with_reducible exact Ew3.out | with_reducible refine Chg.alloc ?_ _ | with_reducible refine Chg.drew ?_ | with_reducible refine Chg.set ?_ (by omega) _))⟩
  have hb0 : (z2 == 0) = false := by simp [hz]
  clear hz
  by_cases hz : z2 = 1
  · have hb1 : (z2 == 1) = true := by simp [hz]
    clear hz
    go_wp2_with fail
    refine name_calls ?_; intro v3 hv3
    have X3 : Hid (Chg (0) (0) w2 v3) := Lib.hid (by rw [hv3]; repeat' (first | with_reducible exact Chg.refl _ _ _ | with_reducible refine Chg.alloc ?_ _ | with_reducible refine Chg.drew ?_ | with_reducible refine Chg.set ?_ (by omega) _))
    have t3 : w2.heap.size ≤ v3.heap.size := X3.out.size
    have Ev3 : Hid (Chg g (g + 1) w v3) := Lib.hid (Ew2.out.step X3.out (by omega))
    clear qR0 qR1 qR2 qR3 jR zR
    clear qO0 qO1 qO2 qO3 jO zO
    replace KR : Hid (Blk v3 (w.heap.size + 1) 25 [.int .i64 0, .int .i64 0, .int .i64 0, .slice none 0 0]) := Lib.hid (KR.out.chg X3.out (by omega))
    replace KO : Hid (Blk v3 (w1.heap.size) 25 [.int .i64 t.count, .int .i64 t.next, .int .i64 t.round, .slice A1 t.owns.length c1]) := Lib.hid (KO.out.chg X3.out (by omega))
    replace HF1 := Lib.hid (HF1.out.chg X3.out WHF1.out (by omega))
    replace HRD2 := Lib.hid (HRD2.out.chg X3.out (by omega))
    have L3 : Hid (Rd v3 (some ⟨w2.heap.size, 0, none⟩) ([0, 9, 1] : List Int)) := Lib.hid (by rw [hv3]; repeat' (first | exact Rd.lits _ _ _ | exact Rd.lits_at _ _ _ (by simp) | with_reducible refine Rd.alloc ?_ _))
    clear hv3
    refine (num_c g (p + 1) _ 0 _ [0, 9, 1] _ HRD2.out L3.out (by simp) (by simp) (by omega) (by omega)).mono ?_; rintro r w3 ⟨f3, rfl, hhf3, hrd3, hb3⟩
    have Y3 : Hid (Chg (g) (g + 1) v3 w3) := Lib.hid (Chg.of_grown hb3 (fun b hb => by injection hb with hb; omega))
    have s3 : v3.heap.size ≤ w3.heap.size := Y3.out.size
    have Ew3 : Hid (Chg g (g + 1) w w3) := Lib.hid (Ev3.out.step Y3.out (by omega))
    clear hb3
    replace KR : Hid (Blk w3 (w.heap.size + 1) 25 [.int .i64 0, .int .i64 0, .int .i64 0, .slice none 0 0]) := Lib.hid (KR.out.chg Y3.out (by omega))
    replace KO : Hid (Blk w3 (w1.heap.size) 25 [.int .i64 t.count, .int .i64 t.next, .int .i64 t.round, .slice A1 t.owns.length c1]) := Lib.hid (KO.out.chg Y3.out (by omega))
    replace HF1 := Lib.hid (HF1.out.chg Y3.out WHF1.out (by omega))
    clear HRD2
    have HRD3 := Lib.hid hrd3; clear hrd3
    have HHF3 := Lib.hid hhf3; clear hhf3
    obtain ⟨qR0, qR1, qR2, qR3⟩ := KR.out.c4
    have jR := KR.out.lt
    have zR := KR.out.frozen
    obtain ⟨qO0, qO1, qO2, qO3⟩ := KO.out.c4
    have jO := KO.out.lt
    have zO := KO.out.frozen
    have zO := KO.out.frozen
    have zR := KR.out.frozen
    go_wp2
    exact bodyPost_ret (v := .agg #[.int .i64 f3, .int .i64 t.next, .int .i64 t.round, .slice A1 t.owns.length c1]) (by first | (simp [results, Try.results20, go_sem, qR0, qR1]; done) | (simp [results, Try.results20, go_sem, qR0, qR1, qR2, qR3]; done)) rfl
      ⟨⟨f3, t.next, t.round, t.owns⟩, A1, c1, p + 1 + 1, rfl, Nat.le_succ _, Fr.mono (B := v1.heap.size) (by repeat' (first | with_reducible exact HF1.out | with_reducible refine Fr.alloc ?_ _ | with_reducible refine Fr.put ?_ (fun b hb => by have := WHF1.out b hb; omega) _)) (by omega), Rdr.chg (lo := w.heap.size) (hi := w1.heap.size + 1) HRD3.out (by repeat' (first | with_reducible exact Chg.refl _ _ w3 | with_reducible refine Chg.alloc ?_ _ | with_reducible refine Chg.drew ?_ | with_reducible refine Chg.set ?_ (by omega) _)) (by omega), by omega, Chg.grown (by repeat' (first | with_reducible exact Ew3.out | with_reducible refine Chg.alloc ?_ _ | with_reducible refine Chg.drew ?_ | with_reducible refine Chg.set ?_ (by omega) _))⟩
  have hb1 : (z2 == 1) = false := by simp [hz]
  clear hz
  by_cases hz : z2 = 2
  · have hb2 : (z2 == 2) = true := by simp [hz]
    clear hz
    obtain ⟨gO, hgO⟩ : ∃ gO, gO = w1.heap.size := ⟨_, rfl⟩
    have CP1 : Hid (∀ w1, Rdr w1 g (p + 1) → Calls Try.prog 24 #[.pointer (some ⟨g, 0, none⟩), .int .i64 3] w1 (Picked g (p + 1) 3 w1)) := Lib.hid (fun w1 h => pick_c g (p + 1) 3 w1 h (by omega) (by omega))
    have CP2 : Hid (∀ w1, Rdr w1 g (p + 1 + 1) → Calls Try.prog 24 #[.pointer (some ⟨g, 0, none⟩), .int .i64 3] w1 (Picked g (p + 1 + 1) 3 w1)) := Lib.hid (fun w1 h => pick_c g (p + 1 + 1) 3 w1 h (by omega) (by omega))
    have hneO : some gO ≠ some g := fun e => by injection e with e; omega
    have hneF : some gO ≠ rowOf A1 c1 := fun e => by have := WHF1.out _ e.symm; omega
    have hneR : some (w.heap.size + 1) ≠ some g := fun e => by injection e with e; omega
    have FRK : Hid (∀ wa wb, w2.drew.grownBy wa (some g) → wa.grownBy wb (some g) → Fr 50 wb v1.heap.size A1 c1 t.owns) := Lib.hid (fun wa wb h1 h2 => Fr.chg (Fr.chg HF1.out ((Chg.refl g (g + 1) w2).drew.trans (Chg.of_grown h1 (fun b hb => by injection hb with hb; omega))) WHF1.out (by omega)) (Chg.of_grown (lo := g) (hi := g + 1) h2 (fun b hb => by injection hb with hb; omega)) WHF1.out (by omega))
    have FSZ : Hid (∀ wa wb, w2.drew.grownBy wa (some g) → wa.grownBy wb (some g) → w2.heap.size ≤ wb.heap.size) := Lib.hid (fun wa wb h1 h2 => Nat.le_trans h1.size h2.size)
    have H63 : Hid (t.owns.length + 1 ≤ maxLen) := Lib.hid (by simp [maxLen]; omega)
    have HBY : Hid ((t.owns.length + 1) * 16 ≤ 140737488355328) := Lib.hid (by omega)
    have HV1 : Hid (v1.heap.size ≤ w2.heap.size) := Lib.hid (by omega)
    have CE : Hid (∀ (args : Array Value) (w : World), (callFunc 24 args).run Try.prog w = .ok (.enter 24 args) w) := Lib.hid (enters Try.func24 (by kernel_rfl) (by kernel_rfl))
    have hgO2 : w1.heap.size ≤ gO ∧ w.heap.size + 1 < gO := by omega
    rw [← hgO] at KO qO0 qO1 qO2 qO3 jO zO hRO ⊢
    clear hgO
    have lgO : gO < w2.heap.size := KO.out.lt
    go_wp2_with fail
    go_region_law (first | (refine step_append_fr (α := OwnD) rfl _ _ 23 rfl 50 i0 _ 16 v1.heap.size Try.underlying23 hi hz0 hz1 hz2 rfl A1 c1 t.owns.length t.owns rfl rfl ((FRK.out _ _ hga hgb).alloc _) _ 1 1 [(⟨za, zb⟩ : OwnD)] rfl rfl (one_own _ _ _) H63.out HBY.out (Nat.le_trans HV1.out (Nat.le_trans (FSZ.out _ _ hga hgb) ((Ex.refl wb).alloc _).size)) ?_; intro A6 c6 w6 ha; have ho6 := Blk.grown (hob.alloc _) ha.grown hneF; obtain ⟨h60, h61, h62, h63⟩ := ho6.c4; have h6f := ho6.frozen; have h6l := ho6.lt) | (refine step_call rfl CE.out _ _ rfl #[.pointer (some ⟨g, 0, none⟩), .int .i64 3] rfl (CP1.out _ (Rdr.drew HRD2.out)) ?_; rintro r wa ⟨za, rfl, hva, hra, hga⟩; refine ⟨_, rfl, ?_⟩; have hoa := Blk.grown (Blk.drew KO.out) hga hneO; obtain ⟨ha0, ha1, ha2, ha3⟩ := hoa.c4; have haf := hoa.frozen; have hal := hoa.lt) | (refine step_call rfl CE.out _ _ rfl #[.pointer (some ⟨g, 0, none⟩), .int .i64 3] rfl (CP2.out _ hra) ?_; rintro r wb ⟨zb, rfl, hvb, hrb, hgb⟩; refine ⟨_, rfl, ?_⟩; have hob := Blk.grown hoa hgb hneO; obtain ⟨hb0', hb1', hb2', hb3'⟩ := hob.c4; have hbf := hob.frozen; have hbl := hob.lt))
    all_goals
      have HB : Hid (Chg g (g + 1) w2 wb) := Lib.hid ((((Chg.refl g (g + 1) w2).drew).trans (Chg.of_grown hga (fun b hb => by injection hb with hb; omega))).trans (Chg.of_grown hgb (fun b hb => by injection hb with hb; omega)))
      have KO6 := Lib.hid ho6
      have hg6 := ha.grown
      have Ew6 : Hid (Chg g (g + 1) w w6) := Lib.hid (((Ew2.out.trans HB.out).alloc _).step (Chg.of_grown hg6 WHF1.out) (.inr (.inl (by omega))))
      have KR6 : Hid (Blk w6 (w.heap.size + 1) 25 [.int .i64 0, .int .i64 0, .int .i64 0, .slice none 0 0]) := Lib.hid (((KR.out.chg HB.out (by omega)).alloc _).grown hg6 (fun e => by have := WHF1.out _ e.symm; omega))
      have HRD6 : Hid (Rdr w6 g (p + 1 + 1 + 1)) := Lib.hid ((hrb.alloc _).chg (Chg.of_grown hg6 WHF1.out) (.inl (by omega)))
      have HF6 := Lib.hid ha.fr
      have hwb := HB.out.size
      have WNE6 : Hid (∀ b, rowOf A6 c6 = some b → v1.heap.size ≤ b ∧ b ≠ gO) := Lib.hid (fun b hb => by
        refine ⟨(HF6.out.row b hb).1, ?_⟩
        rcases ha.row with e | e
        · rw [hb] at e
          have := WHF1.out b e.symm
          omega
        · rw [hb] at e
          injection e with e
          simp at e
          omega)
      have HL : Hid ((t.owns ++ [(⟨za, zb⟩ : OwnD)]).length = t.owns.length + 1) := Lib.hid (by simp)
      clear ha ho6 hg6 hoa hob hga hgb hra hrb hva hvb KO KR h60 h61 h62 h63 h6f h6l ha0 ha1 ha2 ha3 haf hal hb0' hb1' hb2' hb3' hbf hbl qO0 qO1 qO2 qO3 jO zO qR0 qR1 qR2 qR3 jR zR
      obtain ⟨qO0, qO1, qO2, qO3⟩ := KO6.out.c4
      have jO := KO6.out.lt
      have zO := KO6.out.frozen
      obtain ⟨qR0, qR1, qR2, qR3⟩ := KR6.out.c4
      have jR := KR6.out.lt
      have zR := KR6.out.frozen
      go_wp2
      exact bodyPost_ret (v := .agg #[.int .i64 t.count, .int .i64 t.next, .int .i64 t.round, .slice A6 (t.owns.length + 1) c6]) (by first | (simp [results, Try.results20, go_sem, qR0, qR1]; done) | (simp [results, Try.results20, go_sem, qR0, qR1, qR2, qR3]; done)) rfl
        ⟨⟨t.count, t.next, t.round, t.owns ++ [⟨za, zb⟩]⟩, A6, c6, p + 1 + 1 + 1, by rw [HL.out], Nat.le_of_eq HL.out, Fr.mono (B := v1.heap.size) (by repeat' (first | with_reducible exact HF6.out | with_reducible refine Fr.alloc ?_ _ | with_reducible refine Fr.put ?_ (fun b hb => by have := WNE6.out b hb; omega) _)) (by omega), Rdr.chg (lo := w.heap.size) (hi := gO + 1) HRD6.out (by repeat' (first | with_reducible exact Chg.refl _ _ w6 | with_reducible refine Chg.alloc ?_ _ | with_reducible refine Chg.drew ?_ | with_reducible refine Chg.set ?_ (by omega) _)) (by omega), by omega, Chg.grown (by repeat' (first | with_reducible exact Ew6.out | with_reducible refine Chg.alloc ?_ _ | with_reducible refine Chg.drew ?_ | with_reducible refine Chg.set ?_ (by omega) _))⟩
  have hb2 : (z2 == 2) = false := by simp [hz]
  clear hz
  by_cases hz : z2 = 3
  · have hb3 : (z2 == 3) = true := by simp [hz]
    clear hz
    go_wp2_with fail
    refine name_calls ?_; intro v3 hv3
    have X3 : Hid (Chg (0) (0) w2 v3) := Lib.hid (by rw [hv3]; repeat' (first | with_reducible exact Chg.refl _ _ _ | with_reducible refine Chg.alloc ?_ _ | with_reducible refine Chg.drew ?_ | with_reducible refine Chg.set ?_ (by omega) _))
    have t3 : w2.heap.size ≤ v3.heap.size := X3.out.size
    have Ev3 : Hid (Chg g (g + 1) w v3) := Lib.hid (Ew2.out.step X3.out (by omega))
    clear qR0 qR1 qR2 qR3 jR zR
    clear qO0 qO1 qO2 qO3 jO zO
    replace KR : Hid (Blk v3 (w.heap.size + 1) 25 [.int .i64 0, .int .i64 0, .int .i64 0, .slice none 0 0]) := Lib.hid (KR.out.chg X3.out (by omega))
    replace KO : Hid (Blk v3 (w1.heap.size) 25 [.int .i64 t.count, .int .i64 t.next, .int .i64 t.round, .slice A1 t.owns.length c1]) := Lib.hid (KO.out.chg X3.out (by omega))
    replace HF1 := Lib.hid (HF1.out.chg X3.out WHF1.out (by omega))
    replace HRD2 := Lib.hid (HRD2.out.chg X3.out (by omega))
    have L3 : Hid (Rd v3 (some ⟨w2.heap.size, 0, none⟩) ([-1, 1000001, 1000000] : List Int)) := Lib.hid (by rw [hv3]; repeat' (first | exact Rd.lits _ _ _ | exact Rd.lits_at _ _ _ (by simp) | with_reducible refine Rd.alloc ?_ _))
    clear hv3
    refine (num_c g (p + 1) _ 0 _ [-1, 1000001, 1000000] _ HRD2.out L3.out (by simp) (by simp) (by omega) (by omega)).mono ?_; rintro r w3 ⟨f3, rfl, hhf3, hrd3, hb3⟩
    have Y3 : Hid (Chg (g) (g + 1) v3 w3) := Lib.hid (Chg.of_grown hb3 (fun b hb => by injection hb with hb; omega))
    have s3 : v3.heap.size ≤ w3.heap.size := Y3.out.size
    have Ew3 : Hid (Chg g (g + 1) w w3) := Lib.hid (Ev3.out.step Y3.out (by omega))
    clear hb3
    replace KR : Hid (Blk w3 (w.heap.size + 1) 25 [.int .i64 0, .int .i64 0, .int .i64 0, .slice none 0 0]) := Lib.hid (KR.out.chg Y3.out (by omega))
    replace KO : Hid (Blk w3 (w1.heap.size) 25 [.int .i64 t.count, .int .i64 t.next, .int .i64 t.round, .slice A1 t.owns.length c1]) := Lib.hid (KO.out.chg Y3.out (by omega))
    replace HF1 := Lib.hid (HF1.out.chg Y3.out WHF1.out (by omega))
    clear HRD2
    have HRD3 := Lib.hid hrd3; clear hrd3
    have HHF3 := Lib.hid hhf3; clear hhf3
    obtain ⟨qR0, qR1, qR2, qR3⟩ := KR.out.c4
    have jR := KR.out.lt
    have zR := KR.out.frozen
    obtain ⟨qO0, qO1, qO2, qO3⟩ := KO.out.c4
    have jO := KO.out.lt
    have zO := KO.out.frozen
    have zO := KO.out.frozen
    have zR := KR.out.frozen
    go_wp2
    exact bodyPost_ret (v := .agg #[.int .i64 t.count, .int .i64 t.next, .int .i64 f3, .slice A1 t.owns.length c1]) (by first | (simp [results, Try.results20, go_sem, qR0, qR1]; done) | (simp [results, Try.results20, go_sem, qR0, qR1, qR2, qR3]; done)) rfl
      ⟨⟨t.count, t.next, f3, t.owns⟩, A1, c1, p + 1 + 1, rfl, Nat.le_succ _, Fr.mono (B := v1.heap.size) (by repeat' (first | with_reducible exact HF1.out | with_reducible refine Fr.alloc ?_ _ | with_reducible refine Fr.put ?_ (fun b hb => by have := WHF1.out b hb; omega) _)) (by omega), Rdr.chg (lo := w.heap.size) (hi := w1.heap.size + 1) HRD3.out (by repeat' (first | with_reducible exact Chg.refl _ _ w3 | with_reducible refine Chg.alloc ?_ _ | with_reducible refine Chg.drew ?_ | with_reducible refine Chg.set ?_ (by omega) _)) (by omega), by omega, Chg.grown (by repeat' (first | with_reducible exact Ew3.out | with_reducible refine Chg.alloc ?_ _ | with_reducible refine Chg.drew ?_ | with_reducible refine Chg.set ?_ (by omega) _))⟩
  have hb3 : (z2 == 3) = false := by simp [hz]
  clear hz
  go_wp2
  exact bodyPost_ret (v := .agg #[.int .i64 t.count, .int .i64 t.next, .int .i64 t.round, .slice A1 t.owns.length c1]) (by first | (simp [results, Try.results20, go_sem, qR0, qR1]; done) | (simp [results, Try.results20, go_sem, qR0, qR1, qR2, qR3]; done)) rfl
    ⟨⟨t.count, t.next, t.round, t.owns⟩, A1, c1, p + 1, rfl, Nat.le_succ _, Fr.mono (B := v1.heap.size) (by repeat' (first | with_reducible exact HF1.out | with_reducible refine Fr.alloc ?_ _ | with_reducible refine Fr.put ?_ (fun b hb => by have := WHF1.out b hb; omega) _)) (by omega), Rdr.chg (lo := w.heap.size) (hi := w1.heap.size + 1) HRD2.out (by repeat' (first | with_reducible exact Chg.refl _ _ w2 | with_reducible refine Chg.alloc ?_ _ | with_reducible refine Chg.drew ?_ | with_reducible refine Chg.set ?_ (by omega) _)) (by omega), by omega, Chg.grown (by repeat' (first | with_reducible exact Ew2.out | with_reducible refine Chg.alloc ?_ _ | with_reducible refine Chg.drew ?_ | with_reducible refine Chg.set ?_ (by omega) _))⟩
end Go.Proofs.Ytidnefcnojedoaa
