/- NewSystem of both sides: the walks. -/
import Derived.Test.YtkoegcalfibinaaDoorYn
namespace Go.Proofs.YtkoegcalfibinaaDoor
open Go.ChangeShapes Go.WideShapes Go.ChangeAt Go.RowKit
open Rec (sz cs)
set_option linter.unusedVariables false
set_option maxRecDepth 100000

set_option maxHeartbeats 4000000 in
theorem newSysS_c (f b c : Int) (w : World) : Calls Tryd.prog 8 #[.int .i64 f, .int .i64 b, .int .i64 c] w
    fun r w' => ∃ a : SA, r = .returned (.tuple #[.agg #[.slice a.b (newSys f b c).1.table.buckets.length a.bc, .slice a.f (newSys f b c).1.table.frames.length a.fc, .slice a.q (newSys f b c).1.cpus.length a.qc], .bool (newSys f b c).2]) ∧ FrN w' w.heap.size (newSys f b c).1 a ∧ Ex w w' := by
  have C1 := Lib.hid (fun w' => newTableS_c f b w')
  unfold newSys
  generalize newTable f b = q1 at C1 ⊢
  obtain ⟨tb, p1⟩ := q1
  dsimp only at C1 ⊢
  skip
  by_cases hp : p1 = true ∧ 1 ≤ c ∧ c ≤ 4
  rotate_left
  · rw [if_neg hp]
    have HP : Hid (p1 = false ∨ (p1 = true ∧ c < 1) ∨ (p1 = true ∧ 1 ≤ c ∧ 4 < c)) := Lib.hid (by cases p1 <;> simp at hp ⊢; omega)
    clear hp
    go_enter Tryd.func8, Tryd.ntmps8
    go_wp2_with fail
    refine name_calls ?_; intro v1 hv1
    have X1 : Hid (Chg (0) (0) w v1) := Lib.hid (by rw [hv1]; repeat' (first | with_reducible exact Chg.refl _ _ _ | with_reducible refine Chg.alloc ?_ _ | with_reducible refine Chg.drew ?_ | with_reducible refine Chg.set ?_ (by omega) _))
    have t1 : w.heap.size ≤ v1.heap.size := X1.out.size
    have Ev1 : Hid (Ex w v1) := Lib.hid ((Ex.refl w).chg X1.out (by omega))
    have KR : Hid (Blk v1 (w.heap.size) 28 [.slice none 0 0, .slice none 0 0, .slice none 0 0]) := Lib.hid (by rw [hv1]; repeat' (first | with_reducible exact Blk.new_at _ _ _ (by simp) | with_reducible refine Blk.alloc ?_ _ | with_reducible refine Blk.drew ?_ | with_reducible refine Blk.far ?_ (by simp; omega) _))
    have lR : w.heap.size < v1.heap.size := KR.out.lt
    clear hv1
    refine (C1.out _).mono ?_; rintro r w1 ⟨A1, c1, B1, d1, rfl, hf1, hf1b, hb1⟩
    have Y1 : Hid (Chg 0 0 v1 w1) := Lib.hid (Chg.of_ex hb1)
    have s1 : v1.heap.size ≤ w1.heap.size := Y1.out.size
    have Ew1 : Hid (Ex w w1) := Lib.hid (Ev1.out.chg Y1.out (by omega))
    clear hb1
    replace KR : Hid (Blk w1 (w.heap.size) 28 [.slice none 0 0, .slice none 0 0, .slice none 0 0]) := Lib.hid (KR.out.chg Y1.out (by omega))
    have HF1 := Lib.hid hf1; clear hf1
    have WHF1 := Lib.hid HF1.out.row
    have HF1B := Lib.hid hf1b; clear hf1b
    have WHF1B := Lib.hid HF1B.out.row
    obtain ⟨qR0, qR1, qR2⟩ := KR.out.c3
    have jR := KR.out.lt
    have zR := KR.out.frozen
    rcases HP.out with rfl | ⟨rfl, h1⟩ | ⟨rfl, h1, h2⟩
    all_goals
      go_wp2
      exact bodyPost_ret (v := .tuple #[.agg #[.slice none 0 0, .slice none 0 0, .slice none 0 0], .bool false]) (by simp [results, Tryd.results8, go_sem, qR0, qR1, qR2, jR]) rfl
        ⟨⟨none, 0, none, 0, none, 0⟩, rfl, ⟨Fr.none_ _ _ _ _, Fr.none_ _ _ _ _, Fr.none_ _ _ _ _, rfl⟩, (by repeat' (first | with_reducible exact Ew1.out | with_reducible refine Ex.alloc ?_ _ | with_reducible refine Ex.drew ?_ | with_reducible refine Ex.put ?_ (by omega) _))⟩
  rw [if_pos hp]
  obtain ⟨rfl, hc1, hc2⟩ := hp
  obtain ⟨n, rfl⟩ := Int.eq_ofNat_of_zero_le (show 0 ≤ c by omega)
  simp only [Int.toNat_natCast]
  have hmk := make_rec (P := Tryd.prog) (α := CpuR) 26 123 48 nilC _ Tryd.underlying26 infoMCpu rfl n (by omega) (by omega)
  go_enter Tryd.func8, Tryd.ntmps8
  go_wp2_with fail
  refine name_calls ?_; intro v1 hv1
  have X1 : Hid (Chg (0) (0) w v1) := Lib.hid (by rw [hv1]; repeat' (first | with_reducible exact Chg.refl _ _ _ | with_reducible refine Chg.alloc ?_ _ | with_reducible refine Chg.drew ?_ | with_reducible refine Chg.set ?_ (by omega) _))
  have t1 : w.heap.size ≤ v1.heap.size := X1.out.size
  have Ev1 : Hid (Ex w v1) := Lib.hid ((Ex.refl w).chg X1.out (by omega))
  have KR : Hid (Blk v1 (w.heap.size) 28 [.slice none 0 0, .slice none 0 0, .slice none 0 0]) := Lib.hid (by rw [hv1]; repeat' (first | with_reducible exact Blk.new_at _ _ _ (by simp) | with_reducible refine Blk.alloc ?_ _ | with_reducible refine Blk.drew ?_ | with_reducible refine Blk.far ?_ (by simp; omega) _))
  have lR : w.heap.size < v1.heap.size := KR.out.lt
  clear hv1
  refine (C1.out _).mono ?_; rintro r w1 ⟨A1, c1, B1, d1, rfl, hf1, hf1b, hb1⟩
  have Y1 : Hid (Chg 0 0 v1 w1) := Lib.hid (Chg.of_ex hb1)
  have s1 : v1.heap.size ≤ w1.heap.size := Y1.out.size
  have Ew1 : Hid (Ex w w1) := Lib.hid (Ev1.out.chg Y1.out (by omega))
  clear hb1
  replace KR : Hid (Blk w1 (w.heap.size) 28 [.slice none 0 0, .slice none 0 0, .slice none 0 0]) := Lib.hid (KR.out.chg Y1.out (by omega))
  have HF1 := Lib.hid hf1; clear hf1
  have WHF1 := Lib.hid HF1.out.row
  have HF1B := Lib.hid hf1b; clear hf1b
  have WHF1B := Lib.hid HF1B.out.row
  obtain ⟨qR0, qR1, qR2⟩ := KR.out.c3
  have jR := KR.out.lt
  have zR := KR.out.frozen
  skip
  skip
  have hne : ¬ w.heap.size = w1.heap.size := by omega
  have hne' : ¬ w1.heap.size = w.heap.size := by omega
  have hne2 : ¬ w.heap.size = w1.heap.size + 1 := by omega
  have hne2' : ¬ w1.heap.size + 1 = w.heap.size := by omega
  go_wp2
  obtain ⟨w2, hw2⟩ : ∃ w2 : World, w2 = w1.alloc (.cells #[.slice A1 tb.buckets.length c1, .slice B1 tb.frames.length d1] 25) := ⟨_, rfl⟩
  have KT2 : Hid (Blk w2 w1.heap.size 25 [.slice A1 tb.buckets.length c1, .slice B1 tb.frames.length d1]) := Lib.hid (by rw [hw2]; exact Blk.new _ _ _)
  have KR2 : Hid (Blk w2 w.heap.size 28 [.slice none 0 0, .slice none 0 0, .slice none 0 0]) := Lib.hid (by rw [hw2]; exact KR.out.alloc _)
  have E2 : Hid (Ex w1 w2) := Lib.hid (by rw [hw2]; exact (Ex.refl w1).alloc _)
  rw [← hw2]
  clear hw2 KR qR0 qR1 qR2 jR zR
  obtain ⟨qR0, qR1, qR2⟩ := KR2.out.c3
  obtain ⟨qT0, qT1⟩ := KT2.out.c2
  have jR := KR2.out.lt
  have jT := KT2.out.lt
  have zR := KR2.out.frozen
  have hs1 : ¬ w.heap.size = w2.heap.size := by omega
  have hs2 : ¬ w1.heap.size = w2.heap.size := by omega
  go_region
  have hsz : (((w2.setCell ⟨w.heap.size, 0, none⟩ (.slice A1 tb.buckets.length c1)).setCell ⟨w.heap.size, 1, none⟩ (.slice B1 tb.frames.length d1)).setCell ⟨w.heap.size, 2, none⟩ (.slice (some ⟨w2.heap.size, 0, none⟩) n n)).heap.size = w2.heap.size := by simp
  obtain ⟨w3, hw3⟩ : ∃ w3 : World, w3 = ((w2.setCell ⟨w.heap.size, 0, none⟩ (.slice A1 tb.buckets.length c1)).setCell ⟨w.heap.size, 1, none⟩ (.slice B1 tb.frames.length d1)).setCell ⟨w.heap.size, 2, none⟩ (.slice (some ⟨w2.heap.size, 0, none⟩) n n) := ⟨_, rfl⟩
  rw [← hw3] at hsz ⊢
  have KR3 : Hid (Blk w3 w.heap.size 28 [.slice A1 tb.buckets.length c1, .slice B1 tb.frames.length d1, .slice (some ⟨w2.heap.size, 0, none⟩) n n]) := Lib.hid (by rw [hw3]; exact ((KR2.out.set 0 _).set 1 _).set 2 _)
  have HB3 : Hid (Fr 3 w3 v1.heap.size A1 c1 tb.buckets) := Lib.hid (by rw [hw3]; exact (((HF1.out.ex E2.out).set_below lR _).set_below lR _).set_below lR _)
  have HF3 : Hid (Fr 99 w3 v1.heap.size B1 d1 tb.frames) := Lib.hid (by rw [hw3]; exact (((HF1B.out.ex E2.out).set_below lR _).set_below lR _).set_below lR _)
  have E3 : Hid (Ex w w3) := Lib.hid (by rw [hw3]; exact (((Ew1.out.trans E2.out).set (Nat.le_refl _) _).set (Nat.le_refl _) _).set (Nat.le_refl _) _)
  clear hw3 qR0 qR1 qR2 qT0 qT1 jR jT zR KR2 KT2 hs1 hs2 hne hne' hne2 hne2'
  have hge := E2.out.size
  obtain ⟨w4, hw4⟩ : ∃ w4 : World, w4 = (w3.alloc (.cells (flat (List.replicate n nilC)).toArray 123)).drew := ⟨_, rfl⟩
  rw [← hw4]
  have HQ4 : Hid (Fr 123 w4 w2.heap.size (some ⟨w2.heap.size, 0, none⟩) n (List.replicate n nilC)) := Lib.hid (by rw [hw4]; exact ⟨by simp, by simp only [maxLen]; omega, .inr ⟨_, [], rfl, Nat.le_refl _, Bk.drew (by rw [← hsz]; exact Bk.new _ _ _), by simp⟩⟩)
  have KR4 : Hid (Blk w4 w.heap.size 28 [.slice A1 tb.buckets.length c1, .slice B1 tb.frames.length d1, .slice (some ⟨w2.heap.size, 0, none⟩) n n]) := Lib.hid (by rw [hw4]; exact Blk.drew (KR3.out.alloc _))
  have HB4 : Hid (Fr 3 w4 v1.heap.size A1 c1 tb.buckets) := Lib.hid (by rw [hw4]; exact Fr.drew (HB3.out.alloc _))
  have HF4 : Hid (Fr 99 w4 v1.heap.size B1 d1 tb.frames) := Lib.hid (by rw [hw4]; exact Fr.drew (HF3.out.alloc _))
  have E4 : Hid (Ex w w4) := Lib.hid (by rw [hw4]; exact (E3.out.alloc _).drew)
  have hs4 : w2.heap.size ≤ w4.heap.size := by rw [hw4]; show w2.heap.size ≤ (w3.alloc _).heap.size; rw [← hsz]; simp
  clear hw4 KR3 HB3 HF3 E3 hsz
  obtain ⟨qR0, qR1, qR2⟩ := KR4.out.c3
  have jR := KR4.out.lt
  go_wp2
  exact bodyPost_ret (v := .tuple #[.agg #[.slice (⟨A1, c1, B1, d1, some ⟨w2.heap.size, 0, none⟩, n⟩ : SA).b (⟨tb, List.replicate n ⟨[], []⟩⟩ : SysD).table.buckets.length (⟨A1, c1, B1, d1, some ⟨w2.heap.size, 0, none⟩, n⟩ : SA).bc, .slice (⟨A1, c1, B1, d1, some ⟨w2.heap.size, 0, none⟩, n⟩ : SA).f (⟨tb, List.replicate n ⟨[], []⟩⟩ : SysD).table.frames.length (⟨A1, c1, B1, d1, some ⟨w2.heap.size, 0, none⟩, n⟩ : SA).fc, .slice (⟨A1, c1, B1, d1, some ⟨w2.heap.size, 0, none⟩, n⟩ : SA).q (⟨tb, List.replicate n ⟨[], []⟩⟩ : SysD).cpus.length (⟨A1, c1, B1, d1, some ⟨w2.heap.size, 0, none⟩, n⟩ : SA).qc], .bool true]) (by simp [results, Tryd.results8, go_sem, qR0, qR1, qR2, jR]) rfl
    ⟨(⟨A1, c1, B1, d1, some ⟨w2.heap.size, 0, none⟩, n⟩ : SA), rfl, ⟨HB4.out.mono (by omega), HF4.out.mono (by omega), by simpa using HQ4.out.mono (by omega), by simp⟩, E4.out⟩

set_option maxHeartbeats 4000000 in
theorem newSysI_c (f b c : Int) (w : World) (hv : FreeV w) : Calls Tryd.prog 9 #[.int .i64 f, .int .i64 b, .int .i64 c] w
    (MadeSys (newSys f b c) w) := by
  have C1 := Lib.hid (fun w' (h : Ex w w') => newTableI_c f b w' (hv.ex h))
  unfold newSys
  generalize newTable f b = q1 at C1 ⊢
  obtain ⟨tb, p1⟩ := q1
  dsimp only at C1 ⊢
  clear hv
  by_cases hp : p1 = true ∧ 1 ≤ c ∧ c ≤ 4
  rotate_left
  · rw [if_neg hp]
    have HP : Hid (p1 = false ∨ (p1 = true ∧ c < 1) ∨ (p1 = true ∧ 1 ≤ c ∧ 4 < c)) := Lib.hid (by cases p1 <;> simp at hp ⊢; omega)
    clear hp
    go_enter Tryd.func9, Tryd.ntmps9
    go_wp2_with fail
    refine name_calls ?_; intro v1 hv1
    have X1 : Hid (Chg (0) (0) w v1) := Lib.hid (by rw [hv1]; repeat' (first | with_reducible exact Chg.refl _ _ _ | with_reducible refine Chg.alloc ?_ _ | with_reducible refine Chg.drew ?_ | with_reducible refine Chg.set ?_ (by omega) _))
    have t1 : w.heap.size ≤ v1.heap.size := X1.out.size
    have Ev1 : Hid (Ex w v1) := Lib.hid ((Ex.refl w).chg X1.out (by omega))
    have KR : Hid (Blk v1 (w.heap.size) 28 [.slice none 0 0, .slice none 0 0, .slice none 0 0]) := Lib.hid (by rw [hv1]; repeat' (first | with_reducible exact Blk.new_at _ _ _ (by simp) | with_reducible refine Blk.alloc ?_ _ | with_reducible refine Blk.drew ?_ | with_reducible refine Blk.far ?_ (by simp; omega) _))
    have lR : w.heap.size < v1.heap.size := KR.out.lt
    clear hv1
    refine (C1.out _ Ev1.out).mono ?_; rintro r w1 ⟨A1, c1, B1, d1, m1, rfl, hf1, hf1b, hhra1, hhm1, hhm2, hb1⟩
    have Y1 : Hid (Chg 0 0 v1 w1) := Lib.hid (Chg.of_ex hb1)
    have s1 : v1.heap.size ≤ w1.heap.size := Y1.out.size
    have Ew1 : Hid (Ex w w1) := Lib.hid (Ev1.out.chg Y1.out (by omega))
    clear hb1
    replace KR : Hid (Blk w1 (w.heap.size) 28 [.slice none 0 0, .slice none 0 0, .slice none 0 0]) := Lib.hid (KR.out.chg Y1.out (by omega))
    have HF1 := Lib.hid hf1; clear hf1
    have WHF1 := Lib.hid HF1.out.row
    have HF1B := Lib.hid hf1b; clear hf1b
    have WHF1B := Lib.hid HF1B.out.row
    have HHRA1 := Lib.hid hhra1; clear hhra1
    have HHM1 := Lib.hid hhm1; clear hhm1
    have HHM2 := Lib.hid hhm2; clear hhm2
    obtain ⟨qR0, qR1, qR2⟩ := KR.out.c3
    have jR := KR.out.lt
    have zR := KR.out.frozen
    rcases HP.out with rfl | ⟨rfl, h1⟩ | ⟨rfl, h1, h2⟩
    all_goals
      go_wp2
      exact bodyPost_ret (v := .tuple #[.agg #[.slice none 0 0, .slice none 0 0, .slice none 0 0], .bool false]) (by simp [results, Tryd.results9, go_sem, qR0, qR1, qR2, jR]) rfl
        ⟨⟨none, 0, none, 0, none, 0⟩, w.heap.size, w.heap.size, rfl, Fr.none_ _ _ _ _, Fr.none_ _ _ _ _, Fr.none_ _ _ _ _, rfl, ⟨fun x e => by simp [rowOf] at e, fun x e => by simp [rowOf] at e⟩, ⟨Nat.le_refl _, Nat.le_refl _, Ex.size (by repeat' (first | with_reducible exact Ew1.out | with_reducible refine Ex.alloc ?_ _ | with_reducible refine Ex.drew ?_ | with_reducible refine Ex.put ?_ (by omega) _))⟩, (by repeat' (first | with_reducible exact Ew1.out | with_reducible refine Ex.alloc ?_ _ | with_reducible refine Ex.drew ?_ | with_reducible refine Ex.put ?_ (by omega) _))⟩
  rw [if_pos hp]
  obtain ⟨rfl, hc1, hc2⟩ := hp
  obtain ⟨n, rfl⟩ := Int.eq_ofNat_of_zero_le (show 0 ≤ c by omega)
  simp only [Int.toNat_natCast]
  have hmk := make_rec (P := Tryd.prog) (α := CpuR) 26 123 48 nilC _ Tryd.underlying26 infoMCpu rfl n (by omega) (by omega)
  go_enter Tryd.func9, Tryd.ntmps9
  go_wp2_with fail
  refine name_calls ?_; intro v1 hv1
  have X1 : Hid (Chg (0) (0) w v1) := Lib.hid (by rw [hv1]; repeat' (first | with_reducible exact Chg.refl _ _ _ | with_reducible refine Chg.alloc ?_ _ | with_reducible refine Chg.drew ?_ | with_reducible refine Chg.set ?_ (by omega) _))
  have t1 : w.heap.size ≤ v1.heap.size := X1.out.size
  have Ev1 : Hid (Ex w v1) := Lib.hid ((Ex.refl w).chg X1.out (by omega))
  have KR : Hid (Blk v1 (w.heap.size) 28 [.slice none 0 0, .slice none 0 0, .slice none 0 0]) := Lib.hid (by rw [hv1]; repeat' (first | with_reducible exact Blk.new_at _ _ _ (by simp) | with_reducible refine Blk.alloc ?_ _ | with_reducible refine Blk.drew ?_ | with_reducible refine Blk.far ?_ (by simp; omega) _))
  have lR : w.heap.size < v1.heap.size := KR.out.lt
  clear hv1
  refine (C1.out _ Ev1.out).mono ?_; rintro r w1 ⟨A1, c1, B1, d1, m1, rfl, hf1, hf1b, hhra1, hhm1, hhm2, hb1⟩
  have Y1 : Hid (Chg 0 0 v1 w1) := Lib.hid (Chg.of_ex hb1)
  have s1 : v1.heap.size ≤ w1.heap.size := Y1.out.size
  have Ew1 : Hid (Ex w w1) := Lib.hid (Ev1.out.chg Y1.out (by omega))
  clear hb1
  replace KR : Hid (Blk w1 (w.heap.size) 28 [.slice none 0 0, .slice none 0 0, .slice none 0 0]) := Lib.hid (KR.out.chg Y1.out (by omega))
  have HF1 := Lib.hid hf1; clear hf1
  have WHF1 := Lib.hid HF1.out.row
  have HF1B := Lib.hid hf1b; clear hf1b
  have WHF1B := Lib.hid HF1B.out.row
  have HHRA1 := Lib.hid hhra1; clear hhra1
  have HHM1 := Lib.hid hhm1; clear hhm1
  have HHM2 := Lib.hid hhm2; clear hhm2
  obtain ⟨qR0, qR1, qR2⟩ := KR.out.c3
  have jR := KR.out.lt
  have zR := KR.out.frozen
  have hm1a := HHM1.out
  have hm1b := HHM2.out
  have hne : ¬ w.heap.size = w1.heap.size := by omega
  have hne' : ¬ w1.heap.size = w.heap.size := by omega
  have hne2 : ¬ w.heap.size = w1.heap.size + 1 := by omega
  have hne2' : ¬ w1.heap.size + 1 = w.heap.size := by omega
  go_wp2
  obtain ⟨w2, hw2⟩ : ∃ w2 : World, w2 = w1.alloc (.cells #[.slice A1 tb.buckets.length c1, .slice B1 tb.frames.length d1] 25) := ⟨_, rfl⟩
  have KT2 : Hid (Blk w2 w1.heap.size 25 [.slice A1 tb.buckets.length c1, .slice B1 tb.frames.length d1]) := Lib.hid (by rw [hw2]; exact Blk.new _ _ _)
  have KR2 : Hid (Blk w2 w.heap.size 28 [.slice none 0 0, .slice none 0 0, .slice none 0 0]) := Lib.hid (by rw [hw2]; exact KR.out.alloc _)
  have E2 : Hid (Ex w1 w2) := Lib.hid (by rw [hw2]; exact (Ex.refl w1).alloc _)
  rw [← hw2]
  clear hw2 KR qR0 qR1 qR2 jR zR
  obtain ⟨qR0, qR1, qR2⟩ := KR2.out.c3
  obtain ⟨qT0, qT1⟩ := KT2.out.c2
  have jR := KR2.out.lt
  have jT := KT2.out.lt
  have zR := KR2.out.frozen
  have hs1 : ¬ w.heap.size = w2.heap.size := by omega
  have hs2 : ¬ w1.heap.size = w2.heap.size := by omega
  go_region
  have hsz : (((w2.setCell ⟨w.heap.size, 0, none⟩ (.slice A1 tb.buckets.length c1)).setCell ⟨w.heap.size, 1, none⟩ (.slice B1 tb.frames.length d1)).setCell ⟨w.heap.size, 2, none⟩ (.slice (some ⟨w2.heap.size, 0, none⟩) n n)).heap.size = w2.heap.size := by simp
  obtain ⟨w3, hw3⟩ : ∃ w3 : World, w3 = ((w2.setCell ⟨w.heap.size, 0, none⟩ (.slice A1 tb.buckets.length c1)).setCell ⟨w.heap.size, 1, none⟩ (.slice B1 tb.frames.length d1)).setCell ⟨w.heap.size, 2, none⟩ (.slice (some ⟨w2.heap.size, 0, none⟩) n n) := ⟨_, rfl⟩
  rw [← hw3] at hsz ⊢
  have KR3 : Hid (Blk w3 w.heap.size 28 [.slice A1 tb.buckets.length c1, .slice B1 tb.frames.length d1, .slice (some ⟨w2.heap.size, 0, none⟩) n n]) := Lib.hid (by rw [hw3]; exact ((KR2.out.set 0 _).set 1 _).set 2 _)
  have HB3 : Hid (Fr 3 w3 v1.heap.size A1 c1 tb.buckets) := Lib.hid (by rw [hw3]; exact (((HF1.out.ex E2.out).set_below lR _).set_below lR _).set_below lR _)
  have HF3 : Hid (Fr 99 w3 m1 B1 d1 tb.frames) := Lib.hid (by rw [hw3]; exact (((HF1B.out.ex E2.out).set_below (Nat.lt_of_lt_of_le lR hm1a) _).set_below (Nat.lt_of_lt_of_le lR hm1a) _).set_below (Nat.lt_of_lt_of_le lR hm1a) _)
  have E3 : Hid (Ex w w3) := Lib.hid (by rw [hw3]; exact (((Ew1.out.trans E2.out).set (Nat.le_refl _) _).set (Nat.le_refl _) _).set (Nat.le_refl _) _)
  clear hw3 qR0 qR1 qR2 qT0 qT1 jR jT zR KR2 KT2 hs1 hs2 hne hne' hne2 hne2'
  have hge := E2.out.size
  obtain ⟨w4, hw4⟩ : ∃ w4 : World, w4 = (w3.alloc (.cells (flat (List.replicate n nilC)).toArray 123)).drew := ⟨_, rfl⟩
  rw [← hw4]
  have HQ4 : Hid (Fr 123 w4 w2.heap.size (some ⟨w2.heap.size, 0, none⟩) n (List.replicate n nilC)) := Lib.hid (by rw [hw4]; exact ⟨by simp, by simp only [maxLen]; omega, .inr ⟨_, [], rfl, Nat.le_refl _, Bk.drew (by rw [← hsz]; exact Bk.new _ _ _), by simp⟩⟩)
  have KR4 : Hid (Blk w4 w.heap.size 28 [.slice A1 tb.buckets.length c1, .slice B1 tb.frames.length d1, .slice (some ⟨w2.heap.size, 0, none⟩) n n]) := Lib.hid (by rw [hw4]; exact Blk.drew (KR3.out.alloc _))
  have HB4 : Hid (Fr 3 w4 v1.heap.size A1 c1 tb.buckets) := Lib.hid (by rw [hw4]; exact Fr.drew (HB3.out.alloc _))
  have HF4 : Hid (Fr 99 w4 m1 B1 d1 tb.frames) := Lib.hid (by rw [hw4]; exact Fr.drew (HF3.out.alloc _))
  have E4 : Hid (Ex w w4) := Lib.hid (by rw [hw4]; exact (E3.out.alloc _).drew)
  have hs4 : w2.heap.size ≤ w4.heap.size := by rw [hw4]; show w2.heap.size ≤ (w3.alloc _).heap.size; rw [← hsz]; simp
  clear hw4 KR3 HB3 HF3 E3 hsz
  obtain ⟨qR0, qR1, qR2⟩ := KR4.out.c3
  have jR := KR4.out.lt
  go_wp2
  exact bodyPost_ret (v := .tuple #[.agg #[.slice (⟨A1, c1, B1, d1, some ⟨w2.heap.size, 0, none⟩, n⟩ : SA).b (⟨tb, List.replicate n ⟨[], []⟩⟩ : SysD).table.buckets.length (⟨A1, c1, B1, d1, some ⟨w2.heap.size, 0, none⟩, n⟩ : SA).bc, .slice (⟨A1, c1, B1, d1, some ⟨w2.heap.size, 0, none⟩, n⟩ : SA).f (⟨tb, List.replicate n ⟨[], []⟩⟩ : SysD).table.frames.length (⟨A1, c1, B1, d1, some ⟨w2.heap.size, 0, none⟩, n⟩ : SA).fc, .slice (⟨A1, c1, B1, d1, some ⟨w2.heap.size, 0, none⟩, n⟩ : SA).q (⟨tb, List.replicate n ⟨[], []⟩⟩ : SysD).cpus.length (⟨A1, c1, B1, d1, some ⟨w2.heap.size, 0, none⟩, n⟩ : SA).qc], .bool true]) (by simp [results, Tryd.results9, go_sem, qR0, qR1, qR2, jR]) rfl
    ⟨(⟨A1, c1, B1, d1, some ⟨w2.heap.size, 0, none⟩, n⟩ : SA), m1, w2.heap.size, rfl, HB4.out.mono (by omega), HF4.out, by simpa using HQ4.out, by simp, ⟨fun x e => HHRA1.out x e, fun x e => by have := WHF1B.out x e; omega⟩, ⟨by omega, by omega, hs4⟩, E4.out⟩
end Go.Proofs.YtkoegcalfibinaaDoor
