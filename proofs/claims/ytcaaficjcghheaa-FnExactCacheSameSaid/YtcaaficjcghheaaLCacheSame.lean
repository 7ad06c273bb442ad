/- The law FnExactCacheSame: the walk. -/
import Derived.Test.YtcaaficjcghheaaCc
import Derived.Deep.RegionHeld3
namespace Go.Proofs.Ytcaaficjcghheaa
open Go.ChangeShapes Go.WideShapes Go.ChangeAt Go.RowKit
open Rec (sz cs)
set_option linter.unusedVariables false
set_option maxRecDepth 100000

set_option maxHeartbeats 1000000 in
theorem walk_FnExactCacheSame (x : CacheD) (A : Option Addr) (c : Nat) (y : CacheD) (B : Option Addr) (d : Nat) (w : World) (hx : Rd w A x.lines) (hxl : x.lines.length ≤ maxLen) (hy : Rd w B y.lines) (hyl : y.lines.length ≤ maxLen) :
    Calls Try.prog 3 #[.agg #[.slice A x.lines.length c, .int .i64 x.hand], .agg #[.slice B y.lines.length d, .int .i64 y.hand]] w fun r w' => r = .returned (.bool true) ∧ Ex w w' := by
  have HX := Lib.hid hx
  have HY := Lib.hid hy
  have HXL := Lib.hid hxl
  have HYL := Lib.hid hyl
  clear hx hy hxl hyl
  by_cases h1 : (1048576 : Int) < x.lines.length
  · go_enter Try.func3, Try.ntmps3
    go_wp2_with fail
    refine (szCache_c x _ _ _ _ (by omega) (by omega) HXL.out).mono ?_; rintro r w1 ⟨rfl, hb1⟩
    have s1 : w.heap.size ≤ w1.heap.size := by have := hb1.size; first | omega | (simp at this; omega)
    have E1 : Hid (Ex w w1) := Lib.hid (by first | exact (Ex.refl w).trans hb1 | exact ((Ex.refl w).alloc _).trans hb1 | exact (((Ex.refl w).alloc _).alloc _).trans hb1 | exact ((((Ex.refl w).alloc _).alloc _).alloc _).trans hb1 | exact (((((Ex.refl w).alloc _).alloc _).alloc _).alloc _).trans hb1 | exact ((((((Ex.refl w).alloc _).alloc _).alloc _).alloc _).alloc _).trans hb1 | exact (((((((Ex.refl w).alloc _).alloc _).alloc _).alloc _).alloc _).alloc _).trans hb1)
    have HB1 := Lib.hid hb1; clear hb1
    rw [szI_neg (by omega)]
    go_wp2
    go_ret
    exact ⟨rfl, E1.out⟩
  by_cases h2 : (1048576 : Int) - x.lines.length < y.lines.length
  · have h3 : ¬ ((1048576 : Int) - x.lines.length < 0) := by omega
    go_enter Try.func3, Try.ntmps3
    go_wp2_with fail
    refine (szCache_c x _ _ _ _ (by omega) (by omega) HXL.out).mono ?_; rintro r w1 ⟨rfl, hb1⟩
    have s1 : w.heap.size ≤ w1.heap.size := by have := hb1.size; first | omega | (simp at this; omega)
    have E1 : Hid (Ex w w1) := Lib.hid (by first | exact (Ex.refl w).trans hb1 | exact ((Ex.refl w).alloc _).trans hb1 | exact (((Ex.refl w).alloc _).alloc _).trans hb1 | exact ((((Ex.refl w).alloc _).alloc _).alloc _).trans hb1 | exact (((((Ex.refl w).alloc _).alloc _).alloc _).alloc _).trans hb1 | exact ((((((Ex.refl w).alloc _).alloc _).alloc _).alloc _).alloc _).trans hb1 | exact (((((((Ex.refl w).alloc _).alloc _).alloc _).alloc _).alloc _).alloc _).trans hb1)
    have KY : Hid (Blk w1 (w.heap.size + 1) 24 [.slice B y.lines.length d, .int .i64 y.hand]) := Lib.hid (by first | exact (Blk.new_at _ _ _ (by simp)).ex hb1 | exact ((Blk.new_at _ _ _ (by simp)).alloc _).ex hb1 | exact (((Blk.new_at _ _ _ (by simp)).alloc _).alloc _).ex hb1 | exact ((((Blk.new_at _ _ _ (by simp)).alloc _).alloc _).alloc _).ex hb1 | exact (((((Blk.new_at _ _ _ (by simp)).alloc _).alloc _).alloc _).alloc _).ex hb1)
    obtain ⟨qY0, qY1⟩ := KY.out.c2
    have lY := KY.out.lt
    have HB1 := Lib.hid hb1; clear hb1
    rw [szI_pos (by omega)]
    go_wp2_with fail
    refine (szCache_c y _ _ _ _ (by omega) (by omega) HYL.out).mono ?_; rintro r w2 ⟨rfl, hb2⟩
    have s2 : w1.heap.size ≤ w2.heap.size := by have := hb2.size; first | omega | (simp at this; omega)
    have E2 : Hid (Ex w w2) := Lib.hid (by first | exact E1.out.trans hb2 | exact (E1.out.alloc _).trans hb2 | exact ((E1.out.alloc _).alloc _).trans hb2 | exact (((E1.out.alloc _).alloc _).alloc _).trans hb2 | exact ((((E1.out.alloc _).alloc _).alloc _).alloc _).trans hb2 | exact (((((E1.out.alloc _).alloc _).alloc _).alloc _).alloc _).trans hb2 | exact ((((((E1.out.alloc _).alloc _).alloc _).alloc _).alloc _).alloc _).trans hb2)
    clear qY0 qY1 lY
    replace KY : Hid (Blk w2 (w.heap.size + 1) 24 [.slice B y.lines.length d, .int .i64 y.hand]) := Lib.hid (by first | exact KY.out.ex hb2 | exact (KY.out.alloc _).ex hb2 | exact ((KY.out.alloc _).alloc _).ex hb2 | exact (((KY.out.alloc _).alloc _).alloc _).ex hb2 | exact ((((KY.out.alloc _).alloc _).alloc _).alloc _).ex hb2)
    obtain ⟨qY0, qY1⟩ := KY.out.c2
    have lY := KY.out.lt
    have HB2 := Lib.hid hb2; clear hb2
    rw [szI_neg (by omega)]
    go_wp2
    go_ret
    exact ⟨rfl, E2.out⟩
  have hnx : x.lines.length ≤ 1048576 := by omega
  have hny : y.lines.length ≤ 1048576 := by omega
  have h3 : ¬ ((1048576 : Int) - x.lines.length < 0) := by omega
  have h4 : ¬ ((1048576 : Int) - x.lines.length - y.lines.length < 0) := by omega
  go_enter Try.func3, Try.ntmps3
  go_wp2_with fail
  refine (szCache_c x _ _ _ _ (by omega) (by omega) HXL.out).mono ?_; rintro r w1 ⟨rfl, hb1⟩
  have s1 : w.heap.size ≤ w1.heap.size := by have := hb1.size; first | omega | (simp at this; omega)
  have E1 : Hid (Ex w w1) := Lib.hid (by first | exact (Ex.refl w).trans hb1 | exact ((Ex.refl w).alloc _).trans hb1 | exact (((Ex.refl w).alloc _).alloc _).trans hb1 | exact ((((Ex.refl w).alloc _).alloc _).alloc _).trans hb1 | exact (((((Ex.refl w).alloc _).alloc _).alloc _).alloc _).trans hb1 | exact ((((((Ex.refl w).alloc _).alloc _).alloc _).alloc _).alloc _).trans hb1 | exact (((((((Ex.refl w).alloc _).alloc _).alloc _).alloc _).alloc _).alloc _).trans hb1)
  have KX : Hid (Blk w1 (w.heap.size) 24 [.slice A x.lines.length c, .int .i64 x.hand]) := Lib.hid (by first | exact (Blk.new_at _ _ _ (by simp)).ex hb1 | exact ((Blk.new_at _ _ _ (by simp)).alloc _).ex hb1 | exact (((Blk.new_at _ _ _ (by simp)).alloc _).alloc _).ex hb1 | exact ((((Blk.new_at _ _ _ (by simp)).alloc _).alloc _).alloc _).ex hb1 | exact (((((Blk.new_at _ _ _ (by simp)).alloc _).alloc _).alloc _).alloc _).ex hb1)
  obtain ⟨qX0, qX1⟩ := KX.out.c2
  have lX := KX.out.lt
  have KY : Hid (Blk w1 (w.heap.size + 1) 24 [.slice B y.lines.length d, .int .i64 y.hand]) := Lib.hid (by first | exact (Blk.new_at _ _ _ (by simp)).ex hb1 | exact ((Blk.new_at _ _ _ (by simp)).alloc _).ex hb1 | exact (((Blk.new_at _ _ _ (by simp)).alloc _).alloc _).ex hb1 | exact ((((Blk.new_at _ _ _ (by simp)).alloc _).alloc _).alloc _).ex hb1 | exact (((((Blk.new_at _ _ _ (by simp)).alloc _).alloc _).alloc _).alloc _).ex hb1)
  obtain ⟨qY0, qY1⟩ := KY.out.c2
  have lY := KY.out.lt
  have HB1 := Lib.hid hb1; clear hb1
  rw [szI_pos (by omega)]
  go_wp2_with fail
  refine (szCache_c y _ _ _ _ (by omega) (by omega) HYL.out).mono ?_; rintro r w2 ⟨rfl, hb2⟩
  have s2 : w1.heap.size ≤ w2.heap.size := by have := hb2.size; first | omega | (simp at this; omega)
  have E2 : Hid (Ex w w2) := Lib.hid (by first | exact E1.out.trans hb2 | exact (E1.out.alloc _).trans hb2 | exact ((E1.out.alloc _).alloc _).trans hb2 | exact (((E1.out.alloc _).alloc _).alloc _).trans hb2 | exact ((((E1.out.alloc _).alloc _).alloc _).alloc _).trans hb2 | exact (((((E1.out.alloc _).alloc _).alloc _).alloc _).alloc _).trans hb2 | exact ((((((E1.out.alloc _).alloc _).alloc _).alloc _).alloc _).alloc _).trans hb2)
  clear qX0 qX1 lX
  replace KX : Hid (Blk w2 (w.heap.size) 24 [.slice A x.lines.length c, .int .i64 x.hand]) := Lib.hid (by first | exact KX.out.ex hb2 | exact (KX.out.alloc _).ex hb2 | exact ((KX.out.alloc _).alloc _).ex hb2 | exact (((KX.out.alloc _).alloc _).alloc _).ex hb2 | exact ((((KX.out.alloc _).alloc _).alloc _).alloc _).ex hb2)
  obtain ⟨qX0, qX1⟩ := KX.out.c2
  have lX := KX.out.lt
  clear qY0 qY1 lY
  replace KY : Hid (Blk w2 (w.heap.size + 1) 24 [.slice B y.lines.length d, .int .i64 y.hand]) := Lib.hid (by first | exact KY.out.ex hb2 | exact (KY.out.alloc _).ex hb2 | exact ((KY.out.alloc _).alloc _).ex hb2 | exact (((KY.out.alloc _).alloc _).alloc _).ex hb2 | exact ((((KY.out.alloc _).alloc _).alloc _).alloc _).ex hb2)
  obtain ⟨qY0, qY1⟩ := KY.out.c2
  have lY := KY.out.lt
  have HB2 := Lib.hid hb2; clear hb2
  rw [szI_pos (by omega)]
  go_wp2_with fail
  have HXW : Hid (Rd w2 A x.lines) := Lib.hid (HX.out.ex E2.out)
  have HYW : Hid (Rd w2 B y.lines) := Lib.hid (HY.out.ex E2.out)
  go_region_held3 (fun w' => (w'.cell? ⟨w.heap.size, 0, none⟩ = some (.slice A x.lines.length c) ∧ w'.cell? ⟨w.heap.size, 1, none⟩ = some (.int .i64 x.hand)) ∧ (w'.cell? ⟨(w.heap.size + 1), 0, none⟩ = some (.slice B y.lines.length d) ∧ w'.cell? ⟨(w.heap.size + 1), 1, none⟩ = some (.int .i64 y.hand)))
    (first | exact ⟨KX.out.c2, KY.out.c2⟩ | exact ⟨(Blk.ex (Blk.drew KX.out) hb3).c2, (Blk.ex (Blk.drew KY.out) hb3).c2⟩ | exact ⟨(Blk.ex (Blk.ex (Blk.drew KX.out) hb3) hb4).c2, (Blk.ex (Blk.ex (Blk.drew KY.out) hb3) hb4).c2⟩ | exact ⟨(Blk.ex (Blk.ex (Blk.ex (Blk.drew KX.out) hb3) hb4) hb5).c2, (Blk.ex (Blk.ex (Blk.ex (Blk.drew KY.out) hb3) hb4) hb5).c2⟩)
    (first
      | (go_at_call 18; (with_reducible refine (toCache_c x A c _ ?_ hnx).mono ?_); (exact Rd.drew HXW.out); rintro r w3 ⟨A3, c3, rfl, hf3, hb3⟩; obtain ⟨hc3, hz3⟩ := ex_rules hb3)
      | (go_at_call 18; (with_reducible refine (toCache_c y B d _ ?_ hny).mono ?_); (exact Rd.ex (Rd.drew HYW.out) hb3); rintro r w4 ⟨A4, c4, rfl, hf4, hb4⟩; obtain ⟨hc4, hz4⟩ := ex_rules hb4)
      | (go_at_call 17; (with_reducible refine (cacheSameS_c x y _ _ _ _ _ ?_ ?_ hnx hny).mono ?_); (exact hf3.rd.ex hb4); (exact hf4.rd); rintro r w5 ⟨rfl, hb5⟩))
  rename_i hHeld
  clear hHeld
  have HB5 : Hid (Ex w2 w5) := Lib.hid ((((Ex.refl _).drew.trans hb3).trans hb4).trans hb5)
  have s5 : w2.heap.size ≤ w5.heap.size := HB5.out.size
  have E5 : Hid (Ex w w5) := Lib.hid (E2.out.trans HB5.out)
  clear qX0 qX1 lX
  replace KX : Hid (Blk w5 (w.heap.size) 24 [.slice A x.lines.length c, .int .i64 x.hand]) := Lib.hid (KX.out.ex HB5.out)
  obtain ⟨qX0, qX1⟩ := KX.out.c2
  have lX := KX.out.lt
  clear qY0 qY1 lY
  replace KY : Hid (Blk w5 (w.heap.size + 1) 24 [.slice B y.lines.length d, .int .i64 y.hand]) := Lib.hid (KY.out.ex HB5.out)
  obtain ⟨qY0, qY1⟩ := KY.out.c2
  have lY := KY.out.lt
  clear hb3 hb4 hb5 hf3 hf4
  go_wp2_with fail
  refine (toCache_c x A c _ (HX.out.ex E5.out) hnx).mono ?_; rintro r w6 ⟨A6, c6, rfl, hf6, hb6⟩
  have s6 : w5.heap.size ≤ w6.heap.size := by have := hb6.size; first | omega | (simp at this; omega)
  have E6 : Hid (Ex w w6) := Lib.hid (by first | exact E5.out.trans hb6 | exact (E5.out.alloc _).trans hb6 | exact ((E5.out.alloc _).alloc _).trans hb6 | exact (((E5.out.alloc _).alloc _).alloc _).trans hb6 | exact ((((E5.out.alloc _).alloc _).alloc _).alloc _).trans hb6 | exact (((((E5.out.alloc _).alloc _).alloc _).alloc _).alloc _).trans hb6 | exact ((((((E5.out.alloc _).alloc _).alloc _).alloc _).alloc _).alloc _).trans hb6)
  clear qX0 qX1 lX
  replace KX : Hid (Blk w6 (w.heap.size) 24 [.slice A x.lines.length c, .int .i64 x.hand]) := Lib.hid (by first | exact KX.out.ex hb6 | exact (KX.out.alloc _).ex hb6 | exact ((KX.out.alloc _).alloc _).ex hb6 | exact (((KX.out.alloc _).alloc _).alloc _).ex hb6 | exact ((((KX.out.alloc _).alloc _).alloc _).alloc _).ex hb6)
  obtain ⟨qX0, qX1⟩ := KX.out.c2
  have lX := KX.out.lt
  clear qY0 qY1 lY
  replace KY : Hid (Blk w6 (w.heap.size + 1) 24 [.slice B y.lines.length d, .int .i64 y.hand]) := Lib.hid (by first | exact KY.out.ex hb6 | exact (KY.out.alloc _).ex hb6 | exact ((KY.out.alloc _).alloc _).ex hb6 | exact (((KY.out.alloc _).alloc _).alloc _).ex hb6 | exact ((((KY.out.alloc _).alloc _).alloc _).alloc _).ex hb6)
  obtain ⟨qY0, qY1⟩ := KY.out.c2
  have lY := KY.out.lt
  have HB6 := Lib.hid hb6; clear hb6
  have HF6 := Lib.hid hf6; clear hf6
  go_wp2_with fail
  refine (toCache_c y B d _ (HY.out.ex ((E6.out.alloc _))) hny).mono ?_; rintro r w7 ⟨A7, c7, rfl, hf7, hb7⟩
  have s7 : w6.heap.size ≤ w7.heap.size := by have := hb7.size; first | omega | (simp at this; omega)
  have E7 : Hid (Ex w w7) := Lib.hid (by first | exact E6.out.trans hb7 | exact (E6.out.alloc _).trans hb7 | exact ((E6.out.alloc _).alloc _).trans hb7 | exact (((E6.out.alloc _).alloc _).alloc _).trans hb7 | exact ((((E6.out.alloc _).alloc _).alloc _).alloc _).trans hb7 | exact (((((E6.out.alloc _).alloc _).alloc _).alloc _).alloc _).trans hb7 | exact ((((((E6.out.alloc _).alloc _).alloc _).alloc _).alloc _).alloc _).trans hb7)
  clear qX0 qX1 lX
  replace KX : Hid (Blk w7 (w.heap.size) 24 [.slice A x.lines.length c, .int .i64 x.hand]) := Lib.hid (by first | exact KX.out.ex hb7 | exact (KX.out.alloc _).ex hb7 | exact ((KX.out.alloc _).alloc _).ex hb7 | exact (((KX.out.alloc _).alloc _).alloc _).ex hb7 | exact ((((KX.out.alloc _).alloc _).alloc _).alloc _).ex hb7)
  obtain ⟨qX0, qX1⟩ := KX.out.c2
  have lX := KX.out.lt
  clear qY0 qY1 lY
  replace KY : Hid (Blk w7 (w.heap.size + 1) 24 [.slice B y.lines.length d, .int .i64 y.hand]) := Lib.hid (by first | exact KY.out.ex hb7 | exact (KY.out.alloc _).ex hb7 | exact ((KY.out.alloc _).alloc _).ex hb7 | exact (((KY.out.alloc _).alloc _).alloc _).ex hb7 | exact ((((KY.out.alloc _).alloc _).alloc _).alloc _).ex hb7)
  obtain ⟨qY0, qY1⟩ := KY.out.c2
  have lY := KY.out.lt
  have KG : Hid (Blk w7 (w6.heap.size) 29 [.slice A6 x.lines.length c6, .int .i64 x.hand]) := Lib.hid (by first | exact (Blk.new_at _ _ _ (by simp)).ex hb7 | exact ((Blk.new_at _ _ _ (by simp)).alloc _).ex hb7 | exact (((Blk.new_at _ _ _ (by simp)).alloc _).alloc _).ex hb7 | exact ((((Blk.new_at _ _ _ (by simp)).alloc _).alloc _).alloc _).ex hb7 | exact (((((Blk.new_at _ _ _ (by simp)).alloc _).alloc _).alloc _).alloc _).ex hb7)
  obtain ⟨qG0, qG1⟩ := KG.out.c2
  have lG := KG.out.lt
  have HB7 := Lib.hid hb7; clear hb7
  have HF7 := Lib.hid hf7; clear hf7
  have hRG : Hid (Rd w7 A6 x.lines) := Lib.hid ((HF6.out.rd.alloc _).ex HB7.out)
  go_wp2_with fail
  refine (cacheSameI_c x y _ _ _ _ _ (hRG.out.alloc _) (HF7.out.rd.alloc _) hnx hny).mono ?_; rintro r w8 ⟨rfl, hb8⟩
  have s8 : w7.heap.size ≤ w8.heap.size := by have := hb8.size; first | omega | (simp at this; omega)
  have E8 : Hid (Ex w w8) := Lib.hid (by first | exact E7.out.trans hb8 | exact (E7.out.alloc _).trans hb8 | exact ((E7.out.alloc _).alloc _).trans hb8 | exact (((E7.out.alloc _).alloc _).alloc _).trans hb8 | exact ((((E7.out.alloc _).alloc _).alloc _).alloc _).trans hb8 | exact (((((E7.out.alloc _).alloc _).alloc _).alloc _).alloc _).trans hb8 | exact ((((((E7.out.alloc _).alloc _).alloc _).alloc _).alloc _).alloc _).trans hb8)
  clear qX0 qX1 lX
  replace KX : Hid (Blk w8 (w.heap.size) 24 [.slice A x.lines.length c, .int .i64 x.hand]) := Lib.hid (by first | exact KX.out.ex hb8 | exact (KX.out.alloc _).ex hb8 | exact ((KX.out.alloc _).alloc _).ex hb8 | exact (((KX.out.alloc _).alloc _).alloc _).ex hb8 | exact ((((KX.out.alloc _).alloc _).alloc _).alloc _).ex hb8)
  obtain ⟨qX0, qX1⟩ := KX.out.c2
  have lX := KX.out.lt
  clear qY0 qY1 lY
  replace KY : Hid (Blk w8 (w.heap.size + 1) 24 [.slice B y.lines.length d, .int .i64 y.hand]) := Lib.hid (by first | exact KY.out.ex hb8 | exact (KY.out.alloc _).ex hb8 | exact ((KY.out.alloc _).alloc _).ex hb8 | exact (((KY.out.alloc _).alloc _).alloc _).ex hb8 | exact ((((KY.out.alloc _).alloc _).alloc _).alloc _).ex hb8)
  obtain ⟨qY0, qY1⟩ := KY.out.c2
  have lY := KY.out.lt
  clear qG0 qG1 lG
  replace KG : Hid (Blk w8 (w6.heap.size) 29 [.slice A6 x.lines.length c6, .int .i64 x.hand]) := Lib.hid (by first | exact KG.out.ex hb8 | exact (KG.out.alloc _).ex hb8 | exact ((KG.out.alloc _).alloc _).ex hb8 | exact (((KG.out.alloc _).alloc _).alloc _).ex hb8 | exact ((((KG.out.alloc _).alloc _).alloc _).alloc _).ex hb8)
  obtain ⟨qG0, qG1⟩ := KG.out.c2
  have lG := KG.out.lt
  have KH : Hid (Blk w8 (w7.heap.size) 29 [.slice A7 y.lines.length c7, .int .i64 y.hand]) := Lib.hid (by first | exact (Blk.new_at _ _ _ (by simp)).ex hb8 | exact ((Blk.new_at _ _ _ (by simp)).alloc _).ex hb8 | exact (((Blk.new_at _ _ _ (by simp)).alloc _).alloc _).ex hb8 | exact ((((Blk.new_at _ _ _ (by simp)).alloc _).alloc _).alloc _).ex hb8 | exact (((((Blk.new_at _ _ _ (by simp)).alloc _).alloc _).alloc _).alloc _).ex hb8)
  obtain ⟨qH0, qH1⟩ := KH.out.c2
  have lH := KH.out.lt
  have HB8 := Lib.hid hb8; clear hb8
  have hbb : (eqB x y != eqB x y) = false := by simp
  have hRG8 : Hid (Rd w8 A6 x.lines) := Lib.hid ((hRG.out.alloc _).ex HB8.out)
  have hRH8 : Hid (Rd w8 A7 y.lines) := Lib.hid ((HF7.out.rd.alloc _).ex HB8.out)
  have HX8 : Hid (Rd w8 A x.lines) := Lib.hid (HX.out.ex E8.out)
  go_wp2_with fail
  go_region_held3 (fun w' => (w'.cell? ⟨w6.heap.size, 0, none⟩ = some (.slice A6 x.lines.length c6) ∧ w'.cell? ⟨w6.heap.size, 1, none⟩ = some (.int .i64 x.hand)) ∧ (w'.cell? ⟨w.heap.size, 0, none⟩ = some (.slice A x.lines.length c) ∧ w'.cell? ⟨w.heap.size, 1, none⟩ = some (.int .i64 x.hand))) (first | exact ⟨KG.out.c2, KX.out.c2⟩ | exact ⟨(Blk.ex (Blk.drew KG.out) hb9a).c2, (Blk.ex (Blk.drew KX.out) hb9a).c2⟩ | exact ⟨(Blk.ex (Blk.ex (Blk.drew KG.out) hb9a) hb9).c2, (Blk.ex (Blk.ex (Blk.drew KX.out) hb9a) hb9).c2⟩) (first | (go_at_call 18; (with_reducible refine (toCache_c x A c _ ?_ hnx).mono ?_); (exact Rd.drew HX8.out); rintro r w9a ⟨A9, c9, rfl, hf9, hb9a⟩) | (go_at_call 20; (with_reducible refine (eqCache_self_c x _ _ _ _ _ ?_ ?_ hnx).mono ?_); (exact (Rd.drew hRG8.out).ex hb9a); (exact hf9.rd); rintro r w9 ⟨rfl, hb9⟩))
  have s9 : w8.heap.size ≤ w9.heap.size := by have := hb9a.size; have := hb9.size; simp at *; omega
  have E9 : Hid (Ex w w9) := Lib.hid (((E8.out.drew).trans hb9a).trans hb9)
  have HB9 : Hid (Ex w8 w9) := Lib.hid ((((Ex.refl _).drew).trans hb9a).trans hb9)
  clear qX0 qX1 lX
  replace KX : Hid (Blk w9 (w.heap.size) 24 [.slice A x.lines.length c, .int .i64 x.hand]) := Lib.hid (KX.out.ex HB9.out)
  obtain ⟨qX0, qX1⟩ := KX.out.c2
  have lX := KX.out.lt
  clear qY0 qY1 lY
  replace KY : Hid (Blk w9 (w.heap.size + 1) 24 [.slice B y.lines.length d, .int .i64 y.hand]) := Lib.hid (KY.out.ex HB9.out)
  obtain ⟨qY0, qY1⟩ := KY.out.c2
  have lY := KY.out.lt
  clear qG0 qG1 lG
  replace KG : Hid (Blk w9 (w6.heap.size) 29 [.slice A6 x.lines.length c6, .int .i64 x.hand]) := Lib.hid (KG.out.ex HB9.out)
  obtain ⟨qG0, qG1⟩ := KG.out.c2
  have lG := KG.out.lt
  clear qH0 qH1 lH
  replace KH : Hid (Blk w9 (w7.heap.size) 29 [.slice A7 y.lines.length c7, .int .i64 y.hand]) := Lib.hid (KH.out.ex HB9.out)
  obtain ⟨qH0, qH1⟩ := KH.out.c2
  have lH := KH.out.lt
  clear hb9a hb9 hf9
  rename_i hHeld
  clear hHeld
  have hRH9 : Hid (Rd w9 A7 y.lines) := Lib.hid (hRH8.out.ex HB9.out)
  have HY9 : Hid (Rd w9 B y.lines) := Lib.hid (HY.out.ex E9.out)
  go_wp2_with fail
  go_region_held3 (fun w' => (w'.cell? ⟨w7.heap.size, 0, none⟩ = some (.slice A7 y.lines.length c7) ∧ w'.cell? ⟨w7.heap.size, 1, none⟩ = some (.int .i64 y.hand)) ∧ (w'.cell? ⟨w.heap.size + 1, 0, none⟩ = some (.slice B y.lines.length d) ∧ w'.cell? ⟨w.heap.size + 1, 1, none⟩ = some (.int .i64 y.hand))) (first | exact ⟨KH.out.c2, KY.out.c2⟩ | exact ⟨(Blk.ex (Blk.drew KH.out) hb10a).c2, (Blk.ex (Blk.drew KY.out) hb10a).c2⟩ | exact ⟨(Blk.ex (Blk.ex (Blk.drew KH.out) hb10a) hb10).c2, (Blk.ex (Blk.ex (Blk.drew KY.out) hb10a) hb10).c2⟩) (first | (go_at_call 18; (with_reducible refine (toCache_c y B d _ ?_ hny).mono ?_); (exact Rd.drew HY9.out); rintro r w10a ⟨A10, c10, rfl, hf10, hb10a⟩) | (go_at_call 20; (with_reducible refine (eqCache_self_c y _ _ _ _ _ ?_ ?_ hny).mono ?_); (exact (Rd.drew hRH9.out).ex hb10a); (exact hf10.rd); rintro r w10 ⟨rfl, hb10⟩))
  have s10 : w9.heap.size ≤ w10.heap.size := by have := hb10a.size; have := hb10.size; simp at *; omega
  have E10 : Hid (Ex w w10) := Lib.hid (((E9.out.drew).trans hb10a).trans hb10)
  have HB10 : Hid (Ex w9 w10) := Lib.hid ((((Ex.refl _).drew).trans hb10a).trans hb10)
  clear qX0 qX1 lX
  replace KX : Hid (Blk w10 (w.heap.size) 24 [.slice A x.lines.length c, .int .i64 x.hand]) := Lib.hid (KX.out.ex HB10.out)
  obtain ⟨qX0, qX1⟩ := KX.out.c2
  have lX := KX.out.lt
  clear qY0 qY1 lY
  replace KY : Hid (Blk w10 (w.heap.size + 1) 24 [.slice B y.lines.length d, .int .i64 y.hand]) := Lib.hid (KY.out.ex HB10.out)
  obtain ⟨qY0, qY1⟩ := KY.out.c2
  have lY := KY.out.lt
  clear qG0 qG1 lG
  replace KG : Hid (Blk w10 (w6.heap.size) 29 [.slice A6 x.lines.length c6, .int .i64 x.hand]) := Lib.hid (KG.out.ex HB10.out)
  obtain ⟨qG0, qG1⟩ := KG.out.c2
  have lG := KG.out.lt
  clear qH0 qH1 lH
  replace KH : Hid (Blk w10 (w7.heap.size) 29 [.slice A7 y.lines.length c7, .int .i64 y.hand]) := Lib.hid (KH.out.ex HB10.out)
  obtain ⟨qH0, qH1⟩ := KH.out.c2
  have lH := KH.out.lt
  clear hb10a hb10 hf10
  rename_i hHeld
  clear hHeld
  go_wp2
  go_ret
  exact ⟨rfl, E10.out⟩
end Go.Proofs.Ytcaaficjcghheaa
