/- The law FnExactTagOf: the walk. -/
import Derived.Test.YtkiohppknlmfaaaTw
import Derived.Test.YtkiohppknlmfaaaTc
import Derived.Deep.RegionHeld3
namespace Go.Proofs.Ytkiohppknlmfaaa
open Go.ChangeShapes Go.WideShapes Go.ChangeAt Go.RowKit
open Rec (sz cs)
set_option linter.unusedVariables false
set_option maxRecDepth 100000

set_option maxHeartbeats 2000000 in
theorem walk_FnExactTagOf (t : TagsD) (A : Option Addr) (c : Nat) (space : Int) (w : World) (hx : Rd w A t.owns) (hxl : t.owns.length ≤ maxLen) :
    Calls Try.prog 6 #[.agg #[.int .i64 t.count, .int .i64 t.next, .int .i64 t.round, .slice A t.owns.length c], .int .i64 space] w fun r w' => r = .returned (.bool true) ∧ Ex w w' := by
  have HX := Lib.hid hx
  have HXL := Lib.hid hxl
  clear hx hxl
  by_cases h1 : (1048576 : Int) < t.owns.length
  · go_enter Try.func6, Try.ntmps6
    go_wp2_with fail
    refine (szTags_c t _ _ _ _ (by omega) (by omega) HXL.out).mono ?_; rintro r w1 ⟨rfl, hb1⟩
    have s1 : w.heap.size ≤ w1.heap.size := by have := hb1.size; first | omega | (simp at this; omega)
    have E1 : Hid (Ex w w1) := Lib.hid (by first | exact (Ex.refl w).trans hb1 | exact ((Ex.refl w).alloc _).trans hb1 | exact (((Ex.refl w).alloc _).alloc _).trans hb1 | exact ((((Ex.refl w).alloc _).alloc _).alloc _).trans hb1 | exact (((((Ex.refl w).alloc _).alloc _).alloc _).alloc _).trans hb1 | exact ((((((Ex.refl w).alloc _).alloc _).alloc _).alloc _).alloc _).trans hb1 | exact (((((((Ex.refl w).alloc _).alloc _).alloc _).alloc _).alloc _).alloc _).trans hb1)
    have HB1 := Lib.hid hb1; clear hb1
    rw [szI_neg (by omega)]
    go_wp2
    go_ret
    exact ⟨rfl, E1.out⟩
  have hn : t.owns.length ≤ 1048576 := by omega
  have h3 : ¬ ((1048576 : Int) - t.owns.length < 0) := by omega
  have hv0 : ((tagOf t space).1 != (tagOf t space).1) = false := by simp
  have hv1 : ((tagOf t space).2 != (tagOf t space).2) = false := by simp
  go_enter Try.func6, Try.ntmps6
  go_wp2_with fail
  refine (szTags_c t _ _ _ _ (by omega) (by omega) HXL.out).mono ?_; rintro r w1 ⟨rfl, hb1⟩
  have s1 : w.heap.size ≤ w1.heap.size := by have := hb1.size; first | omega | (simp at this; omega)
  have E1 : Hid (Ex w w1) := Lib.hid (by first | exact (Ex.refl w).trans hb1 | exact ((Ex.refl w).alloc _).trans hb1 | exact (((Ex.refl w).alloc _).alloc _).trans hb1 | exact ((((Ex.refl w).alloc _).alloc _).alloc _).trans hb1 | exact (((((Ex.refl w).alloc _).alloc _).alloc _).alloc _).trans hb1 | exact ((((((Ex.refl w).alloc _).alloc _).alloc _).alloc _).alloc _).trans hb1 | exact (((((((Ex.refl w).alloc _).alloc _).alloc _).alloc _).alloc _).alloc _).trans hb1)
  have KX : Hid (Blk w1 (w.heap.size) 24 [.int .i64 t.count, .int .i64 t.next, .int .i64 t.round, .slice A t.owns.length c]) := Lib.hid (by first | exact (Blk.new_at _ _ _ (by simp)).ex hb1 | exact ((Blk.new_at _ _ _ (by simp)).alloc _).ex hb1 | exact (((Blk.new_at _ _ _ (by simp)).alloc _).alloc _).ex hb1 | exact ((((Blk.new_at _ _ _ (by simp)).alloc _).alloc _).alloc _).ex hb1 | exact (((((Blk.new_at _ _ _ (by simp)).alloc _).alloc _).alloc _).alloc _).ex hb1)
  obtain ⟨qX0, qX1, qX2, qX3⟩ := KX.out.c4
  have lX := KX.out.lt
  have HB1 := Lib.hid hb1; clear hb1
  rw [szI_pos (by omega)]
  go_wp2_with fail
  refine (toTags_c t A c _ (HX.out.ex E1.out) hn).mono ?_; rintro r w2 ⟨A2, c2, rfl, hf2, hb2⟩
  have s2 : w1.heap.size ≤ w2.heap.size := by have := hb2.size; first | omega | (simp at this; omega)
  have E2 : Hid (Ex w w2) := Lib.hid (by first | exact E1.out.trans hb2 | exact (E1.out.alloc _).trans hb2 | exact ((E1.out.alloc _).alloc _).trans hb2 | exact (((E1.out.alloc _).alloc _).alloc _).trans hb2 | exact ((((E1.out.alloc _).alloc _).alloc _).alloc _).trans hb2 | exact (((((E1.out.alloc _).alloc _).alloc _).alloc _).alloc _).trans hb2 | exact ((((((E1.out.alloc _).alloc _).alloc _).alloc _).alloc _).alloc _).trans hb2)
  clear qX0 qX1 qX2 qX3 lX
  replace KX : Hid (Blk w2 (w.heap.size) 24 [.int .i64 t.count, .int .i64 t.next, .int .i64 t.round, .slice A t.owns.length c]) := Lib.hid (by first | exact KX.out.ex hb2 | exact (KX.out.alloc _).ex hb2 | exact ((KX.out.alloc _).alloc _).ex hb2 | exact (((KX.out.alloc _).alloc _).alloc _).ex hb2 | exact ((((KX.out.alloc _).alloc _).alloc _).alloc _).ex hb2)
  obtain ⟨qX0, qX1, qX2, qX3⟩ := KX.out.c4
  have lX := KX.out.lt
  have HB2 := Lib.hid hb2; clear hb2
  have HF2 := Lib.hid hf2; clear hf2
  go_wp2_with fail
  refine (tagOfS_c t space A2 c2 _ HF2.out.rd hn HF2.out.le).mono ?_; rintro r w3 ⟨rfl, hb3⟩
  have s3 : w2.heap.size ≤ w3.heap.size := by have := hb3.size; first | omega | (simp at this; omega)
  have E3 : Hid (Ex w w3) := Lib.hid (by first | exact E2.out.trans hb3 | exact (E2.out.alloc _).trans hb3 | exact ((E2.out.alloc _).alloc _).trans hb3 | exact (((E2.out.alloc _).alloc _).alloc _).trans hb3 | exact ((((E2.out.alloc _).alloc _).alloc _).alloc _).trans hb3 | exact (((((E2.out.alloc _).alloc _).alloc _).alloc _).alloc _).trans hb3 | exact ((((((E2.out.alloc _).alloc _).alloc _).alloc _).alloc _).alloc _).trans hb3)
  clear qX0 qX1 qX2 qX3 lX
  replace KX : Hid (Blk w3 (w.heap.size) 24 [.int .i64 t.count, .int .i64 t.next, .int .i64 t.round, .slice A t.owns.length c]) := Lib.hid (by first | exact KX.out.ex hb3 | exact (KX.out.alloc _).ex hb3 | exact ((KX.out.alloc _).alloc _).ex hb3 | exact (((KX.out.alloc _).alloc _).alloc _).ex hb3 | exact ((((KX.out.alloc _).alloc _).alloc _).alloc _).ex hb3)
  obtain ⟨qX0, qX1, qX2, qX3⟩ := KX.out.c4
  have lX := KX.out.lt
  have HB3 := Lib.hid hb3; clear hb3
  go_wp2_with fail
  refine (toTags_c t A c _ (HX.out.ex E3.out) hn).mono ?_; rintro r w4 ⟨A4, c4, rfl, hf4, hb4⟩
  have s4 : w3.heap.size ≤ w4.heap.size := by have := hb4.size; first | omega | (simp at this; omega)
  have E4 : Hid (Ex w w4) := Lib.hid (by first | exact E3.out.trans hb4 | exact (E3.out.alloc _).trans hb4 | exact ((E3.out.alloc _).alloc _).trans hb4 | exact (((E3.out.alloc _).alloc _).alloc _).trans hb4 | exact ((((E3.out.alloc _).alloc _).alloc _).alloc _).trans hb4 | exact (((((E3.out.alloc _).alloc _).alloc _).alloc _).alloc _).trans hb4 | exact ((((((E3.out.alloc _).alloc _).alloc _).alloc _).alloc _).alloc _).trans hb4)
  clear qX0 qX1 qX2 qX3 lX
  replace KX : Hid (Blk w4 (w.heap.size) 24 [.int .i64 t.count, .int .i64 t.next, .int .i64 t.round, .slice A t.owns.length c]) := Lib.hid (by first | exact KX.out.ex hb4 | exact (KX.out.alloc _).ex hb4 | exact ((KX.out.alloc _).alloc _).ex hb4 | exact (((KX.out.alloc _).alloc _).alloc _).ex hb4 | exact ((((KX.out.alloc _).alloc _).alloc _).alloc _).ex hb4)
  obtain ⟨qX0, qX1, qX2, qX3⟩ := KX.out.c4
  have lX := KX.out.lt
  have HB4 := Lib.hid hb4; clear hb4
  have HF4 := Lib.hid hf4; clear hf4
  go_wp2_with fail
  refine (tagOfI_c t space A4 c4 _ (HF4.out.rd.alloc _) hn HF4.out.le).mono ?_; rintro r w5 ⟨rfl, hb5⟩
  have s5 : w4.heap.size ≤ w5.heap.size := by have := hb5.size; first | omega | (simp at this; omega)
  have E5 : Hid (Ex w w5) := Lib.hid (by first | exact E4.out.trans hb5 | exact (E4.out.alloc _).trans hb5 | exact ((E4.out.alloc _).alloc _).trans hb5 | exact (((E4.out.alloc _).alloc _).alloc _).trans hb5 | exact ((((E4.out.alloc _).alloc _).alloc _).alloc _).trans hb5 | exact (((((E4.out.alloc _).alloc _).alloc _).alloc _).alloc _).trans hb5 | exact ((((((E4.out.alloc _).alloc _).alloc _).alloc _).alloc _).alloc _).trans hb5)
  clear qX0 qX1 qX2 qX3 lX
  replace KX : Hid (Blk w5 (w.heap.size) 24 [.int .i64 t.count, .int .i64 t.next, .int .i64 t.round, .slice A t.owns.length c]) := Lib.hid (by first | exact KX.out.ex hb5 | exact (KX.out.alloc _).ex hb5 | exact ((KX.out.alloc _).alloc _).ex hb5 | exact (((KX.out.alloc _).alloc _).alloc _).ex hb5 | exact ((((KX.out.alloc _).alloc _).alloc _).alloc _).ex hb5)
  obtain ⟨qX0, qX1, qX2, qX3⟩ := KX.out.c4
  have lX := KX.out.lt
  have KG : Hid (Blk w5 (w4.heap.size) 30 [.int .i64 t.count, .int .i64 t.next, .int .i64 t.round, .slice A4 t.owns.length c4]) := Lib.hid (by first | exact (Blk.new_at _ _ _ (by simp)).ex hb5 | exact ((Blk.new_at _ _ _ (by simp)).alloc _).ex hb5 | exact (((Blk.new_at _ _ _ (by simp)).alloc _).alloc _).ex hb5 | exact ((((Blk.new_at _ _ _ (by simp)).alloc _).alloc _).alloc _).ex hb5 | exact (((((Blk.new_at _ _ _ (by simp)).alloc _).alloc _).alloc _).alloc _).ex hb5)
  obtain ⟨qG0, qG1, qG2, qG3⟩ := KG.out.c4
  have lG := KG.out.lt
  have HB5 := Lib.hid hb5; clear hb5
  have HX5 : Hid (Rd w5 A t.owns) := Lib.hid (HX.out.ex E5.out)
  have HG5 : Hid (Rd w5 A4 t.owns) := Lib.hid ((HF4.out.rd.alloc _).ex HB5.out)
  go_wp2_with fail
  go_region_held3 (fun w' => (w'.cell? ⟨w4.heap.size, 0, none⟩ = some (.int .i64 t.count) ∧ w'.cell? ⟨w4.heap.size, 1, none⟩ = some (.int .i64 t.next) ∧ w'.cell? ⟨w4.heap.size, 2, none⟩ = some (.int .i64 t.round) ∧ w'.cell? ⟨w4.heap.size, 3, none⟩ = some (.slice A4 t.owns.length c4)) ∧ (w'.cell? ⟨w.heap.size, 0, none⟩ = some (.int .i64 t.count) ∧ w'.cell? ⟨w.heap.size, 1, none⟩ = some (.int .i64 t.next) ∧ w'.cell? ⟨w.heap.size, 2, none⟩ = some (.int .i64 t.round) ∧ w'.cell? ⟨w.heap.size, 3, none⟩ = some (.slice A t.owns.length c))) (first | exact ⟨KG.out.c4, KX.out.c4⟩ | exact ⟨(Blk.ex (Blk.drew KG.out) hb6a).c4, (Blk.ex (Blk.drew KX.out) hb6a).c4⟩ | exact ⟨(Blk.ex (Blk.ex (Blk.drew KG.out) hb6a) hb6).c4, (Blk.ex (Blk.ex (Blk.drew KX.out) hb6a) hb6).c4⟩) (first | (go_at_call 24; (with_reducible refine (toTags_c t A c _ ?_ hn).mono ?_); (exact Rd.drew HX5.out); rintro r w6a ⟨A6, c6, rfl, hf6, hb6a⟩) | (go_at_call 26; (with_reducible refine (eqTags_self_c t _ _ _ _ _ ?_ ?_ hn).mono ?_); (exact (Rd.drew HG5.out).ex hb6a); (exact hf6.rd); rintro r w6 ⟨rfl, hb6⟩))
  have s6 : w5.heap.size ≤ w6.heap.size := by have := hb6a.size; have := hb6.size; simp at *; omega
  have E6 : Hid (Ex w w6) := Lib.hid (((E5.out.drew).trans hb6a).trans hb6)
  have HB6 : Hid (Ex w5 w6) := Lib.hid ((((Ex.refl _).drew).trans hb6a).trans hb6)
  clear qX0 qX1 qX2 qX3 lX
  replace KX : Hid (Blk w6 (w.heap.size) 24 [.int .i64 t.count, .int .i64 t.next, .int .i64 t.round, .slice A t.owns.length c]) := Lib.hid (KX.out.ex HB6.out)
  obtain ⟨qX0, qX1, qX2, qX3⟩ := KX.out.c4
  have lX := KX.out.lt
  clear qG0 qG1 qG2 qG3 lG
  replace KG : Hid (Blk w6 (w4.heap.size) 30 [.int .i64 t.count, .int .i64 t.next, .int .i64 t.round, .slice A4 t.owns.length c4]) := Lib.hid (KG.out.ex HB6.out)
  obtain ⟨qG0, qG1, qG2, qG3⟩ := KG.out.c4
  have lG := KG.out.lt
  clear hb6a hb6 hf6
  rename_i hHeld
  clear hHeld
  go_wp2
  go_ret
  exact ⟨rfl, E6.out⟩
end Go.Proofs.Ytkiohppknlmfaaa
