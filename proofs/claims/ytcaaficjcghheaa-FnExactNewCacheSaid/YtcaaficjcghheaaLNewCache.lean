/- The law FnExactNewCache: the walk. -/
import Derived.Test.YtcaaficjcghheaaCc
namespace Go.Proofs.Ytcaaficjcghheaa
open Go.ChangeShapes Go.WideShapes Go.ChangeAt Go.RowKit
open Rec (sz cs)
set_option linter.unusedVariables false
set_option maxRecDepth 100000

set_option maxHeartbeats 1000000 in
theorem walk_FnExactNewCache (n : Int) (w : World) : Calls Try.prog 4 #[.int .i64 n] w fun r w' => r = .returned (.bool true) ∧ Ex w w' := by
  have C1 := Lib.hid (newCacheS_c n)
  have C2 := Lib.hid (newCacheI_c n)
  have hfew := newCache_few n
  generalize newCache n = p at C1 C2 hfew
  obtain ⟨t, ok⟩ := p
  dsimp only at C1 C2 hfew
  have hok : (ok != ok) = false := by simp
  have hnn : ¬ ((1 : Int) + 6 * (t.lines.length : Int) < 0) := by omega
  go_enter Try.func4, Try.ntmps4
  go_wp2_with fail
  refine (C1.out _).mono ?_; rintro r w1 ⟨A1, c1, rfl, hf1, hb1⟩
  have s1 : w.heap.size ≤ w1.heap.size := by have := hb1.size; first | omega | (simp at this; omega)
  have E1 : Hid (Ex w w1) := Lib.hid (by first | exact (Ex.refl w).trans hb1 | exact ((Ex.refl w).alloc _).trans hb1 | exact (((Ex.refl w).alloc _).alloc _).trans hb1 | exact ((((Ex.refl w).alloc _).alloc _).alloc _).trans hb1 | exact (((((Ex.refl w).alloc _).alloc _).alloc _).alloc _).trans hb1 | exact ((((((Ex.refl w).alloc _).alloc _).alloc _).alloc _).alloc _).trans hb1 | exact (((((((Ex.refl w).alloc _).alloc _).alloc _).alloc _).alloc _).alloc _).trans hb1)
  have HB1 := Lib.hid hb1; clear hb1
  have HF1 := Lib.hid hf1; clear hf1
  go_wp2_with fail
  refine (C2.out _).mono ?_; rintro r w2 ⟨A2, c2, rfl, hf2, hb2⟩
  have s2 : w1.heap.size ≤ w2.heap.size := by have := hb2.size; first | omega | (simp at this; omega)
  have E2 : Hid (Ex w w2) := Lib.hid (by first | exact E1.out.trans hb2 | exact (E1.out.alloc _).trans hb2 | exact ((E1.out.alloc _).alloc _).trans hb2 | exact (((E1.out.alloc _).alloc _).alloc _).trans hb2 | exact ((((E1.out.alloc _).alloc _).alloc _).alloc _).trans hb2 | exact (((((E1.out.alloc _).alloc _).alloc _).alloc _).alloc _).trans hb2 | exact ((((((E1.out.alloc _).alloc _).alloc _).alloc _).alloc _).alloc _).trans hb2)
  have KW : Hid (Blk w2 (w1.heap.size) 29 [.slice A1 t.lines.length c1, .int .i64 t.hand]) := Lib.hid (by first | exact (Blk.new_at _ _ _ (by simp)).ex hb2 | exact ((Blk.new_at _ _ _ (by simp)).alloc _).ex hb2 | exact (((Blk.new_at _ _ _ (by simp)).alloc _).alloc _).ex hb2 | exact ((((Blk.new_at _ _ _ (by simp)).alloc _).alloc _).alloc _).ex hb2 | exact (((((Blk.new_at _ _ _ (by simp)).alloc _).alloc _).alloc _).alloc _).ex hb2)
  obtain ⟨qW0, qW1⟩ := KW.out.c2
  have lW := KW.out.lt
  have HB2 := Lib.hid hb2; clear hb2
  have HF2 := Lib.hid hf2; clear hf2
  go_wp2_with fail
  refine (eqCache_self_c t _ _ _ _ _ (HF2.out.rd.alloc _) (((HF1.out.rd.alloc _).ex HB2.out).alloc _) hfew).mono ?_; rintro r w3 ⟨rfl, hb3⟩
  have s3 : w2.heap.size ≤ w3.heap.size := by have := hb3.size; first | omega | (simp at this; omega)
  have E3 : Hid (Ex w w3) := Lib.hid (by first | exact E2.out.trans hb3 | exact (E2.out.alloc _).trans hb3 | exact ((E2.out.alloc _).alloc _).trans hb3 | exact (((E2.out.alloc _).alloc _).alloc _).trans hb3 | exact ((((E2.out.alloc _).alloc _).alloc _).alloc _).trans hb3 | exact (((((E2.out.alloc _).alloc _).alloc _).alloc _).alloc _).trans hb3 | exact ((((((E2.out.alloc _).alloc _).alloc _).alloc _).alloc _).alloc _).trans hb3)
  clear qW0 qW1 lW
  replace KW : Hid (Blk w3 (w1.heap.size) 29 [.slice A1 t.lines.length c1, .int .i64 t.hand]) := Lib.hid (by first | exact KW.out.ex hb3 | exact (KW.out.alloc _).ex hb3 | exact ((KW.out.alloc _).alloc _).ex hb3 | exact (((KW.out.alloc _).alloc _).alloc _).ex hb3 | exact ((((KW.out.alloc _).alloc _).alloc _).alloc _).ex hb3)
  obtain ⟨qW0, qW1⟩ := KW.out.c2
  have lW := KW.out.lt
  have KG : Hid (Blk w3 (w2.heap.size) 29 [.slice A2 t.lines.length c2, .int .i64 t.hand]) := Lib.hid (by first | exact (Blk.new_at _ _ _ (by simp)).ex hb3 | exact ((Blk.new_at _ _ _ (by simp)).alloc _).ex hb3 | exact (((Blk.new_at _ _ _ (by simp)).alloc _).alloc _).ex hb3 | exact ((((Blk.new_at _ _ _ (by simp)).alloc _).alloc _).alloc _).ex hb3 | exact (((((Blk.new_at _ _ _ (by simp)).alloc _).alloc _).alloc _).alloc _).ex hb3)
  obtain ⟨qG0, qG1⟩ := KG.out.c2
  have lG := KG.out.lt
  have HB3 := Lib.hid hb3; clear hb3
  go_wp2_with fail
  refine (markCache_c t _ _ _ _ _ ((HF2.out.alloc _).ex HB3.out) hfew (by omega) (by omega)).mono ?_; rintro r w4 ⟨rfl, hf4, hg4⟩
  have s4 : w3.heap.size ≤ w4.heap.size := by have := hg4.size; first | omega | (simp at this; omega)
  have E4 : Hid (Ex w w4) := Lib.hid (by first | exact E3.out.grown hg4 (fun g hg => by have h1 := ((HF2.out.row) g hg).1; have h2 := E1.out.size; first | omega | (simp at h1; omega)) | exact (E3.out.alloc _).grown hg4 (fun g hg => by have h1 := ((HF2.out.row) g hg).1; have h2 := E1.out.size; first | omega | (simp at h1; omega)) | exact ((E3.out.alloc _).alloc _).grown hg4 (fun g hg => by have h1 := ((HF2.out.row) g hg).1; have h2 := E1.out.size; first | omega | (simp at h1; omega)) | exact (((E3.out.alloc _).alloc _).alloc _).grown hg4 (fun g hg => by have h1 := ((HF2.out.row) g hg).1; have h2 := E1.out.size; first | omega | (simp at h1; omega)))
  clear qW0 qW1 lW
  replace KW : Hid (Blk w4 (w1.heap.size) 29 [.slice A1 t.lines.length c1, .int .i64 t.hand]) := Lib.hid (by first | exact KW.out.grown hg4 (fun e => by have h1 := (HF2.out.row) _ e.symm; first | omega | (simp at h1; omega)) | exact (KW.out.alloc _).grown hg4 (fun e => by have h1 := (HF2.out.row) _ e.symm; first | omega | (simp at h1; omega)) | exact ((KW.out.alloc _).alloc _).grown hg4 (fun e => by have h1 := (HF2.out.row) _ e.symm; first | omega | (simp at h1; omega)) | exact (((KW.out.alloc _).alloc _).alloc _).grown hg4 (fun e => by have h1 := (HF2.out.row) _ e.symm; first | omega | (simp at h1; omega)))
  obtain ⟨qW0, qW1⟩ := KW.out.c2
  have lW := KW.out.lt
  clear qG0 qG1 lG
  replace KG : Hid (Blk w4 (w2.heap.size) 29 [.slice A2 t.lines.length c2, .int .i64 t.hand]) := Lib.hid (by first | exact KG.out.grown hg4 (fun e => by have h1 := (HF2.out.row) _ e.symm; first | omega | (simp at h1; omega)) | exact (KG.out.alloc _).grown hg4 (fun e => by have h1 := (HF2.out.row) _ e.symm; first | omega | (simp at h1; omega)) | exact ((KG.out.alloc _).alloc _).grown hg4 (fun e => by have h1 := (HF2.out.row) _ e.symm; first | omega | (simp at h1; omega)) | exact (((KG.out.alloc _).alloc _).alloc _).grown hg4 (fun e => by have h1 := (HF2.out.row) _ e.symm; first | omega | (simp at h1; omega)))
  obtain ⟨qG0, qG1⟩ := KG.out.c2
  have lG := KG.out.lt
  have HG4 := Lib.hid hg4; clear hg4
  have HF4 := Lib.hid hf4; clear hf4
  go_wp2_with fail
  refine (heldCache_c _ _ _ _ _ _ HF4.out.rd hfew (by omega) (by omega)).mono ?_; rintro r w5 ⟨rfl, hb5⟩
  have s5 : w4.heap.size ≤ w5.heap.size := by have := hb5.size; first | omega | (simp at this; omega)
  have E5 : Hid (Ex w w5) := Lib.hid (by first | exact E4.out.trans hb5 | exact (E4.out.alloc _).trans hb5 | exact ((E4.out.alloc _).alloc _).trans hb5 | exact (((E4.out.alloc _).alloc _).alloc _).trans hb5 | exact ((((E4.out.alloc _).alloc _).alloc _).alloc _).trans hb5 | exact (((((E4.out.alloc _).alloc _).alloc _).alloc _).alloc _).trans hb5 | exact ((((((E4.out.alloc _).alloc _).alloc _).alloc _).alloc _).alloc _).trans hb5)
  clear qW0 qW1 lW
  replace KW : Hid (Blk w5 (w1.heap.size) 29 [.slice A1 t.lines.length c1, .int .i64 t.hand]) := Lib.hid (by first | exact KW.out.ex hb5 | exact (KW.out.alloc _).ex hb5 | exact ((KW.out.alloc _).alloc _).ex hb5 | exact (((KW.out.alloc _).alloc _).alloc _).ex hb5 | exact ((((KW.out.alloc _).alloc _).alloc _).alloc _).ex hb5)
  obtain ⟨qW0, qW1⟩ := KW.out.c2
  have lW := KW.out.lt
  clear qG0 qG1 lG
  replace KG : Hid (Blk w5 (w2.heap.size) 29 [.slice A2 t.lines.length c2, .int .i64 t.hand]) := Lib.hid (by first | exact KG.out.ex hb5 | exact (KG.out.alloc _).ex hb5 | exact ((KG.out.alloc _).alloc _).ex hb5 | exact (((KG.out.alloc _).alloc _).alloc _).ex hb5 | exact ((((KG.out.alloc _).alloc _).alloc _).alloc _).ex hb5)
  obtain ⟨qG0, qG1⟩ := KG.out.c2
  have lG := KG.out.lt
  have HB5 := Lib.hid hb5; clear hb5
  go_wp2_with fail
  refine (C2.out _).mono ?_; rintro r w6 ⟨A6, c6, rfl, hf6, hb6⟩
  have s6 : w5.heap.size ≤ w6.heap.size := by have := hb6.size; first | omega | (simp at this; omega)
  have E6 : Hid (Ex w w6) := Lib.hid (by first | exact E5.out.trans hb6 | exact (E5.out.alloc _).trans hb6 | exact ((E5.out.alloc _).alloc _).trans hb6 | exact (((E5.out.alloc _).alloc _).alloc _).trans hb6 | exact ((((E5.out.alloc _).alloc _).alloc _).alloc _).trans hb6 | exact (((((E5.out.alloc _).alloc _).alloc _).alloc _).alloc _).trans hb6 | exact ((((((E5.out.alloc _).alloc _).alloc _).alloc _).alloc _).alloc _).trans hb6)
  clear qW0 qW1 lW
  replace KW : Hid (Blk w6 (w1.heap.size) 29 [.slice A1 t.lines.length c1, .int .i64 t.hand]) := Lib.hid (by first | exact KW.out.ex hb6 | exact (KW.out.alloc _).ex hb6 | exact ((KW.out.alloc _).alloc _).ex hb6 | exact (((KW.out.alloc _).alloc _).alloc _).ex hb6 | exact ((((KW.out.alloc _).alloc _).alloc _).alloc _).ex hb6)
  obtain ⟨qW0, qW1⟩ := KW.out.c2
  have lW := KW.out.lt
  clear qG0 qG1 lG
  replace KG : Hid (Blk w6 (w2.heap.size) 29 [.slice A2 t.lines.length c2, .int .i64 t.hand]) := Lib.hid (by first | exact KG.out.ex hb6 | exact (KG.out.alloc _).ex hb6 | exact ((KG.out.alloc _).alloc _).ex hb6 | exact (((KG.out.alloc _).alloc _).alloc _).ex hb6 | exact ((((KG.out.alloc _).alloc _).alloc _).alloc _).ex hb6)
  obtain ⟨qG0, qG1⟩ := KG.out.c2
  have lG := KG.out.lt
  have HB6 := Lib.hid hb6; clear hb6
  have HF6 := Lib.hid hf6; clear hf6
  have HR1 : Hid (Rd w6 A1 t.lines) := Lib.hid ((((((HF1.out.alloc _).ex HB2.out).alloc _).ex HB3.out).apart HG4.out HF2.out.row HF1.out.row (.inr (by simp))).rd.ex HB5.out |>.ex HB6.out)
  go_wp2_with fail
  refine (eqCache_self_c t _ _ _ _ _ (HF6.out.rd.alloc _) (HR1.out.alloc _) hfew).mono ?_; rintro r w7 ⟨rfl, hb7⟩
  have s7 : w6.heap.size ≤ w7.heap.size := by have := hb7.size; first | omega | (simp at this; omega)
  have E7 : Hid (Ex w w7) := Lib.hid (by first | exact E6.out.trans hb7 | exact (E6.out.alloc _).trans hb7 | exact ((E6.out.alloc _).alloc _).trans hb7 | exact (((E6.out.alloc _).alloc _).alloc _).trans hb7 | exact ((((E6.out.alloc _).alloc _).alloc _).alloc _).trans hb7 | exact (((((E6.out.alloc _).alloc _).alloc _).alloc _).alloc _).trans hb7 | exact ((((((E6.out.alloc _).alloc _).alloc _).alloc _).alloc _).alloc _).trans hb7)
  clear qW0 qW1 lW
  replace KW : Hid (Blk w7 (w1.heap.size) 29 [.slice A1 t.lines.length c1, .int .i64 t.hand]) := Lib.hid (by first | exact KW.out.ex hb7 | exact (KW.out.alloc _).ex hb7 | exact ((KW.out.alloc _).alloc _).ex hb7 | exact (((KW.out.alloc _).alloc _).alloc _).ex hb7 | exact ((((KW.out.alloc _).alloc _).alloc _).alloc _).ex hb7)
  obtain ⟨qW0, qW1⟩ := KW.out.c2
  have lW := KW.out.lt
  clear qG0 qG1 lG
  replace KG : Hid (Blk w7 (w2.heap.size) 29 [.slice A2 t.lines.length c2, .int .i64 t.hand]) := Lib.hid (by first | exact KG.out.ex hb7 | exact (KG.out.alloc _).ex hb7 | exact ((KG.out.alloc _).alloc _).ex hb7 | exact (((KG.out.alloc _).alloc _).alloc _).ex hb7 | exact ((((KG.out.alloc _).alloc _).alloc _).alloc _).ex hb7)
  obtain ⟨qG0, qG1⟩ := KG.out.c2
  have lG := KG.out.lt
  have HB7 := Lib.hid hb7; clear hb7
  go_wp2_with fail
  refine (heldCache_c _ _ _ _ _ _ ((((HF4.out.rd.ex HB5.out).ex HB6.out).alloc _).ex HB7.out) hfew (by omega) (by omega)).mono ?_; rintro r w8 ⟨rfl, hb8⟩
  have s8 : w7.heap.size ≤ w8.heap.size := by have := hb8.size; first | omega | (simp at this; omega)
  have E8 : Hid (Ex w w8) := Lib.hid (by first | exact E7.out.trans hb8 | exact (E7.out.alloc _).trans hb8 | exact ((E7.out.alloc _).alloc _).trans hb8 | exact (((E7.out.alloc _).alloc _).alloc _).trans hb8 | exact ((((E7.out.alloc _).alloc _).alloc _).alloc _).trans hb8 | exact (((((E7.out.alloc _).alloc _).alloc _).alloc _).alloc _).trans hb8 | exact ((((((E7.out.alloc _).alloc _).alloc _).alloc _).alloc _).alloc _).trans hb8)
  clear qW0 qW1 lW
  replace KW : Hid (Blk w8 (w1.heap.size) 29 [.slice A1 t.lines.length c1, .int .i64 t.hand]) := Lib.hid (by first | exact KW.out.ex hb8 | exact (KW.out.alloc _).ex hb8 | exact ((KW.out.alloc _).alloc _).ex hb8 | exact (((KW.out.alloc _).alloc _).alloc _).ex hb8 | exact ((((KW.out.alloc _).alloc _).alloc _).alloc _).ex hb8)
  obtain ⟨qW0, qW1⟩ := KW.out.c2
  have lW := KW.out.lt
  clear qG0 qG1 lG
  replace KG : Hid (Blk w8 (w2.heap.size) 29 [.slice A2 t.lines.length c2, .int .i64 t.hand]) := Lib.hid (by first | exact KG.out.ex hb8 | exact (KG.out.alloc _).ex hb8 | exact ((KG.out.alloc _).alloc _).ex hb8 | exact (((KG.out.alloc _).alloc _).alloc _).ex hb8 | exact ((((KG.out.alloc _).alloc _).alloc _).alloc _).ex hb8)
  obtain ⟨qG0, qG1⟩ := KG.out.c2
  have lG := KG.out.lt
  have HB8 := Lib.hid hb8; clear hb8
  go_wp2
  go_ret
  exact ⟨rfl, E8.out⟩
end Go.Proofs.Ytcaaficjcghheaa
