/- The law FnExactNewTags: the walk. -/
import Derived.Test.YtcklfjmddifmlaaTe
namespace Go.Proofs.Ytcklfjmddifmlaa
open Go.ChangeShapes Go.WideShapes Go.ChangeAt Go.RowKit
open Rec (sz cs)
set_option linter.unusedVariables false
set_option maxRecDepth 100000

theorem newTags_few (n : Int) : (newTags n).1.owns.length ≤ 1048576 := by
  unfold newTags; split <;> simp [noTags]

set_option maxHeartbeats 1000000 in
theorem walk_FnExactNewTags (n : Int) (w : World) : Calls Try.prog 5 #[.int .i64 n] w fun r w' => r = .returned (.bool true) ∧ Ex w w' := by
  have C1 := Lib.hid (newTagsS_c n)
  have C2 := Lib.hid (newTagsI_c n)
  have hfew := newTags_few n
  generalize newTags n = p at C1 C2 hfew
  obtain ⟨t, ok⟩ := p
  dsimp only at C1 C2 hfew
  have hok : (ok != ok) = false := by simp
  have hnn : ¬ ((1 : Int) + 2 * (t.owns.length : Int) < 0) := by omega
  go_enter Try.func5, Try.ntmps5
  go_wp2_with fail
  refine (C1.out _).mono ?_; rintro r w1 ⟨A1, c1, rfl, hf1, hb1⟩
  obtain ⟨hc1, hz1⟩ := ex_rules hb1
  have E1 : Hid (Ex w w1) := Lib.hid (by first | exact (Ex.refl w).trans hb1 | exact ((Ex.refl w).alloc _).trans hb1 | exact (((Ex.refl w).alloc _).alloc _).trans hb1 | exact ((((Ex.refl w).alloc _).alloc _).alloc _).trans hb1 | exact (((((Ex.refl w).alloc _).alloc _).alloc _).alloc _).trans hb1 | exact ((((((Ex.refl w).alloc _).alloc _).alloc _).alloc _).alloc _).trans hb1 | exact (((((((Ex.refl w).alloc _).alloc _).alloc _).alloc _).alloc _).alloc _).trans hb1)
  have HB1 := Lib.hid hb1; clear hb1
  have HF1 := Lib.hid hf1; clear hf1
  go_wp2_with fail
  refine (C2.out _).mono ?_; rintro r w2 ⟨A2, c2, rfl, hf2, hb2⟩
  obtain ⟨hc2, hz2⟩ := ex_rules hb2
  have hs2_1 : w1.heap.size < w2.heap.size := by have := hb2.size; first | omega | (simp at this; omega)
  have E2 : Hid (Ex w w2) := Lib.hid (by first | exact E1.out.trans hb2 | exact (E1.out.alloc _).trans hb2 | exact ((E1.out.alloc _).alloc _).trans hb2 | exact (((E1.out.alloc _).alloc _).alloc _).trans hb2 | exact ((((E1.out.alloc _).alloc _).alloc _).alloc _).trans hb2 | exact (((((E1.out.alloc _).alloc _).alloc _).alloc _).alloc _).trans hb2 | exact ((((((E1.out.alloc _).alloc _).alloc _).alloc _).alloc _).alloc _).trans hb2)
  have HB2 := Lib.hid hb2; clear hb2
  have HF2 := Lib.hid hf2; clear hf2
  go_wp2_with fail
  refine (eqTags_c t t _ _ _ _ _ (HF2.out.rd.alloc _) (((HF1.out.rd.alloc _).ex HB2.out).alloc _) hfew hfew).mono ?_; rintro r w3 ⟨rfl, hb3⟩
  obtain ⟨hc3, hz3⟩ := ex_rules hb3
  have hs3_1 : w1.heap.size < w3.heap.size := by have := hb3.size; first | omega | (simp at this; omega)
  have hs3_2 : w2.heap.size < w3.heap.size := by have := hb3.size; first | omega | (simp at this; omega)
  have E3 : Hid (Ex w w3) := Lib.hid (by first | exact E2.out.trans hb3 | exact (E2.out.alloc _).trans hb3 | exact ((E2.out.alloc _).alloc _).trans hb3 | exact (((E2.out.alloc _).alloc _).alloc _).trans hb3 | exact ((((E2.out.alloc _).alloc _).alloc _).alloc _).trans hb3 | exact (((((E2.out.alloc _).alloc _).alloc _).alloc _).alloc _).trans hb3 | exact ((((((E2.out.alloc _).alloc _).alloc _).alloc _).alloc _).alloc _).trans hb3)
  have HB3 := Lib.hid hb3; clear hb3
  rw [eqB_self]
  go_wp2_with fail
  refine (markTags_c t _ _ _ _ _ ((HF2.out.alloc _).ex HB3.out) hfew (by omega) (by omega)).mono ?_; rintro r w4 ⟨rfl, hf4, hg4⟩
  obtain ⟨hc4, hd4⟩ := grown_rules hg4 (HF2.out.row)
  have hs4_1 : w1.heap.size < w4.heap.size := by have := hg4.size; first | omega | (simp at this; omega)
  have hs4_2 : w2.heap.size < w4.heap.size := by have := hg4.size; first | omega | (simp at this; omega)
  have E4 : Hid (Ex w w4) := Lib.hid (by first | exact E3.out.grown hg4 (fun g hg => by have h1 := ((HF2.out.row) g hg).1; have h2 := E1.out.size; first | omega | (simp at h1; omega)) | exact (E3.out.alloc _).grown hg4 (fun g hg => by have h1 := ((HF2.out.row) g hg).1; have h2 := E1.out.size; first | omega | (simp at h1; omega)) | exact ((E3.out.alloc _).alloc _).grown hg4 (fun g hg => by have h1 := ((HF2.out.row) g hg).1; have h2 := E1.out.size; first | omega | (simp at h1; omega)) | exact (((E3.out.alloc _).alloc _).alloc _).grown hg4 (fun g hg => by have h1 := ((HF2.out.row) g hg).1; have h2 := E1.out.size; first | omega | (simp at h1; omega)) | exact ((((E3.out.alloc _).alloc _).alloc _).alloc _).grown hg4 (fun g hg => by have h1 := ((HF2.out.row) g hg).1; have h2 := E1.out.size; first | omega | (simp at h1; omega)))
  have HG4 := Lib.hid hg4; clear hg4
  have HF4 := Lib.hid hf4; clear hf4
  go_wp2_with fail
  refine (heldTags_c _ _ _ _ _ _ _ _ HF4.out.rd hfew (by omega) (by omega)).mono ?_; rintro r w5 ⟨rfl, hb5⟩
  obtain ⟨hc5, hz5⟩ := ex_rules hb5
  have hs5_1 : w1.heap.size < w5.heap.size := by have := hb5.size; first | omega | (simp at this; omega)
  have hs5_2 : w2.heap.size < w5.heap.size := by have := hb5.size; first | omega | (simp at this; omega)
  have E5 : Hid (Ex w w5) := Lib.hid (by first | exact E4.out.trans hb5 | exact (E4.out.alloc _).trans hb5 | exact ((E4.out.alloc _).alloc _).trans hb5 | exact (((E4.out.alloc _).alloc _).alloc _).trans hb5 | exact ((((E4.out.alloc _).alloc _).alloc _).alloc _).trans hb5 | exact (((((E4.out.alloc _).alloc _).alloc _).alloc _).alloc _).trans hb5 | exact ((((((E4.out.alloc _).alloc _).alloc _).alloc _).alloc _).alloc _).trans hb5)
  have HB5 := Lib.hid hb5; clear hb5
  go_wp2_with fail
  refine (C2.out _).mono ?_; rintro r w6 ⟨A6, c6, rfl, hf6, hb6⟩
  obtain ⟨hc6, hz6⟩ := ex_rules hb6
  have hs6_1 : w1.heap.size < w6.heap.size := by have := hb6.size; first | omega | (simp at this; omega)
  have hs6_2 : w2.heap.size < w6.heap.size := by have := hb6.size; first | omega | (simp at this; omega)
  have E6 : Hid (Ex w w6) := Lib.hid (by first | exact E5.out.trans hb6 | exact (E5.out.alloc _).trans hb6 | exact ((E5.out.alloc _).alloc _).trans hb6 | exact (((E5.out.alloc _).alloc _).alloc _).trans hb6 | exact ((((E5.out.alloc _).alloc _).alloc _).alloc _).trans hb6 | exact (((((E5.out.alloc _).alloc _).alloc _).alloc _).alloc _).trans hb6 | exact ((((((E5.out.alloc _).alloc _).alloc _).alloc _).alloc _).alloc _).trans hb6)
  have HB6 := Lib.hid hb6; clear hb6
  have HF6 := Lib.hid hf6; clear hf6
  have HR1 : Hid (Rd w6 A1 t.owns) := Lib.hid ((((((HF1.out.alloc _).ex HB2.out).alloc _).ex HB3.out).apart HG4.out HF2.out.row HF1.out.row (.inr (by simp))).rd.ex HB5.out |>.ex HB6.out)
  go_wp2_with fail
  refine (eqTags_c t t _ _ _ _ _ (HF6.out.rd.alloc _) (HR1.out.alloc _) hfew hfew).mono ?_; rintro r w7 ⟨rfl, hb7⟩
  obtain ⟨hc7, hz7⟩ := ex_rules hb7
  have hs7_1 : w1.heap.size < w7.heap.size := by have := hb7.size; first | omega | (simp at this; omega)
  have hs7_2 : w2.heap.size < w7.heap.size := by have := hb7.size; first | omega | (simp at this; omega)
  have E7 : Hid (Ex w w7) := Lib.hid (by first | exact E6.out.trans hb7 | exact (E6.out.alloc _).trans hb7 | exact ((E6.out.alloc _).alloc _).trans hb7 | exact (((E6.out.alloc _).alloc _).alloc _).trans hb7 | exact ((((E6.out.alloc _).alloc _).alloc _).alloc _).trans hb7 | exact (((((E6.out.alloc _).alloc _).alloc _).alloc _).alloc _).trans hb7 | exact ((((((E6.out.alloc _).alloc _).alloc _).alloc _).alloc _).alloc _).trans hb7)
  have HB7 := Lib.hid hb7; clear hb7
  rw [eqB_self]
  go_wp2_with fail
  refine (heldTags_c _ _ _ _ _ _ _ _ ((((HF4.out.rd.ex HB5.out).ex HB6.out).alloc _).ex HB7.out) hfew (by omega) (by omega)).mono ?_; rintro r w8 ⟨rfl, hb8⟩
  obtain ⟨hc8, hz8⟩ := ex_rules hb8
  have hs8_1 : w1.heap.size < w8.heap.size := by have := hb8.size; first | omega | (simp at this; omega)
  have hs8_2 : w2.heap.size < w8.heap.size := by have := hb8.size; first | omega | (simp at this; omega)
  have E8 : Hid (Ex w w8) := Lib.hid (by first | exact E7.out.trans hb8 | exact (E7.out.alloc _).trans hb8 | exact ((E7.out.alloc _).alloc _).trans hb8 | exact (((E7.out.alloc _).alloc _).alloc _).trans hb8 | exact ((((E7.out.alloc _).alloc _).alloc _).alloc _).trans hb8 | exact (((((E7.out.alloc _).alloc _).alloc _).alloc _).alloc _).trans hb8 | exact ((((((E7.out.alloc _).alloc _).alloc _).alloc _).alloc _).alloc _).trans hb8)
  have HB8 := Lib.hid hb8; clear hb8
  go_wp2
  go_ret
  exact ⟨rfl, E8.out⟩
end Go.Proofs.Ytcklfjmddifmlaa
