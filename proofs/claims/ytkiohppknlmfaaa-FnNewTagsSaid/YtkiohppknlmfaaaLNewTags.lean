/- The law FnNewTags: the walk. -/
import Derived.Test.YtkiohppknlmfaaaSn
import Derived.Test.YtkiohppknlmfaaaSf
import Derived.Test.YtkiohppknlmfaaaTt
import Derived.Test.YtkiohppknlmfaaaTu
import Derived.Test.YtkiohppknlmfaaaTl
import Derived.Test.YtkiohppknlmfaaaTk
import Derived.Test.YtkiohppknlmfaaaTy
import Derived.Test.YtkiohppknlmfaaaTz
import Derived.Test.YtkiohppknlmfaaaTw
import Derived.Test.YtkiohppknlmfaaaTd
import Derived.Test.YtkiohppknlmfaaaTq
namespace Go.Proofs.Ytkiohppknlmfaaa
open Go.ChangeShapes Go.WideShapes Go.ChangeAt Go.RowKit
open Rec (sz cs)
set_option linter.unusedVariables false
set_option maxRecDepth 100000

set_option maxHeartbeats 16000000 in
theorem walk_FnNewTags (A : Option Addr) (n c : Nat) (bs : List ByteD) (w : World) (hr : Rd w A bs) (hc : Bytes bs ∧ bs.length = n ∧ n ≤ c ∧ c ≤ maxLen) :
    Calls Try.prog 4 #[.slice A n c] w fun r w' => r = .returned (.bool true) ∧ Ex w w' := by
  obtain ⟨hb, rfl, hnc, hcm⟩ := hc
  by_cases hbig : 1048576 < bs.length
  · have hbig' : (1048576 : Int) < (bs.length : Int) := by omega
    unfold maxLen at hcm
    generalize bs.length = n at *
    go_enter Try.func4, Try.ntmps4
    go_wp2
    go_ret
    exact ⟨rfl, Ex.refl _⟩
  have hsm : ¬ (1048576 : Int) < (bs.length : Int) := by omega
  have C0 := Lib.hid (fun w' (h : Ex w w') => drawNewTags_c A c bs w' (hr.ex h) hb (by omega) hnc hcm)
  have hcm' := hcm
  unfold maxLen at hcm'
  generalize bs.length = n at *
  clear hr hb hcm
  go_enter Try.func4, Try.ntmps4
  go_wp2_with fail
  refine name_calls ?_; intro v0 hv0
  have X0 : Hid (Chg (0) (0) w v0) := Lib.hid (by rw [hv0]; repeat' (first | with_reducible exact Chg.refl _ _ _ | with_reducible refine Chg.alloc ?_ _ | with_reducible refine Chg.drew ?_ | with_reducible refine Chg.set ?_ (by omega) _))
  have t0 : w.heap.size ≤ v0.heap.size := X0.out.size
  have Ev0 : Hid (Ex w v0) := Lib.hid ((Ex.refl w).chg X0.out (by omega))
  clear hv0
  refine (C0.out _ Ev0.out).mono ?_; rintro r w0 ⟨nn, rfl, hhn0, hb0⟩
  have Y0 : Hid (Chg 0 0 v0 w0) := Lib.hid (Chg.of_ex hb0)
  have s0 : v0.heap.size ≤ w0.heap.size := Y0.out.size
  have Ew0 : Hid (Ex w w0) := Lib.hid (Ev0.out.chg Y0.out (by omega))
  clear hb0
  have HHN0 := Lib.hid hhn0; clear hhn0
  clear C0
  obtain ⟨i0, hi, hz0, hz1, hz2⟩ := info_parts infoInt
  have HCASE : Hid (newTags nn = (noTags, false) ∨ ∃ k : Nat, nn = (k : Int) ∧ 1 ≤ k ∧ k ≤ 8 ∧ newTags nn = (⟨(k : Int), 0, 0, []⟩, true) ∧ NewLaw k ∧ OneLaw k) := Lib.hid (newTags_or HHN0.out)
  have CI := Lib.hid (newTagsI_c nn)
  have CS := Lib.hid (newTagsS_c nn)
  clear HHN0
  rcases HCASE.out with e | ⟨kk, rfl, hk1, hk8, e, hlaw, hlaw2⟩
  · rw [e] at CI CS
    dsimp only at CI CS
    have hfew : noTags.owns.length ≤ 1048576 := by simp [noTags]
    clear e HCASE
    go_wp2_with fail
    refine name_calls ?_; intro v1 hv1
    have X1 : Hid (Chg (0) (0) w0 v1) := Lib.hid (by rw [hv1]; repeat' (first | with_reducible exact Chg.refl _ _ _ | with_reducible refine Chg.alloc ?_ _ | with_reducible refine Chg.drew ?_ | with_reducible refine Chg.set ?_ (by omega) _))
    have t1 : w0.heap.size ≤ v1.heap.size := X1.out.size
    have Ev1 : Hid (Ex w v1) := Lib.hid (Ew0.out.chg X1.out (by omega))
    clear hv1
    refine (CI.out _).mono ?_; rintro r w1 ⟨A1, c1, rfl, hf1, hb1⟩
    have Y1 : Hid (Chg 0 0 v1 w1) := Lib.hid (Chg.of_ex hb1)
    have s1 : v1.heap.size ≤ w1.heap.size := Y1.out.size
    have Ew1 : Hid (Ex w w1) := Lib.hid (Ev1.out.chg Y1.out (by omega))
    clear hb1
    have HF1 := Lib.hid hf1; clear hf1
    have WHF1 := Lib.hid HF1.out.row
    go_wp2_with fail
    refine name_calls ?_; intro v2 hv2
    have X2 : Hid (Chg (0) (0) w1 v2) := Lib.hid (by rw [hv2]; repeat' (first | with_reducible exact Chg.refl _ _ _ | with_reducible refine Chg.alloc ?_ _ | with_reducible refine Chg.drew ?_ | with_reducible refine Chg.set ?_ (by omega) _))
    have t2 : w1.heap.size ≤ v2.heap.size := X2.out.size
    have Ev2 : Hid (Ex w v2) := Lib.hid (Ew1.out.chg X2.out (by omega))
    replace HF1 := Lib.hid (HF1.out.chg X2.out WHF1.out (by omega))
    have KD : Hid (Blk v2 (w1.heap.size) 30 [.int .i64 noTags.count, .int .i64 noTags.next, .int .i64 noTags.round, .slice A1 noTags.owns.length c1]) := Lib.hid (by rw [hv2]; repeat' (first | with_reducible exact Blk.new_at _ _ _ (by simp) | with_reducible refine Blk.alloc ?_ _ | with_reducible refine Blk.drew ?_ | with_reducible refine Blk.far ?_ (by simp; omega) _))
    have lD : w1.heap.size < v2.heap.size := KD.out.lt
    clear hv2
    refine (CS.out _).mono ?_; rintro r w2 ⟨A2, c2, rfl, hf2, hb2⟩
    have Y2 : Hid (Chg 0 0 v2 w2) := Lib.hid (Chg.of_ex hb2)
    have s2 : v2.heap.size ≤ w2.heap.size := Y2.out.size
    have Ew2 : Hid (Ex w w2) := Lib.hid (Ev2.out.chg Y2.out (by omega))
    clear hb2
    replace KD : Hid (Blk w2 (w1.heap.size) 30 [.int .i64 noTags.count, .int .i64 noTags.next, .int .i64 noTags.round, .slice A1 noTags.owns.length c1]) := Lib.hid (KD.out.chg Y2.out (by omega))
    replace HF1 := Lib.hid (HF1.out.chg Y2.out WHF1.out (by omega))
    have HF2 := Lib.hid hf2; clear hf2
    have WHF2 := Lib.hid HF2.out.row
    obtain ⟨qD0, qD1, qD2, qD3⟩ := KD.out.c4
    have jD := KD.out.lt
    go_wp2_with fail
    refine name_calls ?_; intro v3 hv3
    have X3 : Hid (Chg (0) (0) w2 v3) := Lib.hid (by rw [hv3]; repeat' (first | with_reducible exact Chg.refl _ _ _ | with_reducible refine Chg.alloc ?_ _ | with_reducible refine Chg.drew ?_ | with_reducible refine Chg.set ?_ (by omega) _))
    have t3 : w2.heap.size ≤ v3.heap.size := X3.out.size
    have Ev3 : Hid (Ex w v3) := Lib.hid (Ew2.out.chg X3.out (by omega))
    clear qD0 qD1 qD2 qD3 jD
    replace KD : Hid (Blk v3 (w1.heap.size) 30 [.int .i64 noTags.count, .int .i64 noTags.next, .int .i64 noTags.round, .slice A1 noTags.owns.length c1]) := Lib.hid (KD.out.chg X3.out (by omega))
    replace HF1 := Lib.hid (HF1.out.chg X3.out WHF1.out (by omega))
    replace HF2 := Lib.hid (HF2.out.chg X3.out WHF2.out (by omega))
    have KW : Hid (Blk v3 (w2.heap.size) 30 [.int .i64 noTags.count, .int .i64 noTags.next, .int .i64 noTags.round, .slice A2 noTags.owns.length c2]) := Lib.hid (by rw [hv3]; repeat' (first | with_reducible exact Blk.new_at _ _ _ (by simp) | with_reducible refine Blk.alloc ?_ _ | with_reducible refine Blk.drew ?_ | with_reducible refine Blk.far ?_ (by simp; omega) _))
    have lW : w2.heap.size < v3.heap.size := KW.out.lt
    clear hv3
    refine (tagsSameI_c noTags noTags _ _ _ _ _ HF1.out.rd HF2.out.rd hfew hfew).mono ?_; rintro r w3 ⟨rfl, hb3⟩
    have Y3 : Hid (Chg 0 0 v3 w3) := Lib.hid (Chg.of_ex hb3)
    have s3 : v3.heap.size ≤ w3.heap.size := Y3.out.size
    have Ew3 : Hid (Ex w w3) := Lib.hid (Ev3.out.chg Y3.out (by omega))
    clear hb3
    replace KD : Hid (Blk w3 (w1.heap.size) 30 [.int .i64 noTags.count, .int .i64 noTags.next, .int .i64 noTags.round, .slice A1 noTags.owns.length c1]) := Lib.hid (KD.out.chg Y3.out (by omega))
    replace KW : Hid (Blk w3 (w2.heap.size) 30 [.int .i64 noTags.count, .int .i64 noTags.next, .int .i64 noTags.round, .slice A2 noTags.owns.length c2]) := Lib.hid (KW.out.chg Y3.out (by omega))
    replace HF1 := Lib.hid (HF1.out.chg Y3.out WHF1.out (by omega))
    replace HF2 := Lib.hid (HF2.out.chg Y3.out WHF2.out (by omega))
    obtain ⟨qD0, qD1, qD2, qD3⟩ := KD.out.c4
    have jD := KD.out.lt
    obtain ⟨qW0, qW1, qW2, qW3⟩ := KW.out.c4
    have jW := KW.out.lt
    rw [eqB_self]
    go_wp2_with fail
    refine name_calls ?_; intro v4 hv4
    have X4 : Hid (Chg (0) (0) w3 v4) := Lib.hid (by rw [hv4]; repeat' (first | with_reducible exact Chg.refl _ _ _ | with_reducible refine Chg.alloc ?_ _ | with_reducible refine Chg.drew ?_ | with_reducible refine Chg.set ?_ (by omega) _))
    have t4 : w3.heap.size ≤ v4.heap.size := X4.out.size
    have Ev4 : Hid (Ex w v4) := Lib.hid (Ew3.out.chg X4.out (by omega))
    clear qD0 qD1 qD2 qD3 jD
    clear qW0 qW1 qW2 qW3 jW
    replace KD : Hid (Blk v4 (w1.heap.size) 30 [.int .i64 noTags.count, .int .i64 noTags.next, .int .i64 noTags.round, .slice A1 noTags.owns.length c1]) := Lib.hid (KD.out.chg X4.out (by omega))
    replace KW : Hid (Blk v4 (w2.heap.size) 30 [.int .i64 noTags.count, .int .i64 noTags.next, .int .i64 noTags.round, .slice A2 noTags.owns.length c2]) := Lib.hid (KW.out.chg X4.out (by omega))
    replace HF1 := Lib.hid (HF1.out.chg X4.out WHF1.out (by omega))
    replace HF2 := Lib.hid (HF2.out.chg X4.out WHF2.out (by omega))
    clear hv4
    refine (tagsSameI_c noTags noTags _ _ _ _ _ HF1.out.rd HF2.out.rd hfew hfew).mono ?_; rintro r w4 ⟨rfl, hb4⟩
    have Y4 : Hid (Chg 0 0 v4 w4) := Lib.hid (Chg.of_ex hb4)
    have s4 : v4.heap.size ≤ w4.heap.size := Y4.out.size
    have Ew4 : Hid (Ex w w4) := Lib.hid (Ev4.out.chg Y4.out (by omega))
    clear hb4
    replace KD : Hid (Blk w4 (w1.heap.size) 30 [.int .i64 noTags.count, .int .i64 noTags.next, .int .i64 noTags.round, .slice A1 noTags.owns.length c1]) := Lib.hid (KD.out.chg Y4.out (by omega))
    replace KW : Hid (Blk w4 (w2.heap.size) 30 [.int .i64 noTags.count, .int .i64 noTags.next, .int .i64 noTags.round, .slice A2 noTags.owns.length c2]) := Lib.hid (KW.out.chg Y4.out (by omega))
    replace HF1 := Lib.hid (HF1.out.chg Y4.out WHF1.out (by omega))
    replace HF2 := Lib.hid (HF2.out.chg Y4.out WHF2.out (by omega))
    obtain ⟨qD0, qD1, qD2, qD3⟩ := KD.out.c4
    have jD := KD.out.lt
    obtain ⟨qW0, qW1, qW2, qW3⟩ := KW.out.c4
    have jW := KW.out.lt
    rw [eqB_self]
    go_wp2
    go_ret
    exact ⟨rfl, (by repeat' (first | with_reducible exact Ew4.out | with_reducible refine Ex.alloc ?_ _ | with_reducible refine Ex.drew ?_ | with_reducible refine Ex.put ?_ (by omega) _))⟩
  obtain ⟨u, hu⟩ : ∃ u : TagsD, u = ⟨(kk : Int), 0, 0, []⟩ := ⟨_, rfl⟩
  rw [e, ← hu] at CI CS
  dsimp only at CI CS
  have hfew : u.owns.length ≤ 1048576 := by rw [hu]; simp
  have hvu : tagsV u = true := by rw [hu]; exact tagsV_end ⟨by simp only; omega, by simp only; omega, by simp only; omega, by simp only; omega, by simp only; omega, by simp only; omega⟩ (ownsUp_zero _)
  unfold NewLaw at hlaw
  unfold OneLaw at hlaw2
  rw [← hu] at hlaw hlaw2
  have HLAW := Lib.hid hlaw
  have HLAW2 := Lib.hid hlaw2
  have HU := Lib.hid hu
  clear e HCASE hlaw hlaw2 hu
  go_wp2_with fail
  refine name_calls ?_; intro v1 hv1
  have X1 : Hid (Chg (0) (0) w0 v1) := Lib.hid (by rw [hv1]; repeat' (first | with_reducible exact Chg.refl _ _ _ | with_reducible refine Chg.alloc ?_ _ | with_reducible refine Chg.drew ?_ | with_reducible refine Chg.set ?_ (by omega) _))
  have t1 : w0.heap.size ≤ v1.heap.size := X1.out.size
  have Ev1 : Hid (Ex w v1) := Lib.hid (Ew0.out.chg X1.out (by omega))
  clear hv1
  refine (CI.out _).mono ?_; rintro r w1 ⟨A1, c1, rfl, hf1, hb1⟩
  have Y1 : Hid (Chg 0 0 v1 w1) := Lib.hid (Chg.of_ex hb1)
  have s1 : v1.heap.size ≤ w1.heap.size := Y1.out.size
  have Ew1 : Hid (Ex w w1) := Lib.hid (Ev1.out.chg Y1.out (by omega))
  clear hb1
  have HF1 := Lib.hid hf1; clear hf1
  have WHF1 := Lib.hid HF1.out.row
  go_wp2_with fail
  refine name_calls ?_; intro v2 hv2
  have X2 : Hid (Chg (0) (0) w1 v2) := Lib.hid (by rw [hv2]; repeat' (first | with_reducible exact Chg.refl _ _ _ | with_reducible refine Chg.alloc ?_ _ | with_reducible refine Chg.drew ?_ | with_reducible refine Chg.set ?_ (by omega) _))
  have t2 : w1.heap.size ≤ v2.heap.size := X2.out.size
  have Ev2 : Hid (Ex w v2) := Lib.hid (Ew1.out.chg X2.out (by omega))
  replace HF1 := Lib.hid (HF1.out.chg X2.out WHF1.out (by omega))
  have KD : Hid (Blk v2 (w1.heap.size) 30 [.int .i64 u.count, .int .i64 u.next, .int .i64 u.round, .slice A1 u.owns.length c1]) := Lib.hid (by rw [hv2]; repeat' (first | with_reducible exact Blk.new_at _ _ _ (by simp) | with_reducible refine Blk.alloc ?_ _ | with_reducible refine Blk.drew ?_ | with_reducible refine Blk.far ?_ (by simp; omega) _))
  have lD : w1.heap.size < v2.heap.size := KD.out.lt
  clear hv2
  refine (CS.out _).mono ?_; rintro r w2 ⟨A2, c2, rfl, hf2, hb2⟩
  have Y2 : Hid (Chg 0 0 v2 w2) := Lib.hid (Chg.of_ex hb2)
  have s2 : v2.heap.size ≤ w2.heap.size := Y2.out.size
  have Ew2 : Hid (Ex w w2) := Lib.hid (Ev2.out.chg Y2.out (by omega))
  clear hb2
  replace KD : Hid (Blk w2 (w1.heap.size) 30 [.int .i64 u.count, .int .i64 u.next, .int .i64 u.round, .slice A1 u.owns.length c1]) := Lib.hid (KD.out.chg Y2.out (by omega))
  replace HF1 := Lib.hid (HF1.out.chg Y2.out WHF1.out (by omega))
  have HF2 := Lib.hid hf2; clear hf2
  have WHF2 := Lib.hid HF2.out.row
  obtain ⟨qD0, qD1, qD2, qD3⟩ := KD.out.c4
  have jD := KD.out.lt
  go_wp2_with fail
  refine name_calls ?_; intro v3 hv3
  have X3 : Hid (Chg (0) (0) w2 v3) := Lib.hid (by rw [hv3]; repeat' (first | with_reducible exact Chg.refl _ _ _ | with_reducible refine Chg.alloc ?_ _ | with_reducible refine Chg.drew ?_ | with_reducible refine Chg.set ?_ (by omega) _))
  have t3 : w2.heap.size ≤ v3.heap.size := X3.out.size
  have Ev3 : Hid (Ex w v3) := Lib.hid (Ew2.out.chg X3.out (by omega))
  clear qD0 qD1 qD2 qD3 jD
  replace KD : Hid (Blk v3 (w1.heap.size) 30 [.int .i64 u.count, .int .i64 u.next, .int .i64 u.round, .slice A1 u.owns.length c1]) := Lib.hid (KD.out.chg X3.out (by omega))
  replace HF1 := Lib.hid (HF1.out.chg X3.out WHF1.out (by omega))
  replace HF2 := Lib.hid (HF2.out.chg X3.out WHF2.out (by omega))
  have KW : Hid (Blk v3 (w2.heap.size) 30 [.int .i64 u.count, .int .i64 u.next, .int .i64 u.round, .slice A2 u.owns.length c2]) := Lib.hid (by rw [hv3]; repeat' (first | with_reducible exact Blk.new_at _ _ _ (by simp) | with_reducible refine Blk.alloc ?_ _ | with_reducible refine Blk.drew ?_ | with_reducible refine Blk.far ?_ (by simp; omega) _))
  have lW : w2.heap.size < v3.heap.size := KW.out.lt
  clear hv3
  refine (tagsSameI_c u u _ _ _ _ _ HF1.out.rd HF2.out.rd hfew hfew).mono ?_; rintro r w3 ⟨rfl, hb3⟩
  have Y3 : Hid (Chg 0 0 v3 w3) := Lib.hid (Chg.of_ex hb3)
  have s3 : v3.heap.size ≤ w3.heap.size := Y3.out.size
  have Ew3 : Hid (Ex w w3) := Lib.hid (Ev3.out.chg Y3.out (by omega))
  clear hb3
  replace KD : Hid (Blk w3 (w1.heap.size) 30 [.int .i64 u.count, .int .i64 u.next, .int .i64 u.round, .slice A1 u.owns.length c1]) := Lib.hid (KD.out.chg Y3.out (by omega))
  replace KW : Hid (Blk w3 (w2.heap.size) 30 [.int .i64 u.count, .int .i64 u.next, .int .i64 u.round, .slice A2 u.owns.length c2]) := Lib.hid (KW.out.chg Y3.out (by omega))
  replace HF1 := Lib.hid (HF1.out.chg Y3.out WHF1.out (by omega))
  replace HF2 := Lib.hid (HF2.out.chg Y3.out WHF2.out (by omega))
  obtain ⟨qD0, qD1, qD2, qD3⟩ := KD.out.c4
  have jD := KD.out.lt
  obtain ⟨qW0, qW1, qW2, qW3⟩ := KW.out.c4
  have jW := KW.out.lt
  rw [eqB_self]
  clear qW0 qW1 qW2 qW3 jW
  clear KW
  clear HF2 WHF2
  have hca1 := HF1.out.cap
  have hle1 := HF1.out.le
  obtain ⟨x, y, gg, e7, hxn, e8⟩ := HLAW.out
  have C7 := takeTagsI_c u (seqA kk)
  rw [e7] at C7
  simp only [seqA_len] at C7
  replace C7 := Lib.hid C7
  have C8 := takeTagI_c x 0
  rw [e8] at C8
  replace C8 := Lib.hid C8
  have hx8 : x.owns.length ≤ 1048576 := by have := takeTags_few u (seqA kk); rw [e7] at this; dsimp only at this; omega
  have hxb : (x.next == (kk : Int)) = true := by simp [hxn]
  clear e7 e8 hxn
  have HLN : Hid ((seqA kk).length = kk) := Lib.hid (by simp [seqA])
  go_wp2
  go_loopw [8, 9] (fun v i wr => ∃ (k : Nat) (A : Option Addr) (c : Nat), i = .int .i64 k ∧ v = .slice A k c ∧ k ≤ kk ∧ Fr 3 wr w3.heap.size A c ((seqA kk).take k) ∧ Ex w3 wr) (fun _ i _ => kk - (intOf i).toNat)
  case atStart => exact ⟨0, _, 0, rfl, rfl, Nat.zero_le _, Fr.none_ _ _ _ _, (Ex.refl _).alloc _⟩
  case round =>
    obtain ⟨k, AL, cL, rfl, rfl, hk, hfl, hbel⟩ := hrel
    have HFL := Lib.hid hfl
    have HB := Lib.hid hbel
    have hszb := HB.out.size
    have Ewr := Lib.hid (Ew3.out.trans hbel)
    have WHFL := Lib.hid HFL.out.row
    clear hbel hfl qD0 qD1 qD2 qD3 jD
    have KD := Lib.hid (KD.out.ex HB.out)
    have HF1 := Lib.hid (HF1.out.ex HB.out)
    have WHF1 := Lib.hid HF1.out.row
    obtain ⟨qD0, qD1, qD2, qD3⟩ := KD.out.c4
    have jD := KD.out.lt
    by_cases hlt : k < kk
    · have hlt' : (k : Int) < ((kk : Nat) : Int) := by omega
      have HKL : Hid (k = ((seqA kk).take k).length) := Lib.hid (by rw [List.length_take, HLN.out]; omega)
      have h63 : k + 1 ≤ maxLen := by simp [maxLen]; omega
      have hby : (k + 1) * 8 ≤ 140737488355328 := by omega
      have HTK : Hid ((seqA kk).take (k + 1) = (seqA kk).take k ++ [((k : Int) * 5 + 3) % 16]) := Lib.hid (take_succ_of (by simp [seqA, hlt]))
      have hm1 : (0 : Int) ≤ (k : Int) * 5 + 3 := by omega
      go_wp2_with (at_builtin; refine wpList_append_fr (α := Int) rfl _ _ 38 rfl 3 i0 _ 8 w3.heap.size Try.underlying38 hi hz0 hz1 hz2 rfl _ _ k ((seqA kk).take k) HKL.out rfl (HFL.out.alloc _) _ 1 1 [((k : Int) * 5 + 3) % 16] rfl rfl (one_int _ _) h63 hby (by simp <;> omega) ?_)
      intro A6 c6 w6 ha
      have HA := Lib.hid ha
      clear ha
      have HEX : Hid (Ex w3 w6) := Lib.hid ((HB.out.alloc _).grown HA.out.grown (fun b hb => (WHFL.out b hb).1))
      go_wp2
      go_roundw
      case rel => exact ⟨k + 1, A6, c6, by go_num, rfl, by omega, by rw [HTK.out]; exact HA.out.fr, HEX.out⟩
      case measure => simp [intOf]; omega
    · obtain rfl : kk = k := by omega
      have HFW : Hid (Fr 3 wr w3.heap.size AL cL (seqA kk)) := Lib.hid (by have := HFL.out; rwa [List.take_of_length_le (by rw [HLN.out]; exact Nat.le_refl _)] at this)
      have WHFW := WHFL
      clear HFL WHFL
      go_wp2_with fail
      refine name_calls ?_; intro v7 hv7
      have X7 : Hid (Chg (0) (0) wr v7) := Lib.hid (by rw [hv7]; repeat' (first | with_reducible exact Chg.refl _ _ _ | with_reducible refine Chg.alloc ?_ _ | with_reducible refine Chg.drew ?_ | with_reducible refine Chg.set ?_ (by omega) _))
      have t7 : wr.heap.size ≤ v7.heap.size := X7.out.size
      have Ev7 : Hid (Ex w v7) := Lib.hid (Ewr.out.chg X7.out (by omega))
      clear qD0 qD1 qD2 qD3 jD
      replace KD : Hid (Blk v7 (w1.heap.size) 30 [.int .i64 u.count, .int .i64 u.next, .int .i64 u.round, .slice A1 u.owns.length c1]) := Lib.hid (KD.out.chg X7.out (by omega))
      replace HF1 := Lib.hid (HF1.out.chg X7.out WHF1.out (by omega))
      replace HFW := Lib.hid (HFW.out.chg X7.out WHFW.out (by omega))
      clear hv7
      refine (C7.out A1 AL c1 cL _ HF1.out.rd HFW.out.rd hfew hle1 hca1 (by omega)).mono ?_; rintro r w7 ⟨A7, c7, rfl, hf7, hb7⟩
      have Y7 : Hid (Chg 0 0 v7 w7) := Lib.hid (Chg.of_ex hb7)
      have s7 : v7.heap.size ≤ w7.heap.size := Y7.out.size
      have Ew7 : Hid (Ex w w7) := Lib.hid (Ev7.out.chg Y7.out (by omega))
      clear hb7
      replace KD : Hid (Blk w7 (w1.heap.size) 30 [.int .i64 u.count, .int .i64 u.next, .int .i64 u.round, .slice A1 u.owns.length c1]) := Lib.hid (KD.out.chg Y7.out (by omega))
      replace HF1 := Lib.hid (HF1.out.chg Y7.out WHF1.out (by omega))
      replace HFW := Lib.hid (HFW.out.chg Y7.out WHFW.out (by omega))
      have HF7 := Lib.hid hf7; clear hf7
      have WHF7 := Lib.hid HF7.out.row
      obtain ⟨qD0, qD1, qD2, qD3⟩ := KD.out.c4
      have jD := KD.out.lt
      go_wp2_with fail
      refine name_calls ?_; intro v8 hv8
      have X8 : Hid (Chg (0) (0) w7 v8) := Lib.hid (by rw [hv8]; repeat' (first | with_reducible exact Chg.refl _ _ _ | with_reducible refine Chg.alloc ?_ _ | with_reducible refine Chg.drew ?_ | with_reducible refine Chg.set ?_ (by omega) _))
      have t8 : w7.heap.size ≤ v8.heap.size := X8.out.size
      have Ev8 : Hid (Ex w v8) := Lib.hid (Ew7.out.chg X8.out (by omega))
      clear qD0 qD1 qD2 qD3 jD
      replace KD : Hid (Blk v8 (w1.heap.size) 30 [.int .i64 u.count, .int .i64 u.next, .int .i64 u.round, .slice A1 u.owns.length c1]) := Lib.hid (KD.out.chg X8.out (by omega))
      replace HF1 := Lib.hid (HF1.out.chg X8.out WHF1.out (by omega))
      replace HFW := Lib.hid (HFW.out.chg X8.out WHFW.out (by omega))
      replace HF7 := Lib.hid (HF7.out.chg X8.out WHF7.out (by omega))
      have KG : Hid (Blk v8 (w7.heap.size) 30 [.int .i64 x.count, .int .i64 x.next, .int .i64 x.round, .slice A7 x.owns.length c7]) := Lib.hid (by rw [hv8]; repeat' (first | with_reducible exact Blk.new_at _ _ _ (by simp) | with_reducible refine Blk.alloc ?_ _ | with_reducible refine Blk.drew ?_ | with_reducible refine Blk.far ?_ (by simp; omega) _))
      have lG : w7.heap.size < v8.heap.size := KG.out.lt
      clear hv8
      refine (C8.out A7 c7 _ HF7.out.rd hx8 HF7.out.le HF7.out.cap).mono ?_; rintro r w8 ⟨A8, c8, rfl, hf8, hb8⟩
      have Y8 : Hid (Chg 0 0 v8 w8) := Lib.hid (Chg.of_ex hb8)
      have s8 : v8.heap.size ≤ w8.heap.size := Y8.out.size
      have Ew8 : Hid (Ex w w8) := Lib.hid (Ev8.out.chg Y8.out (by omega))
      clear hb8
      replace KD : Hid (Blk w8 (w1.heap.size) 30 [.int .i64 u.count, .int .i64 u.next, .int .i64 u.round, .slice A1 u.owns.length c1]) := Lib.hid (KD.out.chg Y8.out (by omega))
      replace KG : Hid (Blk w8 (w7.heap.size) 30 [.int .i64 x.count, .int .i64 x.next, .int .i64 x.round, .slice A7 x.owns.length c7]) := Lib.hid (KG.out.chg Y8.out (by omega))
      replace HF1 := Lib.hid (HF1.out.chg Y8.out WHF1.out (by omega))
      replace HFW := Lib.hid (HFW.out.chg Y8.out WHFW.out (by omega))
      replace HF7 := Lib.hid (HF7.out.chg Y8.out WHF7.out (by omega))
      have HF8 := Lib.hid hf8; clear hf8
      have WHF8 := Lib.hid HF8.out.row
      obtain ⟨qD0, qD1, qD2, qD3⟩ := KD.out.c4
      have jD := KD.out.lt
      obtain ⟨qG0, qG1, qG2, qG3⟩ := KG.out.c4
      have jG := KG.out.lt
      go_wp2_with fail
      refine name_calls ?_; intro v9 hv9
      have X9 : Hid (Chg (0) (0) w8 v9) := Lib.hid (by rw [hv9]; repeat' (first | with_reducible exact Chg.refl _ _ _ | with_reducible refine Chg.alloc ?_ _ | with_reducible refine Chg.drew ?_ | with_reducible refine Chg.set ?_ (by omega) _))
      have t9 : w8.heap.size ≤ v9.heap.size := X9.out.size
      have Ev9 : Hid (Ex w v9) := Lib.hid (Ew8.out.chg X9.out (by omega))
      clear qD0 qD1 qD2 qD3 jD
      clear qG0 qG1 qG2 qG3 jG
      replace KD : Hid (Blk v9 (w1.heap.size) 30 [.int .i64 u.count, .int .i64 u.next, .int .i64 u.round, .slice A1 u.owns.length c1]) := Lib.hid (KD.out.chg X9.out (by omega))
      replace KG : Hid (Blk v9 (w7.heap.size) 30 [.int .i64 x.count, .int .i64 x.next, .int .i64 x.round, .slice A7 x.owns.length c7]) := Lib.hid (KG.out.chg X9.out (by omega))
      replace HF1 := Lib.hid (HF1.out.chg X9.out WHF1.out (by omega))
      replace HFW := Lib.hid (HFW.out.chg X9.out WHFW.out (by omega))
      replace HF7 := Lib.hid (HF7.out.chg X9.out WHF7.out (by omega))
      replace HF8 := Lib.hid (HF8.out.chg X9.out WHF8.out (by omega))
      clear hv9
      refine (tagsValidI_c u A1 c1 _ HF1.out.rd hfew HF1.out.le).mono ?_; rintro r w9 ⟨rfl, hb9⟩
      have Y9 : Hid (Chg 0 0 v9 w9) := Lib.hid (Chg.of_ex hb9)
      have s9 : v9.heap.size ≤ w9.heap.size := Y9.out.size
      have Ew9 : Hid (Ex w w9) := Lib.hid (Ev9.out.chg Y9.out (by omega))
      clear hb9
      replace KD : Hid (Blk w9 (w1.heap.size) 30 [.int .i64 u.count, .int .i64 u.next, .int .i64 u.round, .slice A1 u.owns.length c1]) := Lib.hid (KD.out.chg Y9.out (by omega))
      replace KG : Hid (Blk w9 (w7.heap.size) 30 [.int .i64 x.count, .int .i64 x.next, .int .i64 x.round, .slice A7 x.owns.length c7]) := Lib.hid (KG.out.chg Y9.out (by omega))
      replace HF1 := Lib.hid (HF1.out.chg Y9.out WHF1.out (by omega))
      replace HFW := Lib.hid (HFW.out.chg Y9.out WHFW.out (by omega))
      replace HF7 := Lib.hid (HF7.out.chg Y9.out WHF7.out (by omega))
      replace HF8 := Lib.hid (HF8.out.chg Y9.out WHF8.out (by omega))
      obtain ⟨qD0, qD1, qD2, qD3⟩ := KD.out.c4
      have jD := KD.out.lt
      obtain ⟨qG0, qG1, qG2, qG3⟩ := KG.out.c4
      have jG := KG.out.lt
      rw [hvu]
      go_wp2
      go_ret
      exact ⟨rfl, (by repeat' (first | with_reducible exact Ew9.out | with_reducible refine Ex.alloc ?_ _ | with_reducible refine Ex.drew ?_ | with_reducible refine Ex.put ?_ (by omega) _))⟩
end Go.Proofs.Ytkiohppknlmfaaa
