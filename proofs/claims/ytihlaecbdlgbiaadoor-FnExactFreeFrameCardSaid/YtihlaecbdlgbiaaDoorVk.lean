/- Keys and hashes, of both sides. -/
import Derived.Test.YtihlaecbdlgbiaaDoorVp
import Derived.Test.YtihlaecbdlgbiaaDoorCv
import Derived.Test.YtihlaecbdlgbiaaDoorNt
import Derived.Test.YtihlaecbdlgbiaaDoorL1
import Derived.IntWalk
namespace Go.Proofs.YtihlaecbdlgbiaaDoor
open Go.ChangeShapes Go.WideShapes Go.ChangeAt Go.RowKit
set_option linter.unusedVariables false
set_option maxRecDepth 100000

def keyB (k : KeyD) : Bool := inB k.space 16 && inB k.page 256
theorem keyB_iff {k : KeyD} : keyB k = true ↔ keyOk k := by unfold keyB keyOk inB; simp

set_option maxHeartbeats 1000000 in
theorem keyS_c (k : KeyD) (w : World) : Calls Tryd.prog 75 #[.agg #[.int .i64 k.space, .int .i64 k.page]] w fun r w' => r = .returned (.bool (keyB k)) ∧ Ex w w' := by
  unfold keyB
  have C1 := Lib.hid (fun w => l1Space_c k.space w)
  have C2 := Lib.hid (fun w => l1Page_c k.page w)
  generalize inB k.space 16 = b1 at C1 ⊢
  generalize inB k.page 256 = b2 at C2 ⊢
  cases b1
  · go_enter Tryd.func75, Tryd.ntmps75
    go_wp2_with fail
    refine (C1.out _).mono ?_
    rintro r w1 ⟨rfl, rfl⟩
    go_wp2
    go_ret
    exact ⟨rfl, (by repeat' (first | with_reducible exact Ex.refl _ | with_reducible refine Ex.alloc ?_ _ | with_reducible refine Ex.drew ?_ | with_reducible refine Ex.put ?_ (by omega) _))⟩
  · go_enter Tryd.func75, Tryd.ntmps75
    go_wp2_with fail
    refine (C1.out _).mono ?_
    rintro r w1 ⟨rfl, rfl⟩
    go_wp2_with fail
    refine (C2.out _).mono ?_
    rintro r w1 ⟨rfl, rfl⟩
    go_wp2
    go_ret
    exact ⟨rfl, (by repeat' (first | with_reducible exact Ex.refl _ | with_reducible refine Ex.alloc ?_ _ | with_reducible refine Ex.drew ?_ | with_reducible refine Ex.put ?_ (by omega) _))⟩
set_option maxHeartbeats 1000000 in
theorem keyI_c (k : KeyD) (w : World) : Calls Tryd.prog 62 #[.agg #[.int .i64 k.space, .int .i64 k.page]] w fun r w' => r = .returned (.bool (keyB k)) ∧ Ex w w' := by
  unfold keyB
  have C1 := Lib.hid (fun w => within_c k.space 16 w)
  have C2 := Lib.hid (fun w => within_c k.page 256 w)
  generalize inB k.space 16 = b1 at C1 ⊢
  generalize inB k.page 256 = b2 at C2 ⊢
  cases b1
  · go_enter Tryd.func62, Tryd.ntmps62
    go_wp2_with fail
    refine (C1.out _).mono ?_
    rintro r w1 ⟨rfl, rfl⟩
    go_wp2
    go_ret
    exact ⟨rfl, (by repeat' (first | with_reducible exact Ex.refl _ | with_reducible refine Ex.alloc ?_ _ | with_reducible refine Ex.drew ?_ | with_reducible refine Ex.put ?_ (by omega) _))⟩
  · go_enter Tryd.func62, Tryd.ntmps62
    go_wp2_with fail
    refine (C1.out _).mono ?_
    rintro r w1 ⟨rfl, rfl⟩
    go_wp2_with fail
    refine (C2.out _).mono ?_
    rintro r w1 ⟨rfl, rfl⟩
    go_wp2
    go_ret
    exact ⟨rfl, (by repeat' (first | with_reducible exact Ex.refl _ | with_reducible refine Ex.alloc ?_ _ | with_reducible refine Ex.drew ?_ | with_reducible refine Ex.put ?_ (by omega) _))⟩

theorem hash_parts {s p n : Int} (h1 : 0 ≤ s) (h2 : s < 16) (h3 : 0 ≤ p) (h4 : p < 256) (hn : 1 ≤ n) (hm : n ≤ 16) : 0 ≤ (s * 256 + p) * 2654435761 % 4294967296 * n ∧ (s * 256 + p) * 2654435761 % 4294967296 * n ≤ 68719476736 ∧ 0 ≤ (s * 256 + p) * 2654435761 % 4294967296 * n / 4294967296 ∧ (s * 256 + p) * 2654435761 % 4294967296 * n / 4294967296 ≤ 16 := by
  obtain ⟨x, hx⟩ : ∃ x, x = (s * 256 + p) * 2654435761 % 4294967296 := ⟨_, rfl⟩
  rw [← hx]
  have g1 : 0 ≤ x ∧ x ≤ 4294967296 := by omega
  have g2 : 0 ≤ x * n := Int.mul_nonneg g1.1 (by omega)
  have g3 : x * n ≤ 4294967296 * 16 := Int.mul_le_mul g1.2 hm (by omega) (by omega)
  obtain ⟨y, hy⟩ : ∃ y, y = x * n := ⟨_, rfl⟩
  rw [← hy] at g2 g3 ⊢
  omega
set_option maxHeartbeats 1000000 in
theorem hashS_c (k : KeyD) (n : Int) (w : World) (hk : keyOk k) (hn : 1 ≤ n) (hm : n ≤ 16) : Calls Tryd.prog 51 #[.agg #[.int .i64 k.space, .int .i64 k.page], .int .i64 n] w fun r w' => r = .returned (.int .i64 (hashK k n)) ∧ Ex w w' := by
  obtain ⟨⟨h1, h2⟩, h3, h4⟩ := hk
  obtain ⟨s, p⟩ := k
  dsimp only at h1 h2 h3 h4
  go_enter Tryd.func51, Tryd.ntmps51
  go_wp2
  go_ret
  obtain ⟨g1, g2, g3, g4⟩ := hash_parts h1 h2 h3 h4 hn hm
  refine ⟨ret_int ?_, (by repeat' (first | with_reducible exact Ex.refl _ | with_reducible refine Ex.alloc ?_ _ | with_reducible refine Ex.drew ?_ | with_reducible refine Ex.put ?_ (by omega) _))⟩
  rw [IntWalk.wrap64_in ((s * 256 + p) * 2654435761 % 4294967296 * n) ⟨by omega, by omega⟩, Int.tdiv_eq_ediv_of_nonneg g1, IntWalk.wrap64_in _ ⟨by omega, by omega⟩]
  rfl
set_option maxHeartbeats 1000000 in
theorem hashI_c (k : KeyD) (n : Int) (w : World) (hk : keyOk k) (hn : 1 ≤ n) (hm : n ≤ 16) : Calls Tryd.prog 64 #[.agg #[.int .i64 k.space, .int .i64 k.page], .int .i64 n] w fun r w' => r = .returned (.int .i64 (hashK k n)) ∧ Ex w w' := by
  obtain ⟨⟨h1, h2⟩, h3, h4⟩ := hk
  obtain ⟨s, p⟩ := k
  dsimp only at h1 h2 h3 h4
  go_enter Tryd.func64, Tryd.ntmps64
  go_wp2
  go_ret
  obtain ⟨g1, g2, g3, g4⟩ := hash_parts h1 h2 h3 h4 hn hm
  refine ⟨ret_int ?_, (by repeat' (first | with_reducible exact Ex.refl _ | with_reducible refine Ex.alloc ?_ _ | with_reducible refine Ex.drew ?_ | with_reducible refine Ex.put ?_ (by omega) _))⟩
  rw [IntWalk.u64_in ((s * 256 + p) * 2654435761 % 4294967296 * n) ⟨by omega, by omega⟩, IntWalk.wrap64_in _ ⟨by omega, by omega⟩]
  rfl

def frameB (f : FrameD) : Bool := if f.used then keyB f.key && inB f.rights 8 else eqB f freeF
theorem frameB_iff {f : FrameD} : frameB f = true ↔ frameOk f := by
  unfold frameB frameOk
  cases hu : f.used
  · simp [freeF, eqB]
    exact decide_eq_true_iff
  · simp [keyB_iff, inB]
set_option maxHeartbeats 1000000 in
theorem l3Frame_c (f : FrameD) (w : World) : Calls Tryd.prog 49 #[.agg #[.bool f.used, .int .i64 f.key.space, .int .i64 f.key.page, .int .i64 f.rights, .int .i64 f.next]] w fun r w' => r = .returned (.bool (frameB f)) ∧ Ex w w' := by
  unfold frameB
  have hz := eql_frame f freeF
  simp only [freeF] at hz
  have C1 := Lib.hid (fun w => keyS_c f.key w)
  have C2 := Lib.hid (fun w => rightsS_c f.rights w)
  cases hu : f.used
  · simp only [Bool.false_eq_true, if_false]
    generalize hq : eqB f freeF = q
    rw [show (⟨false, ⟨0, 0⟩, 0, -1⟩ : FrameD) = freeF from rfl, hq] at hz
    rw [hu] at hz
    clear hq
    go_enter Tryd.func49, Tryd.ntmps49
    go_wp2
    go_ret
    exact ⟨rfl, (by repeat' (first | with_reducible exact Ex.refl _ | with_reducible refine Ex.alloc ?_ _ | with_reducible refine Ex.drew ?_ | with_reducible refine Ex.put ?_ (by omega) _))⟩
  · simp only [if_true]
    clear hz
    generalize keyB f.key = b1 at C1 ⊢
    generalize inB f.rights 8 = b2 at C2 ⊢
    cases b1
    · go_enter Tryd.func49, Tryd.ntmps49
      go_wp2_with fail
      refine (C1.out _).mono ?_
      rintro r w1 ⟨rfl, he⟩
      have HE := Lib.hid (((Ex.refl w).alloc _).trans he)
      clear he
      go_wp2
      go_ret
      exact ⟨rfl, (by repeat' (first | with_reducible exact HE.out | with_reducible refine Ex.alloc ?_ _ | with_reducible refine Ex.drew ?_ | with_reducible refine Ex.put ?_ (by omega) _))⟩
    · go_enter Tryd.func49, Tryd.ntmps49
      go_wp2_with fail
      refine name_calls ?_; intro v1 hv1
      have X1 : Hid (Chg (0) (0) w v1) := Lib.hid (by rw [hv1]; repeat' (first | with_reducible exact Chg.refl _ _ _ | with_reducible refine Chg.alloc ?_ _ | with_reducible refine Chg.drew ?_ | with_reducible refine Chg.set ?_ (by omega) _))
      have t1 : w.heap.size ≤ v1.heap.size := X1.out.size
      have Ev1 : Hid (Ex w v1) := Lib.hid ((Ex.refl w).chg X1.out (by omega))
      have KX : Hid (Blk v1 (w.heap.size) 72 [.bool true, .int .i64 f.key.space, .int .i64 f.key.page, .int .i64 f.rights, .int .i64 f.next]) := Lib.hid (by rw [hv1]; repeat' (first | with_reducible exact Blk.new_at _ _ _ (by simp) | with_reducible refine Blk.alloc ?_ _ | with_reducible refine Blk.drew ?_ | with_reducible refine Blk.far ?_ (by simp; omega) _))
      have lX : w.heap.size < v1.heap.size := KX.out.lt
      clear hv1
      refine (C1.out _).mono ?_; rintro r w1 ⟨rfl, hb1⟩
      have Y1 : Hid (Chg 0 0 v1 w1) := Lib.hid (Chg.of_ex hb1)
      have s1 : v1.heap.size ≤ w1.heap.size := Y1.out.size
      have Ew1 : Hid (Ex w w1) := Lib.hid (Ev1.out.chg Y1.out (by omega))
      clear hb1
      replace KX : Hid (Blk w1 (w.heap.size) 72 [.bool true, .int .i64 f.key.space, .int .i64 f.key.page, .int .i64 f.rights, .int .i64 f.next]) := Lib.hid (KX.out.chg Y1.out (by omega))
      obtain ⟨qX0, qX1, qX2, qX3, qX4⟩ := KX.out.c5
      have jX := KX.out.lt
      go_wp2_with fail
      refine (C2.out _).mono ?_
      rintro r w2 ⟨rfl, rfl⟩
      go_wp2
      go_ret
      exact ⟨rfl, (by repeat' (first | with_reducible exact Ew1.out | with_reducible refine Ex.alloc ?_ _ | with_reducible refine Ex.drew ?_ | with_reducible refine Ex.put ?_ (by omega) _))⟩
end Go.Proofs.YtihlaecbdlgbiaaDoor
