/- The law FnLeaveAll: the walk. -/
import Derived.Test.YtkiohppknlmfaaaSf
import Derived.Test.YtkiohppknlmfaaaTt
import Derived.Test.YtkiohppknlmfaaaTu
import Derived.Test.YtkiohppknlmfaaaTl
import Derived.Test.YtkiohppknlmfaaaTk
import Derived.Test.YtkiohppknlmfaaaTy
import Derived.Test.YtkiohppknlmfaaaTz
import Derived.Test.YtkiohppknlmfaaaTw
import Derived.Test.YtkiohppknlmfaaaTd
import Derived.Test.YtkiohppknlmfaaaTq
import Derived.Deep.RegionHeld3
namespace Go.Proofs.Ytkiohppknlmfaaa
open Go.ChangeShapes Go.WideShapes Go.ChangeAt Go.RowKit
open Rec (sz cs)
set_option linter.unusedVariables false
set_option maxRecDepth 100000

/-- The length of the slice in a box's last cell. -/
def lenAt (g : Nat) (w : World) : Nat := match w.cell? ⟨g, 3, none⟩ with | some (.slice _ n _) => n | _ => 0
theorem lenAt_of {w : World} {g n c : Nat} {T : TypeId} {a b d : Value} {A : Option Addr} (h : Blk w g T [a, b, d, .slice A n c]) : lenAt g w = n := by
  unfold lenAt
  rw [h.c4.2.2.2]
def AllLeft (t u : TagsD) (gX gD : Nat) (A0 : Option Addr) (c0 : Nat) (w wr : World) : Prop := ∃ (l : List OwnD) (A : Option Addr) (c : Nat), Ex w wr ∧ Blk wr gX 30 [.int .i64 t.count, .int .i64 t.next, .int .i64 t.round, .slice A0 t.owns.length c0] ∧ Blk wr gD 30 [.int .i64 u.count, .int .i64 u.next, .int .i64 u.round, .slice A l.length c] ∧ tagsV ⟨u.count, u.next, u.round, l⟩ = true ∧ Fr 49 wr w.heap.size A c l ∧ (∀ b, rowOf A c = some b → b ≠ gD)

set_option maxHeartbeats 16000000 in
theorem walk_FnLeaveAll (A : Option Addr) (n c : Nat) (bs : List ByteD) (w : World) (hr : Rd w A bs) (hc : Bytes bs ∧ bs.length = n ∧ n ≤ c ∧ c ≤ maxLen) :
    Calls Try.prog 13 #[.slice A n c] w fun r w' => r = .returned (.bool true) ∧ Ex w w' := by
  obtain ⟨hb, rfl, hnc, hcm⟩ := hc
  by_cases hbig : 1048576 < bs.length
  · have hbig' : (1048576 : Int) < (bs.length : Int) := by omega
    unfold maxLen at hcm
    generalize bs.length = n at *
    go_enter Try.func13, Try.ntmps13
    go_wp2
    go_ret
    exact ⟨rfl, Ex.refl _⟩
  have hsm : ¬ (1048576 : Int) < (bs.length : Int) := by omega
  have C0 := Lib.hid (fun w' (h : Ex w w') => drawLeaveTag_c A c bs w' (hr.ex h) hb (by omega) hnc hcm)
  have hcm' := hcm
  unfold maxLen at hcm'
  generalize bs.length = n at *
  clear hr hb hcm
  go_enter Try.func13, Try.ntmps13
  go_wp2_with fail
  refine name_calls ?_; intro v0 hv0
  have X0 : Hid (Chg (0) (0) w v0) := Lib.hid (by rw [hv0]; repeat' (first | with_reducible exact Chg.refl _ _ _ | with_reducible refine Chg.alloc ?_ _ | with_reducible refine Chg.drew ?_ | with_reducible refine Chg.set ?_ (by omega) _))
  have t0 : w.heap.size ≤ v0.heap.size := X0.out.size
  have Ev0 : Hid (Ex w v0) := Lib.hid ((Ex.refl w).chg X0.out (by omega))
  clear hv0
  refine (C0.out _ Ev0.out).mono ?_; rintro r w0 ⟨t, sp, A0, c0, rfl, hl0, hf0, hb0⟩
  have Y0 : Hid (Chg 0 0 v0 w0) := Lib.hid (Chg.of_ex hb0)
  have s0 : v0.heap.size ≤ w0.heap.size := Y0.out.size
  have Ew0 : Hid (Ex w w0) := Lib.hid (Ev0.out.chg Y0.out (by omega))
  clear hb0
  have HF0 := Lib.hid hf0; clear hf0
  have WHF0 := Lib.hid HF0.out.row
  clear C0
  have hn : t.owns.length ≤ 1048576 := by omega
  have C1 := Lib.hid (leaveTagI_c t sp)
  have C2 := Lib.hid (leaveTagS_c t sp)
  have hfew := leaveTag_few t sp hn
  have HLAW : Hid (∀ u, leaveTag t sp = (u, true) → u.count = t.count ∧ u.next = t.next ∧ u.round = t.round ∧ tagsV u = true ∧ tagsV t = true) := Lib.hid (fun u h => leave_keeps h)
  generalize leaveTag t sp = q at C1 C2 hfew HLAW
  obtain ⟨u, ok⟩ := q
  dsimp only at C1 C2 hfew
  cases ok
  · skip
    go_wp2_with fail
    refine name_calls ?_; intro v1 hv1
    have X1 : Hid (Chg (0) (0) w0 v1) := Lib.hid (by rw [hv1]; repeat' (first | with_reducible exact Chg.refl _ _ _ | with_reducible refine Chg.alloc ?_ _ | with_reducible refine Chg.drew ?_ | with_reducible refine Chg.set ?_ (by omega) _))
    have t1 : w0.heap.size ≤ v1.heap.size := X1.out.size
    have Ev1 : Hid (Ex w v1) := Lib.hid (Ew0.out.chg X1.out (by omega))
    replace HF0 := Lib.hid (HF0.out.chg X1.out WHF0.out (by omega))
    have KX : Hid (Blk v1 (w0.heap.size) 30 [.int .i64 t.count, .int .i64 t.next, .int .i64 t.round, .slice A0 t.owns.length c0]) := Lib.hid (by rw [hv1]; repeat' (first | with_reducible exact Blk.new_at _ _ _ (by simp) | with_reducible refine Blk.alloc ?_ _ | with_reducible refine Blk.drew ?_ | with_reducible refine Blk.far ?_ (by simp; omega) _))
    have lX : w0.heap.size < v1.heap.size := KX.out.lt
    clear hv1
    refine (C1.out A0 c0 _ HF0.out.rd hn HF0.out.le HF0.out.cap).mono ?_; rintro r w1 ⟨A1, c1, rfl, hf1, hb1⟩
    have Y1 : Hid (Chg 0 0 v1 w1) := Lib.hid (Chg.of_ex hb1)
    have s1 : v1.heap.size ≤ w1.heap.size := Y1.out.size
    have Ew1 : Hid (Ex w w1) := Lib.hid (Ev1.out.chg Y1.out (by omega))
    clear hb1
    replace KX : Hid (Blk w1 (w0.heap.size) 30 [.int .i64 t.count, .int .i64 t.next, .int .i64 t.round, .slice A0 t.owns.length c0]) := Lib.hid (KX.out.chg Y1.out (by omega))
    replace HF0 := Lib.hid (HF0.out.chg Y1.out WHF0.out (by omega))
    have HF1 := Lib.hid hf1; clear hf1
    have WHF1 := Lib.hid HF1.out.row
    obtain ⟨qX0, qX1, qX2, qX3⟩ := KX.out.c4
    have jX := KX.out.lt
    go_wp2_with fail
    refine name_calls ?_; intro v2 hv2
    have X2 : Hid (Chg (0) (0) w1 v2) := Lib.hid (by rw [hv2]; repeat' (first | with_reducible exact Chg.refl _ _ _ | with_reducible refine Chg.alloc ?_ _ | with_reducible refine Chg.drew ?_ | with_reducible refine Chg.set ?_ (by omega) _))
    have t2 : w1.heap.size ≤ v2.heap.size := X2.out.size
    have Ev2 : Hid (Ex w v2) := Lib.hid (Ew1.out.chg X2.out (by omega))
    clear qX0 qX1 qX2 qX3 jX
    replace KX : Hid (Blk v2 (w0.heap.size) 30 [.int .i64 t.count, .int .i64 t.next, .int .i64 t.round, .slice A0 t.owns.length c0]) := Lib.hid (KX.out.chg X2.out (by omega))
    replace HF0 := Lib.hid (HF0.out.chg X2.out WHF0.out (by omega))
    replace HF1 := Lib.hid (HF1.out.chg X2.out WHF1.out (by omega))
    have KD : Hid (Blk v2 (w1.heap.size) 30 [.int .i64 u.count, .int .i64 u.next, .int .i64 u.round, .slice A1 u.owns.length c1]) := Lib.hid (by rw [hv2]; repeat' (first | with_reducible exact Blk.new_at _ _ _ (by simp) | with_reducible refine Blk.alloc ?_ _ | with_reducible refine Blk.drew ?_ | with_reducible refine Blk.far ?_ (by simp; omega) _))
    have lD : w1.heap.size < v2.heap.size := KD.out.lt
    clear hv2
    refine (C2.out A0 c0 _ HF0.out.rd hn HF0.out.le HF0.out.cap).mono ?_; rintro r w2 ⟨A2, c2, rfl, hf2, hb2⟩
    have Y2 : Hid (Chg 0 0 v2 w2) := Lib.hid (Chg.of_ex hb2)
    have s2 : v2.heap.size ≤ w2.heap.size := Y2.out.size
    have Ew2 : Hid (Ex w w2) := Lib.hid (Ev2.out.chg Y2.out (by omega))
    clear hb2
    replace KX : Hid (Blk w2 (w0.heap.size) 30 [.int .i64 t.count, .int .i64 t.next, .int .i64 t.round, .slice A0 t.owns.length c0]) := Lib.hid (KX.out.chg Y2.out (by omega))
    replace KD : Hid (Blk w2 (w1.heap.size) 30 [.int .i64 u.count, .int .i64 u.next, .int .i64 u.round, .slice A1 u.owns.length c1]) := Lib.hid (KD.out.chg Y2.out (by omega))
    replace HF0 := Lib.hid (HF0.out.chg Y2.out WHF0.out (by omega))
    replace HF1 := Lib.hid (HF1.out.chg Y2.out WHF1.out (by omega))
    have HF2 := Lib.hid hf2; clear hf2
    have WHF2 := Lib.hid HF2.out.row
    obtain ⟨qX0, qX1, qX2, qX3⟩ := KX.out.c4
    have jX := KX.out.lt
    obtain ⟨qD0, qD1, qD2, qD3⟩ := KD.out.c4
    have jD := KD.out.lt
    go_wp2_with fail
    refine name_calls ?_; intro v3 hv3
    have X3 : Hid (Chg (0) (0) w2 v3) := Lib.hid (by rw [hv3]; repeat' (first | with_reducible exact Chg.refl _ _ _ | with_reducible refine Chg.alloc ?_ _ | with_reducible refine Chg.drew ?_ | with_reducible refine Chg.set ?_ (by omega) _))
    have t3 : w2.heap.size ≤ v3.heap.size := X3.out.size
    have Ev3 : Hid (Ex w v3) := Lib.hid (Ew2.out.chg X3.out (by omega))
    clear qX0 qX1 qX2 qX3 jX
    clear qD0 qD1 qD2 qD3 jD
    replace KX : Hid (Blk v3 (w0.heap.size) 30 [.int .i64 t.count, .int .i64 t.next, .int .i64 t.round, .slice A0 t.owns.length c0]) := Lib.hid (KX.out.chg X3.out (by omega))
    replace KD : Hid (Blk v3 (w1.heap.size) 30 [.int .i64 u.count, .int .i64 u.next, .int .i64 u.round, .slice A1 u.owns.length c1]) := Lib.hid (KD.out.chg X3.out (by omega))
    replace HF0 := Lib.hid (HF0.out.chg X3.out WHF0.out (by omega))
    replace HF1 := Lib.hid (HF1.out.chg X3.out WHF1.out (by omega))
    replace HF2 := Lib.hid (HF2.out.chg X3.out WHF2.out (by omega))
    have KW : Hid (Blk v3 (w2.heap.size) 30 [.int .i64 u.count, .int .i64 u.next, .int .i64 u.round, .slice A2 u.owns.length c2]) := Lib.hid (by rw [hv3]; repeat' (first | with_reducible exact Blk.new_at _ _ _ (by simp) | with_reducible refine Blk.alloc ?_ _ | with_reducible refine Blk.drew ?_ | with_reducible refine Blk.far ?_ (by simp; omega) _))
    have lW : w2.heap.size < v3.heap.size := KW.out.lt
    clear hv3
    refine (tagsSameI_c u u _ _ _ _ _ HF1.out.rd HF2.out.rd hfew hfew).mono ?_; rintro r w3 ⟨rfl, hb3⟩
    have Y3 : Hid (Chg 0 0 v3 w3) := Lib.hid (Chg.of_ex hb3)
    have s3 : v3.heap.size ≤ w3.heap.size := Y3.out.size
    have Ew3 : Hid (Ex w w3) := Lib.hid (Ev3.out.chg Y3.out (by omega))
    clear hb3
    replace KX : Hid (Blk w3 (w0.heap.size) 30 [.int .i64 t.count, .int .i64 t.next, .int .i64 t.round, .slice A0 t.owns.length c0]) := Lib.hid (KX.out.chg Y3.out (by omega))
    replace KD : Hid (Blk w3 (w1.heap.size) 30 [.int .i64 u.count, .int .i64 u.next, .int .i64 u.round, .slice A1 u.owns.length c1]) := Lib.hid (KD.out.chg Y3.out (by omega))
    replace KW : Hid (Blk w3 (w2.heap.size) 30 [.int .i64 u.count, .int .i64 u.next, .int .i64 u.round, .slice A2 u.owns.length c2]) := Lib.hid (KW.out.chg Y3.out (by omega))
    replace HF0 := Lib.hid (HF0.out.chg Y3.out WHF0.out (by omega))
    replace HF1 := Lib.hid (HF1.out.chg Y3.out WHF1.out (by omega))
    replace HF2 := Lib.hid (HF2.out.chg Y3.out WHF2.out (by omega))
    obtain ⟨qX0, qX1, qX2, qX3⟩ := KX.out.c4
    have jX := KX.out.lt
    obtain ⟨qD0, qD1, qD2, qD3⟩ := KD.out.c4
    have jD := KD.out.lt
    obtain ⟨qW0, qW1, qW2, qW3⟩ := KW.out.c4
    have jW := KW.out.lt
    rw [eqB_self]
    go_wp2_with fail
    refine name_calls ?_; intro v4 hv4
    have X4 : Hid (Chg (0) (0) w3 v4) := Lib.hid (by rw [hv4]; repeat' (first | with_reducible exact Chg.refl _ _ _ | with_reducible refine Chg.alloc ?_ _ | with_reducible refine Chg.drew ?_ | with_reducible refine Chg.set ?_ (by omega) _))
    have t4 : w3.heap.size ≤ v4.heap.size := X4.out.size
    have Ev4 : Hid (Ex w v4) := Lib.hid (Ew3.out.chg X4.out (by omega))
    clear qX0 qX1 qX2 qX3 jX
    clear qD0 qD1 qD2 qD3 jD
    clear qW0 qW1 qW2 qW3 jW
    replace KX : Hid (Blk v4 (w0.heap.size) 30 [.int .i64 t.count, .int .i64 t.next, .int .i64 t.round, .slice A0 t.owns.length c0]) := Lib.hid (KX.out.chg X4.out (by omega))
    replace KD : Hid (Blk v4 (w1.heap.size) 30 [.int .i64 u.count, .int .i64 u.next, .int .i64 u.round, .slice A1 u.owns.length c1]) := Lib.hid (KD.out.chg X4.out (by omega))
    replace KW : Hid (Blk v4 (w2.heap.size) 30 [.int .i64 u.count, .int .i64 u.next, .int .i64 u.round, .slice A2 u.owns.length c2]) := Lib.hid (KW.out.chg X4.out (by omega))
    replace HF0 := Lib.hid (HF0.out.chg X4.out WHF0.out (by omega))
    replace HF1 := Lib.hid (HF1.out.chg X4.out WHF1.out (by omega))
    replace HF2 := Lib.hid (HF2.out.chg X4.out WHF2.out (by omega))
    clear hv4
    refine (tagsSameI_c u u _ _ _ _ _ HF1.out.rd HF2.out.rd hfew hfew).mono ?_; rintro r w4 ⟨rfl, hb4⟩
    have Y4 : Hid (Chg 0 0 v4 w4) := Lib.hid (Chg.of_ex hb4)
    have s4 : v4.heap.size ≤ w4.heap.size := Y4.out.size
    have Ew4 : Hid (Ex w w4) := Lib.hid (Ev4.out.chg Y4.out (by omega))
    clear hb4
    replace KX : Hid (Blk w4 (w0.heap.size) 30 [.int .i64 t.count, .int .i64 t.next, .int .i64 t.round, .slice A0 t.owns.length c0]) := Lib.hid (KX.out.chg Y4.out (by omega))
    replace KD : Hid (Blk w4 (w1.heap.size) 30 [.int .i64 u.count, .int .i64 u.next, .int .i64 u.round, .slice A1 u.owns.length c1]) := Lib.hid (KD.out.chg Y4.out (by omega))
    replace KW : Hid (Blk w4 (w2.heap.size) 30 [.int .i64 u.count, .int .i64 u.next, .int .i64 u.round, .slice A2 u.owns.length c2]) := Lib.hid (KW.out.chg Y4.out (by omega))
    replace HF0 := Lib.hid (HF0.out.chg Y4.out WHF0.out (by omega))
    replace HF1 := Lib.hid (HF1.out.chg Y4.out WHF1.out (by omega))
    replace HF2 := Lib.hid (HF2.out.chg Y4.out WHF2.out (by omega))
    obtain ⟨qX0, qX1, qX2, qX3⟩ := KX.out.c4
    have jX := KX.out.lt
    obtain ⟨qD0, qD1, qD2, qD3⟩ := KD.out.c4
    have jD := KD.out.lt
    obtain ⟨qW0, qW1, qW2, qW3⟩ := KW.out.c4
    have jW := KW.out.lt
    rw [eqB_self]
    go_wp2
    go_ret
    exact ⟨rfl, (by repeat' (first | with_reducible exact Ew4.out | with_reducible refine Ex.alloc ?_ _ | with_reducible refine Ex.drew ?_ | with_reducible refine Ex.put ?_ (by omega) _))⟩
  obtain ⟨-, hnx, hrd, hvu, -⟩ := HLAW.out u rfl
  have hb1 : (u.next == t.next) = true := by simp [hnx]
  have hb2 : (u.round == t.round) = true := by simp [hrd]
  clear hnx hrd HLAW
  go_wp2_with fail
  refine name_calls ?_; intro v1 hv1
  have X1 : Hid (Chg (0) (0) w0 v1) := Lib.hid (by rw [hv1]; repeat' (first | with_reducible exact Chg.refl _ _ _ | with_reducible refine Chg.alloc ?_ _ | with_reducible refine Chg.drew ?_ | with_reducible refine Chg.set ?_ (by omega) _))
  have t1 : w0.heap.size ≤ v1.heap.size := X1.out.size
  have Ev1 : Hid (Ex w v1) := Lib.hid (Ew0.out.chg X1.out (by omega))
  replace HF0 := Lib.hid (HF0.out.chg X1.out WHF0.out (by omega))
  have KX : Hid (Blk v1 (w0.heap.size) 30 [.int .i64 t.count, .int .i64 t.next, .int .i64 t.round, .slice A0 t.owns.length c0]) := Lib.hid (by rw [hv1]; repeat' (first | with_reducible exact Blk.new_at _ _ _ (by simp) | with_reducible refine Blk.alloc ?_ _ | with_reducible refine Blk.drew ?_ | with_reducible refine Blk.far ?_ (by simp; omega) _))
  have lX : w0.heap.size < v1.heap.size := KX.out.lt
  clear hv1
  refine (C1.out A0 c0 _ HF0.out.rd hn HF0.out.le HF0.out.cap).mono ?_; rintro r w1 ⟨A1, c1, rfl, hf1, hb1⟩
  have Y1 : Hid (Chg 0 0 v1 w1) := Lib.hid (Chg.of_ex hb1)
  have s1 : v1.heap.size ≤ w1.heap.size := Y1.out.size
  have Ew1 : Hid (Ex w w1) := Lib.hid (Ev1.out.chg Y1.out (by omega))
  clear hb1
  replace KX : Hid (Blk w1 (w0.heap.size) 30 [.int .i64 t.count, .int .i64 t.next, .int .i64 t.round, .slice A0 t.owns.length c0]) := Lib.hid (KX.out.chg Y1.out (by omega))
  replace HF0 := Lib.hid (HF0.out.chg Y1.out WHF0.out (by omega))
  have HF1 := Lib.hid hf1; clear hf1
  have WHF1 := Lib.hid HF1.out.row
  obtain ⟨qX0, qX1, qX2, qX3⟩ := KX.out.c4
  have jX := KX.out.lt
  go_wp2_with fail
  refine name_calls ?_; intro v2 hv2
  have X2 : Hid (Chg (0) (0) w1 v2) := Lib.hid (by rw [hv2]; repeat' (first | with_reducible exact Chg.refl _ _ _ | with_reducible refine Chg.alloc ?_ _ | with_reducible refine Chg.drew ?_ | with_reducible refine Chg.set ?_ (by omega) _))
  have t2 : w1.heap.size ≤ v2.heap.size := X2.out.size
  have Ev2 : Hid (Ex w v2) := Lib.hid (Ew1.out.chg X2.out (by omega))
  clear qX0 qX1 qX2 qX3 jX
  replace KX : Hid (Blk v2 (w0.heap.size) 30 [.int .i64 t.count, .int .i64 t.next, .int .i64 t.round, .slice A0 t.owns.length c0]) := Lib.hid (KX.out.chg X2.out (by omega))
  replace HF0 := Lib.hid (HF0.out.chg X2.out WHF0.out (by omega))
  replace HF1 := Lib.hid (HF1.out.chg X2.out WHF1.out (by omega))
  have KD : Hid (Blk v2 (w1.heap.size) 30 [.int .i64 u.count, .int .i64 u.next, .int .i64 u.round, .slice A1 u.owns.length c1]) := Lib.hid (by rw [hv2]; repeat' (first | with_reducible exact Blk.new_at _ _ _ (by simp) | with_reducible refine Blk.alloc ?_ _ | with_reducible refine Blk.drew ?_ | with_reducible refine Blk.far ?_ (by simp; omega) _))
  have lD : w1.heap.size < v2.heap.size := KD.out.lt
  clear hv2
  refine (C2.out A0 c0 _ HF0.out.rd hn HF0.out.le HF0.out.cap).mono ?_; rintro r w2 ⟨A2, c2, rfl, hf2, hb2⟩
  have Y2 : Hid (Chg 0 0 v2 w2) := Lib.hid (Chg.of_ex hb2)
  have s2 : v2.heap.size ≤ w2.heap.size := Y2.out.size
  have Ew2 : Hid (Ex w w2) := Lib.hid (Ev2.out.chg Y2.out (by omega))
  clear hb2
  replace KX : Hid (Blk w2 (w0.heap.size) 30 [.int .i64 t.count, .int .i64 t.next, .int .i64 t.round, .slice A0 t.owns.length c0]) := Lib.hid (KX.out.chg Y2.out (by omega))
  replace KD : Hid (Blk w2 (w1.heap.size) 30 [.int .i64 u.count, .int .i64 u.next, .int .i64 u.round, .slice A1 u.owns.length c1]) := Lib.hid (KD.out.chg Y2.out (by omega))
  replace HF0 := Lib.hid (HF0.out.chg Y2.out WHF0.out (by omega))
  replace HF1 := Lib.hid (HF1.out.chg Y2.out WHF1.out (by omega))
  have HF2 := Lib.hid hf2; clear hf2
  have WHF2 := Lib.hid HF2.out.row
  obtain ⟨qX0, qX1, qX2, qX3⟩ := KX.out.c4
  have jX := KX.out.lt
  obtain ⟨qD0, qD1, qD2, qD3⟩ := KD.out.c4
  have jD := KD.out.lt
  go_wp2_with fail
  refine name_calls ?_; intro v3 hv3
  have X3 : Hid (Chg (0) (0) w2 v3) := Lib.hid (by rw [hv3]; repeat' (first | with_reducible exact Chg.refl _ _ _ | with_reducible refine Chg.alloc ?_ _ | with_reducible refine Chg.drew ?_ | with_reducible refine Chg.set ?_ (by omega) _))
  have t3 : w2.heap.size ≤ v3.heap.size := X3.out.size
  have Ev3 : Hid (Ex w v3) := Lib.hid (Ew2.out.chg X3.out (by omega))
  clear qX0 qX1 qX2 qX3 jX
  clear qD0 qD1 qD2 qD3 jD
  replace KX : Hid (Blk v3 (w0.heap.size) 30 [.int .i64 t.count, .int .i64 t.next, .int .i64 t.round, .slice A0 t.owns.length c0]) := Lib.hid (KX.out.chg X3.out (by omega))
  replace KD : Hid (Blk v3 (w1.heap.size) 30 [.int .i64 u.count, .int .i64 u.next, .int .i64 u.round, .slice A1 u.owns.length c1]) := Lib.hid (KD.out.chg X3.out (by omega))
  replace HF0 := Lib.hid (HF0.out.chg X3.out WHF0.out (by omega))
  replace HF1 := Lib.hid (HF1.out.chg X3.out WHF1.out (by omega))
  replace HF2 := Lib.hid (HF2.out.chg X3.out WHF2.out (by omega))
  have KW : Hid (Blk v3 (w2.heap.size) 30 [.int .i64 u.count, .int .i64 u.next, .int .i64 u.round, .slice A2 u.owns.length c2]) := Lib.hid (by rw [hv3]; repeat' (first | with_reducible exact Blk.new_at _ _ _ (by simp) | with_reducible refine Blk.alloc ?_ _ | with_reducible refine Blk.drew ?_ | with_reducible refine Blk.far ?_ (by simp; omega) _))
  have lW : w2.heap.size < v3.heap.size := KW.out.lt
  clear hv3
  refine (tagsSameI_c u u _ _ _ _ _ HF1.out.rd HF2.out.rd hfew hfew).mono ?_; rintro r w3 ⟨rfl, hb3⟩
  have Y3 : Hid (Chg 0 0 v3 w3) := Lib.hid (Chg.of_ex hb3)
  have s3 : v3.heap.size ≤ w3.heap.size := Y3.out.size
  have Ew3 : Hid (Ex w w3) := Lib.hid (Ev3.out.chg Y3.out (by omega))
  clear hb3
  replace KX : Hid (Blk w3 (w0.heap.size) 30 [.int .i64 t.count, .int .i64 t.next, .int .i64 t.round, .slice A0 t.owns.length c0]) := Lib.hid (KX.out.chg Y3.out (by omega))
  replace KD : Hid (Blk w3 (w1.heap.size) 30 [.int .i64 u.count, .int .i64 u.next, .int .i64 u.round, .slice A1 u.owns.length c1]) := Lib.hid (KD.out.chg Y3.out (by omega))
  replace KW : Hid (Blk w3 (w2.heap.size) 30 [.int .i64 u.count, .int .i64 u.next, .int .i64 u.round, .slice A2 u.owns.length c2]) := Lib.hid (KW.out.chg Y3.out (by omega))
  replace HF0 := Lib.hid (HF0.out.chg Y3.out WHF0.out (by omega))
  replace HF1 := Lib.hid (HF1.out.chg Y3.out WHF1.out (by omega))
  replace HF2 := Lib.hid (HF2.out.chg Y3.out WHF2.out (by omega))
  obtain ⟨qX0, qX1, qX2, qX3⟩ := KX.out.c4
  have jX := KX.out.lt
  obtain ⟨qD0, qD1, qD2, qD3⟩ := KD.out.c4
  have jD := KD.out.lt
  obtain ⟨qW0, qW1, qW2, qW3⟩ := KW.out.c4
  have jW := KW.out.lt
  rw [eqB_self]
  clear qW0 qW1 qW2 qW3 jW
  clear KW
  clear HF2 WHF2
  obtain ⟨gD, hgD⟩ : ∃ gD, gD = w1.heap.size := ⟨_, rfl⟩
  obtain ⟨gX, hgX⟩ : ∃ gX, gX = w0.heap.size := ⟨_, rfl⟩
  have HST : Hid (AllLeft t u gX gD A0 c0 w w3) := Lib.hid ⟨u.owns, A1, c1, Ew3.out, by rw [hgX]; exact KX.out, by rw [hgD]; exact KD.out, hvu, HF1.out.mono (by omega), fun b hb => by have := WHF1.out b hb; omega⟩
  have hgw : w.heap.size ≤ gX := by omega
  have hgXD : gX < gD := by omega
  rw [← hgD] at qD0 qD1 qD2 qD3 jD ⊢
  try rw [← hgX]
  clear hgD hgX
  clear qX0 qX1 qX2 qX3 jX qD0 qD1 qD2 qD3 jD KX KD HF1 WHF1 HF0 WHF0 hvu
  go_wp2
  go_loopw [10] (fun _ wr => AllLeft t u gX gD A0 c0 w wr) (fun _ wr => lenAt gD wr)
  case atStart => exact HST.out
  case round =>
    clear HST
    obtain ⟨ll, A, c, hex, hkx, hkd, hvl, hf, hrow⟩ := hrel
    have Ewr := Lib.hid hex
    have KX := Lib.hid hkx
    have KD := Lib.hid hkd
    have HF := Lib.hid hf
    have WHF := Lib.hid HF.out.row
    have HROW := Lib.hid hrow
    have hsz := Ewr.out.size
    have hl8 := (tv_few hvl).2
    dsimp only at hl8
    have hle := HF.out.le
    have hca := HF.out.cap
    clear hex hkx hkd hf hrow
    obtain ⟨qX0, qX1, qX2, qX3⟩ := KX.out.c4
    have jX := KX.out.lt
    obtain ⟨qD0, qD1, qD2, qD3⟩ := KD.out.c4
    have jD := KD.out.lt
    have zD := KD.out.frozen
    have lgD : gD < wr.heap.size := KD.out.lt
    cases ll with
    | nil =>
      simp only [List.length_nil] at KD qD3 hle hl8
      have hl0 : ([] : List OwnD).length ≤ 1048576 := by simp
      go_wp2_with fail
      refine name_calls ?_; intro v7 hv7
      have X7 : Hid (Chg (0) (0) wr v7) := Lib.hid (by rw [hv7]; repeat' (first | with_reducible exact Chg.refl _ _ _ | with_reducible refine Chg.alloc ?_ _ | with_reducible refine Chg.drew ?_ | with_reducible refine Chg.set ?_ (by omega) _))
      have t7 : wr.heap.size ≤ v7.heap.size := X7.out.size
      have Ev7 : Hid (Ex w v7) := Lib.hid (Ewr.out.chg X7.out (by omega))
      clear qX0 qX1 qX2 qX3 jX
      clear qD0 qD1 qD2 qD3 jD zD
      replace KX : Hid (Blk v7 (gX) 30 [.int .i64 t.count, .int .i64 t.next, .int .i64 t.round, .slice A0 t.owns.length c0]) := Lib.hid (KX.out.chg X7.out (by omega))
      replace KD : Hid (Blk v7 (gD) 30 [.int .i64 u.count, .int .i64 u.next, .int .i64 u.round, .slice A 0 c]) := Lib.hid (KD.out.chg X7.out (by omega))
      replace HF := Lib.hid (HF.out.chg X7.out WHF.out (by omega))
      clear hv7
      refine (tagsValidI_c ⟨u.count, u.next, u.round, []⟩ A c _ (Rd.nil _ _) hl0 (Nat.zero_le _)).mono ?_; rintro r w7 ⟨rfl, hb7⟩
      have Y7 : Hid (Chg 0 0 v7 w7) := Lib.hid (Chg.of_ex hb7)
      have s7 : v7.heap.size ≤ w7.heap.size := Y7.out.size
      have Ew7 : Hid (Ex w w7) := Lib.hid (Ev7.out.chg Y7.out (by omega))
      clear hb7
      replace KX : Hid (Blk w7 (gX) 30 [.int .i64 t.count, .int .i64 t.next, .int .i64 t.round, .slice A0 t.owns.length c0]) := Lib.hid (KX.out.chg Y7.out (by omega))
      replace KD : Hid (Blk w7 (gD) 30 [.int .i64 u.count, .int .i64 u.next, .int .i64 u.round, .slice A 0 c]) := Lib.hid (KD.out.chg Y7.out (by omega))
      replace HF := Lib.hid (HF.out.chg Y7.out WHF.out (by omega))
      obtain ⟨qX0, qX1, qX2, qX3⟩ := KX.out.c4
      have jX := KX.out.lt
      obtain ⟨qD0, qD1, qD2, qD3⟩ := KD.out.c4
      have jD := KD.out.lt
      have zD := KD.out.frozen
      rw [hvl]
      go_wp2
      go_ret
      exact ⟨rfl, (by repeat' (first | with_reducible exact Ew7.out | with_reducible refine Ex.alloc ?_ _ | with_reducible refine Ex.drew ?_ | with_reducible refine Ex.put ?_ (by omega) _))⟩
    | cons x l =>
      have hlt : 0 < (x :: l).length := by simp
      have hlt' : (0 : Int) < ((x :: l).length : Int) := by simp only [List.length_cons]; omega
      obtain ⟨b1, o1, x', hA, hb1', hxk, h0, h1⟩ := Rd.own HF.out.rd (k := 0) hlt
      subst hA
      obtain rfl : x = x' := by simpa using hxk
      simp only [Nat.zero_mul, Nat.add_zero] at h0
      have hvl2 := tail_valid hvl
      have C5 := leaveTagI_c ⟨u.count, u.next, u.round, x :: l⟩ x.space
      rw [leave_first hvl rfl] at C5
      simp only [List.length_cons] at C5 KD qD3 hle hl8 hlt'
      replace C5 := Lib.hid C5
      have HB1 := Lib.hid hb1'
      have HE0 := Lib.hid h0
      have HVL := Lib.hid hvl2
      have hn5 : l.length + 1 ≤ 1048576 := by omega
      clear hxk h0 h1 hvl2 hvl
      have FK : Hid (∀ w', Ex wr w' → (w'.cell? ⟨gD, 0, none⟩ = some (.int .i64 u.count) ∧ w'.cell? ⟨gD, 1, none⟩ = some (.int .i64 u.next) ∧ w'.cell? ⟨gD, 2, none⟩ = some (.int .i64 u.round) ∧ w'.cell? ⟨gD, 3, none⟩ = some (.slice (some ⟨b1, o1, none⟩) (l.length + 1) c) ∧ w'.cell? ⟨b1, o1, none⟩ = some (.int .i64 x.space))) := Lib.hid (fun w' h => by
        obtain ⟨a0, a1, a2, a3⟩ := (KD.out.ex h).c4
        exact ⟨a0, a1, a2, a3, (h.cell HB1.out).trans HE0.out⟩)
      have RD1 : Hid (∀ w', Ex wr w' → Rd w' (some ⟨b1, o1, none⟩) (x :: l)) := Lib.hid (fun w' h => HF.out.rd.ex h)
      have KD0 := KD
      go_wp2_with fail
      go_region_held3 (fun w' => (w'.cell? ⟨gD, 0, none⟩ = some (.int .i64 u.count) ∧ w'.cell? ⟨gD, 1, none⟩ = some (.int .i64 u.next) ∧ w'.cell? ⟨gD, 2, none⟩ = some (.int .i64 u.round) ∧ w'.cell? ⟨gD, 3, none⟩ = some (.slice (some ⟨b1, o1, none⟩) (l.length + 1) c) ∧ w'.cell? ⟨b1, o1, none⟩ = some (.int .i64 x.space))) ((refine FK.out _ ?_; with_reducible (first | exact Ex.refl _ | exact (Ex.refl _).drew | exact ((Ex.refl _).alloc _).drew | exact hba | exact hba.alloc _ | exact Ex.set (Ex.set (Ex.set (Ex.set hba (Nat.le_refl _) _) (Nat.le_refl _) _) (Nat.le_refl _) _) (Nat.le_refl _) _))) (first | (go_at_call 42; (with_reducible refine (C5.out _ c _ ?_ hn5 hle hca).mono ?_); (first | with_reducible exact RD1.out _ (Ex.refl _).drew | with_reducible exact RD1.out _ ((Ex.refl _).alloc _).drew); rintro r5 w5 ⟨A5, c5, rfl, hf5, hb5⟩; (first | (with_reducible (have hba : Ex wr w5 := (Ex.refl _).drew.trans hb5)) | (with_reducible (have hba : Ex wr w5 := ((Ex.refl _).alloc _).drew.trans hb5); have hz : Blk w5 wr.heap.size 30 [.int .i64 0, .int .i64 0, .int .i64 0, .slice none 0 0] := Blk.ex (Blk.drew (Blk.new wr 30 [.int .i64 0, .int .i64 0, .int .i64 0, .slice none 0 0])) hb5; obtain ⟨hz0, hz1, hz2, hz3⟩ := hz.c4; have hzf := hz.frozen; have hzl := hz.lt))))
      all_goals
        rename_i hHeld
        clear hHeld
        first
        | (obtain ⟨wN, hwN⟩ : ∃ wN : World, wN = w5.alloc (.cells #[.int .i64 u.count, .int .i64 u.next, .int .i64 u.round, .slice A5 l.length c5] 30) := ⟨_, rfl⟩
           have KN : Hid (Blk wN w5.heap.size 30 [.int .i64 u.count, .int .i64 u.next, .int .i64 u.round, .slice A5 l.length c5]) := Lib.hid (by rw [hwN]; exact Blk.new _ _ _)
           have EE : Hid (Ex wr wN) := Lib.hid (by rw [hwN]; exact hba.alloc _)
           have HF5 : Hid (Fr 49 wN wr.heap.size A5 c5 l) := Lib.hid (by rw [hwN]; exact (Fr.mono hf5 (by simp)).alloc _)
           obtain ⟨gN, hgN⟩ : ∃ gN, gN = w5.heap.size := ⟨_, rfl⟩
           have hgN2 : wr.heap.size ≤ gN := by have := hba.size; omega
           rw [← hgN] at KN
           rw [← hwN, ← hgN]
           clear hwN hgN)
        | (obtain ⟨wN, hwN⟩ : ∃ wN : World, wN = (((w5.setCell ⟨wr.heap.size, 0, none⟩ (.int .i64 u.count)).setCell ⟨wr.heap.size, 1, none⟩ (.int .i64 u.next)).setCell ⟨wr.heap.size, 2, none⟩ (.int .i64 u.round)).setCell ⟨wr.heap.size, 3, none⟩ (.slice A5 l.length c5) := ⟨_, rfl⟩
           have KN : Hid (Blk wN wr.heap.size 30 [.int .i64 u.count, .int .i64 u.next, .int .i64 u.round, .slice A5 l.length c5]) := Lib.hid (by rw [hwN]; exact Blk.put4 hz)
           have EE : Hid (Ex wr wN) := Lib.hid (by rw [hwN]; exact (((hba.set (Nat.le_refl _) _).set (Nat.le_refl _) _).set (Nat.le_refl _) _).set (Nat.le_refl _) _)
           have HF5 : Hid (Fr 49 wN wr.heap.size A5 c5 l) := Lib.hid (by
             rw [hwN]
             refine Fr.mono (B := wr.heap.size + 1) ?_ (by omega)
             have hf6 : Fr 49 w5 (wr.heap.size + 1) A5 c5 l := Fr.mono hf5 (by simp)
             exact (((hf6.set_below (by simp) _).set_below (by simp) _).set_below (by simp) _).set_below (by simp) _)
           obtain ⟨gN, hgN⟩ : ∃ gN, gN = wr.heap.size := ⟨_, rfl⟩
           have hgN2 : wr.heap.size ≤ gN := by omega
           rw [← hgN] at KN
           rw [← hwN, ← hgN]
           clear hwN hgN hz hz0 hz1 hz2 hz3 hzf hzl)
        have Y5 : Hid (Chg 0 0 wr wN) := Lib.hid (Chg.of_ex EE.out)
        have WHF5 := Lib.hid HF5.out.row
        clear hf5 hb5 hba FK RD1
        clear HF WHF
        have s5 : wr.heap.size ≤ wN.heap.size := Y5.out.size
        have EwN : Hid (Ex w wN) := Lib.hid (Ewr.out.chg Y5.out (by omega))
        clear qX0 qX1 qX2 qX3 jX
        clear qD0 qD1 qD2 qD3 jD zD
        replace KX : Hid (Blk wN (gX) 30 [.int .i64 t.count, .int .i64 t.next, .int .i64 t.round, .slice A0 t.owns.length c0]) := Lib.hid (KX.out.chg Y5.out (by omega))
        replace KD : Hid (Blk wN (gD) 30 [.int .i64 u.count, .int .i64 u.next, .int .i64 u.round, .slice (some ⟨b1, o1, none⟩) (l.length + 1) c]) := Lib.hid (KD.out.chg Y5.out (by omega))
        obtain ⟨qX0, qX1, qX2, qX3⟩ := KX.out.c4
        have jX := KX.out.lt
        obtain ⟨qD0, qD1, qD2, qD3⟩ := KD.out.c4
        have jD := KD.out.lt
        have zD := KD.out.frozen
        obtain ⟨qN0, qN1, qN2, qN3⟩ := KN.out.c4
        have jN := KN.out.lt
        have hgND : ¬ gN = gD := by omega
        have hgDN : ¬ gD = gN := by omega
        have hgDX : ¬ gX = gD := by omega
        go_wp2
        go_roundw
        case rel => exact ⟨l, A5, c5, (by repeat' (first | with_reducible exact EwN.out | with_reducible refine Ex.alloc ?_ _ | with_reducible refine Ex.drew ?_ | with_reducible refine Ex.put ?_ (by omega) _)), by repeat' (first | with_reducible exact KX.out | with_reducible refine Blk.far ?_ hgDX _), Blk.put4 KD.out, HVL.out, Fr.mono (B := wr.heap.size) (by repeat' (first | with_reducible exact HF5.out | with_reducible refine Fr.alloc ?_ _ | with_reducible refine Fr.put ?_ (fun b hb => by have := WHF5.out b hb; omega) _)) (by omega), fun b hb => by have := WHF5.out b hb; omega⟩
        case measure => rw [lenAt_of KD0.out, lenAt_of (Blk.put4 KD.out)]; simp
end Go.Proofs.Ytkiohppknlmfaaa
