/- The law FnSpaceOf: the walk. -/
import Derived.Test.YtkiohppknlmfaaaSf
import Derived.Test.YtkiohppknlmfaaaTt
import Derived.Test.YtkiohppknlmfaaaTu
import Derived.Test.YtkiohppknlmfaaaTl
import Derived.Test.YtkiohppknlmfaaaTk
import Derived.Test.YtkiohppknlmfaaaTy
import Derived.Test.YtkiohppknlmfaaaTz
import Derived.Test.YtkiohppknlmfaaaTw
import Derived.Test.YtkiohppknlmfaaaTd
import Derived.Test.YtkiohppknlmfaaaTq
import Derived.Test.YtkiohppknlmfaaaTs
import Derived.Test.YtkiohppknlmfaaaTv
import Derived.Deep.RegionHeld3
namespace Go.Proofs.Ytkiohppknlmfaaa
open Go.ChangeShapes Go.WideShapes Go.ChangeAt Go.RowKit
open Rec (sz cs)
set_option linter.unusedVariables false
set_option maxRecDepth 100000

def nS (s k : Int) : Int := if s < k then 1 else 0
theorem nS_succ {s : Int} {k : Nat} (h : ¬ (k : Int) = s) : nS s ((k + 1 : Nat) : Int) = nS s k := by
  unfold nS
  by_cases h1 : s < (k : Int)
  · rw [if_pos h1, if_pos (by omega)]
  · rw [if_neg h1, if_neg (by omega)]

set_option maxHeartbeats 16000000 in
theorem walk_FnSpaceOf (A : Option Addr) (n c : Nat) (bs : List ByteD) (w : World) (hr : Rd w A bs) (hc : Bytes bs ∧ bs.length = n ∧ n ≤ c ∧ c ≤ maxLen) :
    Calls Try.prog 10 #[.slice A n c] w fun r w' => r = .returned (.bool true) ∧ Ex w w' := by
  obtain ⟨hb, rfl, hnc, hcm⟩ := hc
  by_cases hbig : 1048576 < bs.length
  · have hbig' : (1048576 : Int) < (bs.length : Int) := by omega
    unfold maxLen at hcm
    generalize bs.length = n at *
    go_enter Try.func10, Try.ntmps10
    go_wp2
    go_ret
    exact ⟨rfl, Ex.refl _⟩
  have hsm : ¬ (1048576 : Int) < (bs.length : Int) := by omega
  have C0 := Lib.hid (fun w' (h : Ex w w') => drawSpaceOf_c A c bs w' (hr.ex h) hb (by omega) hnc hcm)
  have hcm' := hcm
  unfold maxLen at hcm'
  generalize bs.length = n at *
  clear hr hb hcm
  go_enter Try.func10, Try.ntmps10
  go_wp2_with fail
  refine name_calls ?_; intro v0 hv0
  have X0 : Hid (Chg (0) (0) w v0) := Lib.hid (by rw [hv0]; repeat' (first | with_reducible exact Chg.refl _ _ _ | with_reducible refine Chg.alloc ?_ _ | with_reducible refine Chg.drew ?_ | with_reducible refine Chg.set ?_ (by omega) _))
  have t0 : w.heap.size ≤ v0.heap.size := X0.out.size
  have Ev0 : Hid (Ex w v0) := Lib.hid ((Ex.refl w).chg X0.out (by omega))
  clear hv0
  refine (C0.out _ Ev0.out).mono ?_; rintro r w0 ⟨t, tg, A0, c0, rfl, hl0, hf0, hb0⟩
  have Y0 : Hid (Chg 0 0 v0 w0) := Lib.hid (Chg.of_ex hb0)
  have s0 : v0.heap.size ≤ w0.heap.size := Y0.out.size
  have Ew0 : Hid (Ex w w0) := Lib.hid (Ev0.out.chg Y0.out (by omega))
  clear hb0
  have HF0 := Lib.hid hf0; clear hf0
  have WHF0 := Lib.hid HF0.out.row
  clear C0
  have hn : t.owns.length ≤ 1048576 := by omega
  have C1 := Lib.hid (spaceOfI_c t tg)
  have C2 := Lib.hid (spaceOfS_c t tg)
  have HTS : Hid (tagsV t = true → ∀ i, tagOf t i = (tg, true) ↔ spaceOf t tg = (i, true)) := Lib.hid (fun hv i => tag_space hv tg i)
  have HLO : Hid (∀ i, spaceOf t tg = (i, true) → tagsV t = true ∧ 0 ≤ i ∧ i < 16) := Lib.hid (fun i h => spaceOf_lo h)
  generalize spaceOf t tg = q at C1 C2 HTS HLO
  obtain ⟨sv, ok⟩ := q
  dsimp only at C1 C2
  have hx1 : (sv != sv) = false := by simp
  have hx2 : (ok != ok) = false := by simp
  have hx3 : (sv == sv) = true := by simp
  have hx4 : (ok == ok) = true := by simp
  cases hv : tagsV t
  · skip
    go_wp2_with fail
    refine name_calls ?_; intro v1 hv1
    have X1 : Hid (Chg (0) (0) w0 v1) := Lib.hid (by rw [hv1]; repeat' (first | with_reducible exact Chg.refl _ _ _ | with_reducible refine Chg.alloc ?_ _ | with_reducible refine Chg.drew ?_ | with_reducible refine Chg.set ?_ (by omega) _))
    have t1 : w0.heap.size ≤ v1.heap.size := X1.out.size
    have Ev1 : Hid (Ex w v1) := Lib.hid (Ew0.out.chg X1.out (by omega))
    replace HF0 := Lib.hid (HF0.out.chg X1.out WHF0.out (by omega))
    have KX : Hid (Blk v1 (w0.heap.size) 30 [.int .i64 t.count, .int .i64 t.next, .int .i64 t.round, .slice A0 t.owns.length c0]) := Lib.hid (by rw [hv1]; repeat' (first | with_reducible exact Blk.new_at _ _ _ (by simp) | with_reducible refine Blk.alloc ?_ _ | with_reducible refine Blk.drew ?_ | with_reducible refine Blk.far ?_ (by simp; omega) _))
    have lX : w0.heap.size < v1.heap.size := KX.out.lt
    clear hv1
    refine (C1.out A0 c0 _ HF0.out.rd hn HF0.out.le).mono ?_; rintro r w1 ⟨rfl, hb1⟩
    have Y1 : Hid (Chg 0 0 v1 w1) := Lib.hid (Chg.of_ex hb1)
    have s1 : v1.heap.size ≤ w1.heap.size := Y1.out.size
    have Ew1 : Hid (Ex w w1) := Lib.hid (Ev1.out.chg Y1.out (by omega))
    clear hb1
    replace KX : Hid (Blk w1 (w0.heap.size) 30 [.int .i64 t.count, .int .i64 t.next, .int .i64 t.round, .slice A0 t.owns.length c0]) := Lib.hid (KX.out.chg Y1.out (by omega))
    replace HF0 := Lib.hid (HF0.out.chg Y1.out WHF0.out (by omega))
    obtain ⟨qX0, qX1, qX2, qX3⟩ := KX.out.c4
    have jX := KX.out.lt
    go_wp2_with fail
    refine name_calls ?_; intro v2 hv2
    have X2 : Hid (Chg (0) (0) w1 v2) := Lib.hid (by rw [hv2]; repeat' (first | with_reducible exact Chg.refl _ _ _ | with_reducible refine Chg.alloc ?_ _ | with_reducible refine Chg.drew ?_ | with_reducible refine Chg.set ?_ (by omega) _))
    have t2 : w1.heap.size ≤ v2.heap.size := X2.out.size
    have Ev2 : Hid (Ex w v2) := Lib.hid (Ew1.out.chg X2.out (by omega))
    clear qX0 qX1 qX2 qX3 jX
    replace KX : Hid (Blk v2 (w0.heap.size) 30 [.int .i64 t.count, .int .i64 t.next, .int .i64 t.round, .slice A0 t.owns.length c0]) := Lib.hid (KX.out.chg X2.out (by omega))
    replace HF0 := Lib.hid (HF0.out.chg X2.out WHF0.out (by omega))
    clear hv2
    refine (C2.out A0 c0 _ HF0.out.rd hn HF0.out.le).mono ?_; rintro r w2 ⟨rfl, hb2⟩
    have Y2 : Hid (Chg 0 0 v2 w2) := Lib.hid (Chg.of_ex hb2)
    have s2 : v2.heap.size ≤ w2.heap.size := Y2.out.size
    have Ew2 : Hid (Ex w w2) := Lib.hid (Ev2.out.chg Y2.out (by omega))
    clear hb2
    replace KX : Hid (Blk w2 (w0.heap.size) 30 [.int .i64 t.count, .int .i64 t.next, .int .i64 t.round, .slice A0 t.owns.length c0]) := Lib.hid (KX.out.chg Y2.out (by omega))
    replace HF0 := Lib.hid (HF0.out.chg Y2.out WHF0.out (by omega))
    obtain ⟨qX0, qX1, qX2, qX3⟩ := KX.out.c4
    have jX := KX.out.lt
    go_wp2_with fail
    refine name_calls ?_; intro v3 hv3
    have X3 : Hid (Chg (0) (0) w2 v3) := Lib.hid (by rw [hv3]; repeat' (first | with_reducible exact Chg.refl _ _ _ | with_reducible refine Chg.alloc ?_ _ | with_reducible refine Chg.drew ?_ | with_reducible refine Chg.set ?_ (by omega) _))
    have t3 : w2.heap.size ≤ v3.heap.size := X3.out.size
    have Ev3 : Hid (Ex w v3) := Lib.hid (Ew2.out.chg X3.out (by omega))
    clear qX0 qX1 qX2 qX3 jX
    replace KX : Hid (Blk v3 (w0.heap.size) 30 [.int .i64 t.count, .int .i64 t.next, .int .i64 t.round, .slice A0 t.owns.length c0]) := Lib.hid (KX.out.chg X3.out (by omega))
    replace HF0 := Lib.hid (HF0.out.chg X3.out WHF0.out (by omega))
    clear hv3
    refine (tagsValidI_c t A0 c0 _ HF0.out.rd hn HF0.out.le).mono ?_; rintro r w3 ⟨rfl, hb3⟩
    have Y3 : Hid (Chg 0 0 v3 w3) := Lib.hid (Chg.of_ex hb3)
    have s3 : v3.heap.size ≤ w3.heap.size := Y3.out.size
    have Ew3 : Hid (Ex w w3) := Lib.hid (Ev3.out.chg Y3.out (by omega))
    clear hb3
    replace KX : Hid (Blk w3 (w0.heap.size) 30 [.int .i64 t.count, .int .i64 t.next, .int .i64 t.round, .slice A0 t.owns.length c0]) := Lib.hid (KX.out.chg Y3.out (by omega))
    replace HF0 := Lib.hid (HF0.out.chg Y3.out WHF0.out (by omega))
    obtain ⟨qX0, qX1, qX2, qX3⟩ := KX.out.c4
    have jX := KX.out.lt
    rw [hv]
    have FK : Hid (∀ w', Ex w3 w' → (w'.cell? ⟨w0.heap.size, 0, none⟩ = some (.int .i64 t.count) ∧ w'.cell? ⟨w0.heap.size, 1, none⟩ = some (.int .i64 t.next) ∧ w'.cell? ⟨w0.heap.size, 2, none⟩ = some (.int .i64 t.round) ∧ w'.cell? ⟨w0.heap.size, 3, none⟩ = some (.slice A0 t.owns.length c0))) := Lib.hid (fun w' h => (KX.out.ex h).c4)
    have RD1 : Hid (∀ w', Ex w3 w' → Rd w' A0 t.owns) := Lib.hid (fun w' h => HF0.out.rd.ex h)
    have hle1 := HF0.out.le
    have CV1 := Lib.hid (tagsValidI_c t A0 c0)
    have CV2 := Lib.hid (tagsValidS_c t A0 c0)
    rw [hv] at CV1 CV2
    go_wp2_with fail
    go_region_held3 (fun w' => (w'.cell? ⟨w0.heap.size, 0, none⟩ = some (.int .i64 t.count) ∧ w'.cell? ⟨w0.heap.size, 1, none⟩ = some (.int .i64 t.next) ∧ w'.cell? ⟨w0.heap.size, 2, none⟩ = some (.int .i64 t.round) ∧ w'.cell? ⟨w0.heap.size, 3, none⟩ = some (.slice A0 t.owns.length c0))) ((refine FK.out _ ?_; with_reducible (first | exact Ex.refl _ | exact (Ex.refl _).drew | exact hba | exact hba.trans hbb))) (first | (go_at_call 33; (with_reducible refine (CV1.out _ ?_ hn hle1).mono ?_); (with_reducible exact RD1.out _ (Ex.refl _).drew); rintro r wa ⟨rfl, hb⟩; have hba : Ex w3 wa := (Ex.refl _).drew.trans hb) | (go_at_call 37; (with_reducible refine (CV2.out _ ?_ hn hle1).mono ?_); (with_reducible exact RD1.out _ hba); rintro r wb ⟨rfl, hbb⟩))
    rename_i hHeld
    clear hHeld
    go_wp2
    go_ret
    exact ⟨rfl, Ew3.out.trans (hba.trans hbb)⟩
  cases ok
  · skip
    go_wp2_with fail
    refine name_calls ?_; intro v1 hv1
    have X1 : Hid (Chg (0) (0) w0 v1) := Lib.hid (by rw [hv1]; repeat' (first | with_reducible exact Chg.refl _ _ _ | with_reducible refine Chg.alloc ?_ _ | with_reducible refine Chg.drew ?_ | with_reducible refine Chg.set ?_ (by omega) _))
    have t1 : w0.heap.size ≤ v1.heap.size := X1.out.size
    have Ev1 : Hid (Ex w v1) := Lib.hid (Ew0.out.chg X1.out (by omega))
    replace HF0 := Lib.hid (HF0.out.chg X1.out WHF0.out (by omega))
    have KX : Hid (Blk v1 (w0.heap.size) 30 [.int .i64 t.count, .int .i64 t.next, .int .i64 t.round, .slice A0 t.owns.length c0]) := Lib.hid (by rw [hv1]; repeat' (first | with_reducible exact Blk.new_at _ _ _ (by simp) | with_reducible refine Blk.alloc ?_ _ | with_reducible refine Blk.drew ?_ | with_reducible refine Blk.far ?_ (by simp; omega) _))
    have lX : w0.heap.size < v1.heap.size := KX.out.lt
    clear hv1
    refine (C1.out A0 c0 _ HF0.out.rd hn HF0.out.le).mono ?_; rintro r w1 ⟨rfl, hb1⟩
    have Y1 : Hid (Chg 0 0 v1 w1) := Lib.hid (Chg.of_ex hb1)
    have s1 : v1.heap.size ≤ w1.heap.size := Y1.out.size
    have Ew1 : Hid (Ex w w1) := Lib.hid (Ev1.out.chg Y1.out (by omega))
    clear hb1
    replace KX : Hid (Blk w1 (w0.heap.size) 30 [.int .i64 t.count, .int .i64 t.next, .int .i64 t.round, .slice A0 t.owns.length c0]) := Lib.hid (KX.out.chg Y1.out (by omega))
    replace HF0 := Lib.hid (HF0.out.chg Y1.out WHF0.out (by omega))
    obtain ⟨qX0, qX1, qX2, qX3⟩ := KX.out.c4
    have jX := KX.out.lt
    go_wp2_with fail
    refine name_calls ?_; intro v2 hv2
    have X2 : Hid (Chg (0) (0) w1 v2) := Lib.hid (by rw [hv2]; repeat' (first | with_reducible exact Chg.refl _ _ _ | with_reducible refine Chg.alloc ?_ _ | with_reducible refine Chg.drew ?_ | with_reducible refine Chg.set ?_ (by omega) _))
    have t2 : w1.heap.size ≤ v2.heap.size := X2.out.size
    have Ev2 : Hid (Ex w v2) := Lib.hid (Ew1.out.chg X2.out (by omega))
    clear qX0 qX1 qX2 qX3 jX
    replace KX : Hid (Blk v2 (w0.heap.size) 30 [.int .i64 t.count, .int .i64 t.next, .int .i64 t.round, .slice A0 t.owns.length c0]) := Lib.hid (KX.out.chg X2.out (by omega))
    replace HF0 := Lib.hid (HF0.out.chg X2.out WHF0.out (by omega))
    clear hv2
    refine (C2.out A0 c0 _ HF0.out.rd hn HF0.out.le).mono ?_; rintro r w2 ⟨rfl, hb2⟩
    have Y2 : Hid (Chg 0 0 v2 w2) := Lib.hid (Chg.of_ex hb2)
    have s2 : v2.heap.size ≤ w2.heap.size := Y2.out.size
    have Ew2 : Hid (Ex w w2) := Lib.hid (Ev2.out.chg Y2.out (by omega))
    clear hb2
    replace KX : Hid (Blk w2 (w0.heap.size) 30 [.int .i64 t.count, .int .i64 t.next, .int .i64 t.round, .slice A0 t.owns.length c0]) := Lib.hid (KX.out.chg Y2.out (by omega))
    replace HF0 := Lib.hid (HF0.out.chg Y2.out WHF0.out (by omega))
    obtain ⟨qX0, qX1, qX2, qX3⟩ := KX.out.c4
    have jX := KX.out.lt
    go_wp2_with fail
    refine name_calls ?_; intro v3 hv3
    have X3 : Hid (Chg (0) (0) w2 v3) := Lib.hid (by rw [hv3]; repeat' (first | with_reducible exact Chg.refl _ _ _ | with_reducible refine Chg.alloc ?_ _ | with_reducible refine Chg.drew ?_ | with_reducible refine Chg.set ?_ (by omega) _))
    have t3 : w2.heap.size ≤ v3.heap.size := X3.out.size
    have Ev3 : Hid (Ex w v3) := Lib.hid (Ew2.out.chg X3.out (by omega))
    clear qX0 qX1 qX2 qX3 jX
    replace KX : Hid (Blk v3 (w0.heap.size) 30 [.int .i64 t.count, .int .i64 t.next, .int .i64 t.round, .slice A0 t.owns.length c0]) := Lib.hid (KX.out.chg X3.out (by omega))
    replace HF0 := Lib.hid (HF0.out.chg X3.out WHF0.out (by omega))
    clear hv3
    refine (tagsValidI_c t A0 c0 _ HF0.out.rd hn HF0.out.le).mono ?_; rintro r w3 ⟨rfl, hb3⟩
    have Y3 : Hid (Chg 0 0 v3 w3) := Lib.hid (Chg.of_ex hb3)
    have s3 : v3.heap.size ≤ w3.heap.size := Y3.out.size
    have Ew3 : Hid (Ex w w3) := Lib.hid (Ev3.out.chg Y3.out (by omega))
    clear hb3
    replace KX : Hid (Blk w3 (w0.heap.size) 30 [.int .i64 t.count, .int .i64 t.next, .int .i64 t.round, .slice A0 t.owns.length c0]) := Lib.hid (KX.out.chg Y3.out (by omega))
    replace HF0 := Lib.hid (HF0.out.chg Y3.out WHF0.out (by omega))
    obtain ⟨qX0, qX1, qX2, qX3⟩ := KX.out.c4
    have jX := KX.out.lt
    rw [hv]
    go_wp2
    go_loopw [9, 10] (fun m i wr => ∃ k : Nat, i = .int .i64 k ∧ m = .int .i64 0 ∧ k ≤ 16 ∧ Ex w3 wr) (fun _ i _ => 16 - (intOf i).toNat)
    case atStart => exact ⟨0, rfl, rfl, Nat.zero_le _, Ex.refl _⟩
    case round =>
      obtain ⟨k, rfl, rfl, hk, hbel⟩ := hrel
      have HB := Lib.hid hbel
      have hszb := HB.out.size
      have Ewr := Lib.hid (Ew3.out.trans hbel)
      clear hbel qX0 qX1 qX2 qX3 jX
      have KX := Lib.hid (KX.out.ex HB.out)
      have HF0 := Lib.hid (HF0.out.ex HB.out)
      have WHF0 := Lib.hid HF0.out.row
      obtain ⟨qX0, qX1, qX2, qX3⟩ := KX.out.c4
      have jX := KX.out.lt
      by_cases hlt : k < 16
      · have hlt' : (k : Int) < 16 := by omega
        have C5 := Lib.hid (tagOfI_c t (k : Int))
        have HQ := Lib.hid (HTS.out hv (k : Int))
        generalize tagOf t (k : Int) = q5 at C5 HQ
        obtain ⟨a5, b5⟩ := q5
        dsimp only at C5
        cases b5
        · skip
          go_wp2_with fail
          refine name_calls ?_; intro v5 hv5
          have X5 : Hid (Chg (0) (0) wr v5) := Lib.hid (by rw [hv5]; repeat' (first | with_reducible exact Chg.refl _ _ _ | with_reducible refine Chg.alloc ?_ _ | with_reducible refine Chg.drew ?_ | with_reducible refine Chg.set ?_ (by omega) _))
          have t5 : wr.heap.size ≤ v5.heap.size := X5.out.size
          have Ev5 : Hid (Ex w v5) := Lib.hid (Ewr.out.chg X5.out (by omega))
          clear qX0 qX1 qX2 qX3 jX
          replace KX : Hid (Blk v5 (w0.heap.size) 30 [.int .i64 t.count, .int .i64 t.next, .int .i64 t.round, .slice A0 t.owns.length c0]) := Lib.hid (KX.out.chg X5.out (by omega))
          replace HF0 := Lib.hid (HF0.out.chg X5.out WHF0.out (by omega))
          clear hv5
          refine (C5.out A0 c0 _ HF0.out.rd hn HF0.out.le).mono ?_; rintro r w5 ⟨rfl, hb5⟩
          have Y5 : Hid (Chg 0 0 v5 w5) := Lib.hid (Chg.of_ex hb5)
          have s5 : v5.heap.size ≤ w5.heap.size := Y5.out.size
          have Ew5 : Hid (Ex w w5) := Lib.hid (Ev5.out.chg Y5.out (by omega))
          clear hb5
          replace KX : Hid (Blk w5 (w0.heap.size) 30 [.int .i64 t.count, .int .i64 t.next, .int .i64 t.round, .slice A0 t.owns.length c0]) := Lib.hid (KX.out.chg Y5.out (by omega))
          replace HF0 := Lib.hid (HF0.out.chg Y5.out WHF0.out (by omega))
          obtain ⟨qX0, qX1, qX2, qX3⟩ := KX.out.c4
          have jX := KX.out.lt
          have HEX : Hid (Ex w3 w5) := Lib.hid (HB.out.trans (X5.out.ex_.trans Y5.out.ex_))
          go_wp2
          go_roundw
          case rel => exact ⟨k + 1, by go_num, rfl, by omega, HEX.out⟩
          case measure => simp [intOf]; omega
        · have ha5 : (a5 == tg) = false := by
            cases e : (a5 == tg)
            · rfl
            · exact absurd (HQ.out.1 (by rw [beq_iff_eq.1 e])) (by intro h; cases h)
          go_wp2_with fail
          refine name_calls ?_; intro v5 hv5
          have X5 : Hid (Chg (0) (0) wr v5) := Lib.hid (by rw [hv5]; repeat' (first | with_reducible exact Chg.refl _ _ _ | with_reducible refine Chg.alloc ?_ _ | with_reducible refine Chg.drew ?_ | with_reducible refine Chg.set ?_ (by omega) _))
          have t5 : wr.heap.size ≤ v5.heap.size := X5.out.size
          have Ev5 : Hid (Ex w v5) := Lib.hid (Ewr.out.chg X5.out (by omega))
          clear qX0 qX1 qX2 qX3 jX
          replace KX : Hid (Blk v5 (w0.heap.size) 30 [.int .i64 t.count, .int .i64 t.next, .int .i64 t.round, .slice A0 t.owns.length c0]) := Lib.hid (KX.out.chg X5.out (by omega))
          replace HF0 := Lib.hid (HF0.out.chg X5.out WHF0.out (by omega))
          clear hv5
          refine (C5.out A0 c0 _ HF0.out.rd hn HF0.out.le).mono ?_; rintro r w5 ⟨rfl, hb5⟩
          have Y5 : Hid (Chg 0 0 v5 w5) := Lib.hid (Chg.of_ex hb5)
          have s5 : v5.heap.size ≤ w5.heap.size := Y5.out.size
          have Ew5 : Hid (Ex w w5) := Lib.hid (Ev5.out.chg Y5.out (by omega))
          clear hb5
          replace KX : Hid (Blk w5 (w0.heap.size) 30 [.int .i64 t.count, .int .i64 t.next, .int .i64 t.round, .slice A0 t.owns.length c0]) := Lib.hid (KX.out.chg Y5.out (by omega))
          replace HF0 := Lib.hid (HF0.out.chg Y5.out WHF0.out (by omega))
          obtain ⟨qX0, qX1, qX2, qX3⟩ := KX.out.c4
          have jX := KX.out.lt
          have HEX : Hid (Ex w3 w5) := Lib.hid (HB.out.trans (X5.out.ex_.trans Y5.out.ex_))
          go_wp2
          go_roundw
          case rel => exact ⟨k + 1, by go_num, rfl, by omega, HEX.out⟩
          case measure => simp [intOf]; omega
  
      · obtain rfl : k = 16 := by omega
        go_wp2
        go_ret
        exact ⟨rfl, (by repeat' (first | with_reducible exact Ewr.out | with_reducible refine Ex.alloc ?_ _ | with_reducible refine Ex.drew ?_ | with_reducible refine Ex.put ?_ (by omega) _))⟩
  obtain ⟨-, hs0, hs16⟩ := HLO.out sv rfl
  go_wp2_with fail
  refine name_calls ?_; intro v1 hv1
  have X1 : Hid (Chg (0) (0) w0 v1) := Lib.hid (by rw [hv1]; repeat' (first | with_reducible exact Chg.refl _ _ _ | with_reducible refine Chg.alloc ?_ _ | with_reducible refine Chg.drew ?_ | with_reducible refine Chg.set ?_ (by omega) _))
  have t1 : w0.heap.size ≤ v1.heap.size := X1.out.size
  have Ev1 : Hid (Ex w v1) := Lib.hid (Ew0.out.chg X1.out (by omega))
  replace HF0 := Lib.hid (HF0.out.chg X1.out WHF0.out (by omega))
  have KX : Hid (Blk v1 (w0.heap.size) 30 [.int .i64 t.count, .int .i64 t.next, .int .i64 t.round, .slice A0 t.owns.length c0]) := Lib.hid (by rw [hv1]; repeat' (first | with_reducible exact Blk.new_at _ _ _ (by simp) | with_reducible refine Blk.alloc ?_ _ | with_reducible refine Blk.drew ?_ | with_reducible refine Blk.far ?_ (by simp; omega) _))
  have lX : w0.heap.size < v1.heap.size := KX.out.lt
  clear hv1
  refine (C1.out A0 c0 _ HF0.out.rd hn HF0.out.le).mono ?_; rintro r w1 ⟨rfl, hb1⟩
  have Y1 : Hid (Chg 0 0 v1 w1) := Lib.hid (Chg.of_ex hb1)
  have s1 : v1.heap.size ≤ w1.heap.size := Y1.out.size
  have Ew1 : Hid (Ex w w1) := Lib.hid (Ev1.out.chg Y1.out (by omega))
  clear hb1
  replace KX : Hid (Blk w1 (w0.heap.size) 30 [.int .i64 t.count, .int .i64 t.next, .int .i64 t.round, .slice A0 t.owns.length c0]) := Lib.hid (KX.out.chg Y1.out (by omega))
  replace HF0 := Lib.hid (HF0.out.chg Y1.out WHF0.out (by omega))
  obtain ⟨qX0, qX1, qX2, qX3⟩ := KX.out.c4
  have jX := KX.out.lt
  go_wp2_with fail
  refine name_calls ?_; intro v2 hv2
  have X2 : Hid (Chg (0) (0) w1 v2) := Lib.hid (by rw [hv2]; repeat' (first | with_reducible exact Chg.refl _ _ _ | with_reducible refine Chg.alloc ?_ _ | with_reducible refine Chg.drew ?_ | with_reducible refine Chg.set ?_ (by omega) _))
  have t2 : w1.heap.size ≤ v2.heap.size := X2.out.size
  have Ev2 : Hid (Ex w v2) := Lib.hid (Ew1.out.chg X2.out (by omega))
  clear qX0 qX1 qX2 qX3 jX
  replace KX : Hid (Blk v2 (w0.heap.size) 30 [.int .i64 t.count, .int .i64 t.next, .int .i64 t.round, .slice A0 t.owns.length c0]) := Lib.hid (KX.out.chg X2.out (by omega))
  replace HF0 := Lib.hid (HF0.out.chg X2.out WHF0.out (by omega))
  clear hv2
  refine (C2.out A0 c0 _ HF0.out.rd hn HF0.out.le).mono ?_; rintro r w2 ⟨rfl, hb2⟩
  have Y2 : Hid (Chg 0 0 v2 w2) := Lib.hid (Chg.of_ex hb2)
  have s2 : v2.heap.size ≤ w2.heap.size := Y2.out.size
  have Ew2 : Hid (Ex w w2) := Lib.hid (Ev2.out.chg Y2.out (by omega))
  clear hb2
  replace KX : Hid (Blk w2 (w0.heap.size) 30 [.int .i64 t.count, .int .i64 t.next, .int .i64 t.round, .slice A0 t.owns.length c0]) := Lib.hid (KX.out.chg Y2.out (by omega))
  replace HF0 := Lib.hid (HF0.out.chg Y2.out WHF0.out (by omega))
  obtain ⟨qX0, qX1, qX2, qX3⟩ := KX.out.c4
  have jX := KX.out.lt
  go_wp2_with fail
  refine name_calls ?_; intro v3 hv3
  have X3 : Hid (Chg (0) (0) w2 v3) := Lib.hid (by rw [hv3]; repeat' (first | with_reducible exact Chg.refl _ _ _ | with_reducible refine Chg.alloc ?_ _ | with_reducible refine Chg.drew ?_ | with_reducible refine Chg.set ?_ (by omega) _))
  have t3 : w2.heap.size ≤ v3.heap.size := X3.out.size
  have Ev3 : Hid (Ex w v3) := Lib.hid (Ew2.out.chg X3.out (by omega))
  clear qX0 qX1 qX2 qX3 jX
  replace KX : Hid (Blk v3 (w0.heap.size) 30 [.int .i64 t.count, .int .i64 t.next, .int .i64 t.round, .slice A0 t.owns.length c0]) := Lib.hid (KX.out.chg X3.out (by omega))
  replace HF0 := Lib.hid (HF0.out.chg X3.out WHF0.out (by omega))
  clear hv3
  refine (tagsValidI_c t A0 c0 _ HF0.out.rd hn HF0.out.le).mono ?_; rintro r w3 ⟨rfl, hb3⟩
  have Y3 : Hid (Chg 0 0 v3 w3) := Lib.hid (Chg.of_ex hb3)
  have s3 : v3.heap.size ≤ w3.heap.size := Y3.out.size
  have Ew3 : Hid (Ex w w3) := Lib.hid (Ev3.out.chg Y3.out (by omega))
  clear hb3
  replace KX : Hid (Blk w3 (w0.heap.size) 30 [.int .i64 t.count, .int .i64 t.next, .int .i64 t.round, .slice A0 t.owns.length c0]) := Lib.hid (KX.out.chg Y3.out (by omega))
  replace HF0 := Lib.hid (HF0.out.chg Y3.out WHF0.out (by omega))
  obtain ⟨qX0, qX1, qX2, qX3⟩ := KX.out.c4
  have jX := KX.out.lt
  rw [hv]
  go_wp2
  go_loopw [9, 10] (fun m i wr => ∃ k : Nat, i = .int .i64 k ∧ m = .int .i64 (nS sv (k : Int)) ∧ k ≤ 16 ∧ Ex w3 wr) (fun _ i _ => 16 - (intOf i).toNat)
  case atStart => exact ⟨0, rfl, by rw [show nS sv ((0 : Nat) : Int) = 0 from if_neg (by omega)], Nat.zero_le _, Ex.refl _⟩
  case round =>
    obtain ⟨k, rfl, rfl, hk, hbel⟩ := hrel
    have HB := Lib.hid hbel
    have hszb := HB.out.size
    have Ewr := Lib.hid (Ew3.out.trans hbel)
    clear hbel qX0 qX1 qX2 qX3 jX
    have KX := Lib.hid (KX.out.ex HB.out)
    have HF0 := Lib.hid (HF0.out.ex HB.out)
    have WHF0 := Lib.hid HF0.out.row
    obtain ⟨qX0, qX1, qX2, qX3⟩ := KX.out.c4
    have jX := KX.out.lt
    by_cases hlt : k < 16
    · have hlt' : (k : Int) < 16 := by omega
      have C5 := Lib.hid (tagOfI_c t (k : Int))
      have HQ := Lib.hid (HTS.out hv (k : Int))
      generalize tagOf t (k : Int) = q5 at C5 HQ
      obtain ⟨a5, b5⟩ := q5
      dsimp only at C5
      by_cases hks : (k : Int) = sv
      · have e := HQ.out.2 (by rw [hks])
        injection e with e1 e2
        subst e1 e2
        have ha5 : (a5 == a5) = true := by simp
        have hsk : (sv != (k : Int)) = false := by simp [hks]
        have hv0 : nS sv k = 0 := if_neg (by omega)
        have HV1 : Hid (nS sv ((k + 1 : Nat) : Int) = 1) := Lib.hid (if_pos (by omega))
        rw [hv0]
        clear hks hv0
        go_wp2_with fail
        refine name_calls ?_; intro v5 hv5
        have X5 : Hid (Chg (0) (0) wr v5) := Lib.hid (by rw [hv5]; repeat' (first | with_reducible exact Chg.refl _ _ _ | with_reducible refine Chg.alloc ?_ _ | with_reducible refine Chg.drew ?_ | with_reducible refine Chg.set ?_ (by omega) _))
        have t5 : wr.heap.size ≤ v5.heap.size := X5.out.size
        have Ev5 : Hid (Ex w v5) := Lib.hid (Ewr.out.chg X5.out (by omega))
        clear qX0 qX1 qX2 qX3 jX
        replace KX : Hid (Blk v5 (w0.heap.size) 30 [.int .i64 t.count, .int .i64 t.next, .int .i64 t.round, .slice A0 t.owns.length c0]) := Lib.hid (KX.out.chg X5.out (by omega))
        replace HF0 := Lib.hid (HF0.out.chg X5.out WHF0.out (by omega))
        clear hv5
        refine (C5.out A0 c0 _ HF0.out.rd hn HF0.out.le).mono ?_; rintro r w5 ⟨rfl, hb5⟩
        have Y5 : Hid (Chg 0 0 v5 w5) := Lib.hid (Chg.of_ex hb5)
        have s5 : v5.heap.size ≤ w5.heap.size := Y5.out.size
        have Ew5 : Hid (Ex w w5) := Lib.hid (Ev5.out.chg Y5.out (by omega))
        clear hb5
        replace KX : Hid (Blk w5 (w0.heap.size) 30 [.int .i64 t.count, .int .i64 t.next, .int .i64 t.round, .slice A0 t.owns.length c0]) := Lib.hid (KX.out.chg Y5.out (by omega))
        replace HF0 := Lib.hid (HF0.out.chg Y5.out WHF0.out (by omega))
        obtain ⟨qX0, qX1, qX2, qX3⟩ := KX.out.c4
        have jX := KX.out.lt
        have HEX : Hid (Ex w3 w5) := Lib.hid (HB.out.trans (X5.out.ex_.trans Y5.out.ex_))
        go_wp2
        go_roundw
        case rel => exact ⟨k + 1, by go_num, by rw [HV1.out], by omega, HEX.out⟩
        case measure => simp [intOf]; omega
      have HVK : Hid (nS sv ((k + 1 : Nat) : Int) = nS sv k) := Lib.hid (nS_succ hks)
      have hne : ¬ (a5 = tg ∧ b5 = true) := fun h => hks (by have := HQ.out.1 (by rw [h.1, h.2]); injection this with this; exact this.symm)
      clear hks
      generalize nS sv (k : Int) = nv at HVK
      cases b5
      · skip
        go_wp2_with fail
        refine name_calls ?_; intro v5 hv5
        have X5 : Hid (Chg (0) (0) wr v5) := Lib.hid (by rw [hv5]; repeat' (first | with_reducible exact Chg.refl _ _ _ | with_reducible refine Chg.alloc ?_ _ | with_reducible refine Chg.drew ?_ | with_reducible refine Chg.set ?_ (by omega) _))
        have t5 : wr.heap.size ≤ v5.heap.size := X5.out.size
        have Ev5 : Hid (Ex w v5) := Lib.hid (Ewr.out.chg X5.out (by omega))
        clear qX0 qX1 qX2 qX3 jX
        replace KX : Hid (Blk v5 (w0.heap.size) 30 [.int .i64 t.count, .int .i64 t.next, .int .i64 t.round, .slice A0 t.owns.length c0]) := Lib.hid (KX.out.chg X5.out (by omega))
        replace HF0 := Lib.hid (HF0.out.chg X5.out WHF0.out (by omega))
        clear hv5
        refine (C5.out A0 c0 _ HF0.out.rd hn HF0.out.le).mono ?_; rintro r w5 ⟨rfl, hb5⟩
        have Y5 : Hid (Chg 0 0 v5 w5) := Lib.hid (Chg.of_ex hb5)
        have s5 : v5.heap.size ≤ w5.heap.size := Y5.out.size
        have Ew5 : Hid (Ex w w5) := Lib.hid (Ev5.out.chg Y5.out (by omega))
        clear hb5
        replace KX : Hid (Blk w5 (w0.heap.size) 30 [.int .i64 t.count, .int .i64 t.next, .int .i64 t.round, .slice A0 t.owns.length c0]) := Lib.hid (KX.out.chg Y5.out (by omega))
        replace HF0 := Lib.hid (HF0.out.chg Y5.out WHF0.out (by omega))
        obtain ⟨qX0, qX1, qX2, qX3⟩ := KX.out.c4
        have jX := KX.out.lt
        have HEX : Hid (Ex w3 w5) := Lib.hid (HB.out.trans (X5.out.ex_.trans Y5.out.ex_))
        go_wp2
        go_roundw
        case rel => exact ⟨k + 1, by go_num, by rw [HVK.out], by omega, HEX.out⟩
        case measure => simp [intOf]; omega
      · have ha5 : (a5 == tg) = false := by
          cases e : (a5 == tg)
          · rfl
          · exact absurd (HQ.out.1 (by rw [beq_iff_eq.1 e])) (fun h => hne ⟨beq_iff_eq.1 e, rfl⟩)
        go_wp2_with fail
        refine name_calls ?_; intro v5 hv5
        have X5 : Hid (Chg (0) (0) wr v5) := Lib.hid (by rw [hv5]; repeat' (first | with_reducible exact Chg.refl _ _ _ | with_reducible refine Chg.alloc ?_ _ | with_reducible refine Chg.drew ?_ | with_reducible refine Chg.set ?_ (by omega) _))
        have t5 : wr.heap.size ≤ v5.heap.size := X5.out.size
        have Ev5 : Hid (Ex w v5) := Lib.hid (Ewr.out.chg X5.out (by omega))
        clear qX0 qX1 qX2 qX3 jX
        replace KX : Hid (Blk v5 (w0.heap.size) 30 [.int .i64 t.count, .int .i64 t.next, .int .i64 t.round, .slice A0 t.owns.length c0]) := Lib.hid (KX.out.chg X5.out (by omega))
        replace HF0 := Lib.hid (HF0.out.chg X5.out WHF0.out (by omega))
        clear hv5
        refine (C5.out A0 c0 _ HF0.out.rd hn HF0.out.le).mono ?_; rintro r w5 ⟨rfl, hb5⟩
        have Y5 : Hid (Chg 0 0 v5 w5) := Lib.hid (Chg.of_ex hb5)
        have s5 : v5.heap.size ≤ w5.heap.size := Y5.out.size
        have Ew5 : Hid (Ex w w5) := Lib.hid (Ev5.out.chg Y5.out (by omega))
        clear hb5
        replace KX : Hid (Blk w5 (w0.heap.size) 30 [.int .i64 t.count, .int .i64 t.next, .int .i64 t.round, .slice A0 t.owns.length c0]) := Lib.hid (KX.out.chg Y5.out (by omega))
        replace HF0 := Lib.hid (HF0.out.chg Y5.out WHF0.out (by omega))
        obtain ⟨qX0, qX1, qX2, qX3⟩ := KX.out.c4
        have jX := KX.out.lt
        have HEX : Hid (Ex w3 w5) := Lib.hid (HB.out.trans (X5.out.ex_.trans Y5.out.ex_))
        go_wp2
        go_roundw
        case rel => exact ⟨k + 1, by go_num, by rw [HVK.out], by omega, HEX.out⟩
        case measure => simp [intOf]; omega

    · obtain rfl : k = 16 := by omega
      have hn1 : nS sv ((16 : Nat) : Int) = 1 := if_pos (by omega)
      rw [hn1]
      go_wp2
      go_ret
      exact ⟨rfl, (by repeat' (first | with_reducible exact Ewr.out | with_reducible refine Ex.alloc ?_ _ | with_reducible refine Ex.drew ?_ | with_reducible refine Ex.put ?_ (by omega) _))⟩
end Go.Proofs.Ytkiohppknlmfaaa
