/- The law FnOwnOrder: the walk. -/
import Derived.Test.YtkiohppknlmfaaaSf
import Derived.Test.YtkiohppknlmfaaaTt
import Derived.Test.YtkiohppknlmfaaaTu
import Derived.Test.YtkiohppknlmfaaaTl
import Derived.Test.YtkiohppknlmfaaaTk
import Derived.Test.YtkiohppknlmfaaaTy
import Derived.Test.YtkiohppknlmfaaaTz
import Derived.Test.YtkiohppknlmfaaaTw
import Derived.Test.YtkiohppknlmfaaaTd
import Derived.Test.YtkiohppknlmfaaaTq
import Derived.Test.YtkiohppknlmfaaaTs
import Derived.Test.YtkiohppknlmfaaaTv
import Derived.Deep.RegionHeld3
namespace Go.Proofs.Ytkiohppknlmfaaa
open Go.ChangeShapes Go.WideShapes Go.ChangeAt Go.RowKit
open Rec (sz cs)
set_option linter.unusedVariables false
set_option maxRecDepth 100000

set_option maxHeartbeats 16000000 in
theorem walk_FnOwnOrder (A : Option Addr) (n c : Nat) (bs : List ByteD) (w : World) (hr : Rd w A bs) (hc : Bytes bs ∧ bs.length = n ∧ n ≤ c ∧ c ≤ maxLen) :
    Calls Try.prog 8 #[.slice A n c] w fun r w' => r = .returned (.bool true) ∧ Ex w w' := by
  obtain ⟨hb, rfl, hnc, hcm⟩ := hc
  by_cases hbig : 1048576 < bs.length
  · have hbig' : (1048576 : Int) < (bs.length : Int) := by omega
    unfold maxLen at hcm
    generalize bs.length = n at *
    go_enter Try.func8, Try.ntmps8
    go_wp2
    go_ret
    exact ⟨rfl, Ex.refl _⟩
  have hsm : ¬ (1048576 : Int) < (bs.length : Int) := by omega
  have C0 := Lib.hid (fun w' (h : Ex w w') => drawSpaceOf_c A c bs w' (hr.ex h) hb (by omega) hnc hcm)
  have hcm' := hcm
  unfold maxLen at hcm'
  generalize bs.length = n at *
  clear hr hb hcm
  go_enter Try.func8, Try.ntmps8
  go_wp2_with fail
  refine name_calls ?_; intro v0 hv0
  have X0 : Hid (Chg (0) (0) w v0) := Lib.hid (by rw [hv0]; repeat' (first | with_reducible exact Chg.refl _ _ _ | with_reducible refine Chg.alloc ?_ _ | with_reducible refine Chg.drew ?_ | with_reducible refine Chg.set ?_ (by omega) _))
  have t0 : w.heap.size ≤ v0.heap.size := X0.out.size
  have Ev0 : Hid (Ex w v0) := Lib.hid ((Ex.refl w).chg X0.out (by omega))
  clear hv0
  refine (C0.out _ Ev0.out).mono ?_; rintro r w0 ⟨t, tg, A0, c0, rfl, hl0, hf0, hb0⟩
  have Y0 : Hid (Chg 0 0 v0 w0) := Lib.hid (Chg.of_ex hb0)
  have s0 : v0.heap.size ≤ w0.heap.size := Y0.out.size
  have Ew0 : Hid (Ex w w0) := Lib.hid (Ev0.out.chg Y0.out (by omega))
  clear hb0
  have HF0 := Lib.hid hf0; clear hf0
  have WHF0 := Lib.hid HF0.out.row
  clear C0
  have hn : t.owns.length ≤ 1048576 := by omega
  have C1 := Lib.hid (spaceOfI_c t tg)
  have C2 := Lib.hid (spaceOfS_c t tg)
  have HTSx : Hid (tagsV t = true → ∀ i, tagOf t i = (tg, true) ↔ spaceOf t tg = (i, true)) := Lib.hid (fun hv i => tag_space hv tg i)
  have HLO : Hid (∀ i, spaceOf t tg = (i, true) → tagsV t = true ∧ 0 ≤ i ∧ i < 16) := Lib.hid (fun i h => spaceOf_lo h)
  generalize spaceOf t tg = q at C1 C2 HTSx HLO
  obtain ⟨sv, ok⟩ := q
  dsimp only at C1 C2
  have hx1 : (sv != sv) = false := by simp
  have hx2 : (ok != ok) = false := by simp
  have hx3 : (sv == sv) = true := by simp
  have hx4 : (ok == ok) = true := by simp
  clear HTSx HLO
  cases hv : tagsV t
  · skip
    go_wp2_with fail
    refine name_calls ?_; intro v1 hv1
    have X1 : Hid (Chg (0) (0) w0 v1) := Lib.hid (by rw [hv1]; repeat' (first | with_reducible exact Chg.refl _ _ _ | with_reducible refine Chg.alloc ?_ _ | with_reducible refine Chg.drew ?_ | with_reducible refine Chg.set ?_ (by omega) _))
    have t1 : w0.heap.size ≤ v1.heap.size := X1.out.size
    have Ev1 : Hid (Ex w v1) := Lib.hid (Ew0.out.chg X1.out (by omega))
    replace HF0 := Lib.hid (HF0.out.chg X1.out WHF0.out (by omega))
    have KX : Hid (Blk v1 (w0.heap.size) 30 [.int .i64 t.count, .int .i64 t.next, .int .i64 t.round, .slice A0 t.owns.length c0]) := Lib.hid (by rw [hv1]; repeat' (first | with_reducible exact Blk.new_at _ _ _ (by simp) | with_reducible refine Blk.alloc ?_ _ | with_reducible refine Blk.drew ?_ | with_reducible refine Blk.far ?_ (by simp; omega) _))
    have lX : w0.heap.size < v1.heap.size := KX.out.lt
    clear hv1
    refine (C1.out A0 c0 _ HF0.out.rd hn HF0.out.le).mono ?_; rintro r w1 ⟨rfl, hb1⟩
    have Y1 : Hid (Chg 0 0 v1 w1) := Lib.hid (Chg.of_ex hb1)
    have s1 : v1.heap.size ≤ w1.heap.size := Y1.out.size
    have Ew1 : Hid (Ex w w1) := Lib.hid (Ev1.out.chg Y1.out (by omega))
    clear hb1
    replace KX : Hid (Blk w1 (w0.heap.size) 30 [.int .i64 t.count, .int .i64 t.next, .int .i64 t.round, .slice A0 t.owns.length c0]) := Lib.hid (KX.out.chg Y1.out (by omega))
    replace HF0 := Lib.hid (HF0.out.chg Y1.out WHF0.out (by omega))
    obtain ⟨qX0, qX1, qX2, qX3⟩ := KX.out.c4
    have jX := KX.out.lt
    go_wp2_with fail
    refine name_calls ?_; intro v2 hv2
    have X2 : Hid (Chg (0) (0) w1 v2) := Lib.hid (by rw [hv2]; repeat' (first | with_reducible exact Chg.refl _ _ _ | with_reducible refine Chg.alloc ?_ _ | with_reducible refine Chg.drew ?_ | with_reducible refine Chg.set ?_ (by omega) _))
    have t2 : w1.heap.size ≤ v2.heap.size := X2.out.size
    have Ev2 : Hid (Ex w v2) := Lib.hid (Ew1.out.chg X2.out (by omega))
    clear qX0 qX1 qX2 qX3 jX
    replace KX : Hid (Blk v2 (w0.heap.size) 30 [.int .i64 t.count, .int .i64 t.next, .int .i64 t.round, .slice A0 t.owns.length c0]) := Lib.hid (KX.out.chg X2.out (by omega))
    replace HF0 := Lib.hid (HF0.out.chg X2.out WHF0.out (by omega))
    clear hv2
    refine (C2.out A0 c0 _ HF0.out.rd hn HF0.out.le).mono ?_; rintro r w2 ⟨rfl, hb2⟩
    have Y2 : Hid (Chg 0 0 v2 w2) := Lib.hid (Chg.of_ex hb2)
    have s2 : v2.heap.size ≤ w2.heap.size := Y2.out.size
    have Ew2 : Hid (Ex w w2) := Lib.hid (Ev2.out.chg Y2.out (by omega))
    clear hb2
    replace KX : Hid (Blk w2 (w0.heap.size) 30 [.int .i64 t.count, .int .i64 t.next, .int .i64 t.round, .slice A0 t.owns.length c0]) := Lib.hid (KX.out.chg Y2.out (by omega))
    replace HF0 := Lib.hid (HF0.out.chg Y2.out WHF0.out (by omega))
    obtain ⟨qX0, qX1, qX2, qX3⟩ := KX.out.c4
    have jX := KX.out.lt
    go_wp2_with fail
    refine name_calls ?_; intro v3 hv3
    have X3 : Hid (Chg (0) (0) w2 v3) := Lib.hid (by rw [hv3]; repeat' (first | with_reducible exact Chg.refl _ _ _ | with_reducible refine Chg.alloc ?_ _ | with_reducible refine Chg.drew ?_ | with_reducible refine Chg.set ?_ (by omega) _))
    have t3 : w2.heap.size ≤ v3.heap.size := X3.out.size
    have Ev3 : Hid (Ex w v3) := Lib.hid (Ew2.out.chg X3.out (by omega))
    clear qX0 qX1 qX2 qX3 jX
    replace KX : Hid (Blk v3 (w0.heap.size) 30 [.int .i64 t.count, .int .i64 t.next, .int .i64 t.round, .slice A0 t.owns.length c0]) := Lib.hid (KX.out.chg X3.out (by omega))
    replace HF0 := Lib.hid (HF0.out.chg X3.out WHF0.out (by omega))
    clear hv3
    refine (tagsValidI_c t A0 c0 _ HF0.out.rd hn HF0.out.le).mono ?_; rintro r w3 ⟨rfl, hb3⟩
    have Y3 : Hid (Chg 0 0 v3 w3) := Lib.hid (Chg.of_ex hb3)
    have s3 : v3.heap.size ≤ w3.heap.size := Y3.out.size
    have Ew3 : Hid (Ex w w3) := Lib.hid (Ev3.out.chg Y3.out (by omega))
    clear hb3
    replace KX : Hid (Blk w3 (w0.heap.size) 30 [.int .i64 t.count, .int .i64 t.next, .int .i64 t.round, .slice A0 t.owns.length c0]) := Lib.hid (KX.out.chg Y3.out (by omega))
    replace HF0 := Lib.hid (HF0.out.chg Y3.out WHF0.out (by omega))
    obtain ⟨qX0, qX1, qX2, qX3⟩ := KX.out.c4
    have jX := KX.out.lt
    rw [hv]
    go_wp2
    go_ret
    exact ⟨rfl, (by repeat' (first | with_reducible exact Ew3.out | with_reducible refine Ex.alloc ?_ _ | with_reducible refine Ex.drew ?_ | with_reducible refine Ex.put ?_ (by omega) _))⟩
  go_wp2_with fail
  refine name_calls ?_; intro v1 hv1
  have X1 : Hid (Chg (0) (0) w0 v1) := Lib.hid (by rw [hv1]; repeat' (first | with_reducible exact Chg.refl _ _ _ | with_reducible refine Chg.alloc ?_ _ | with_reducible refine Chg.drew ?_ | with_reducible refine Chg.set ?_ (by omega) _))
  have t1 : w0.heap.size ≤ v1.heap.size := X1.out.size
  have Ev1 : Hid (Ex w v1) := Lib.hid (Ew0.out.chg X1.out (by omega))
  replace HF0 := Lib.hid (HF0.out.chg X1.out WHF0.out (by omega))
  have KX : Hid (Blk v1 (w0.heap.size) 30 [.int .i64 t.count, .int .i64 t.next, .int .i64 t.round, .slice A0 t.owns.length c0]) := Lib.hid (by rw [hv1]; repeat' (first | with_reducible exact Blk.new_at _ _ _ (by simp) | with_reducible refine Blk.alloc ?_ _ | with_reducible refine Blk.drew ?_ | with_reducible refine Blk.far ?_ (by simp; omega) _))
  have lX : w0.heap.size < v1.heap.size := KX.out.lt
  clear hv1
  refine (C1.out A0 c0 _ HF0.out.rd hn HF0.out.le).mono ?_; rintro r w1 ⟨rfl, hb1⟩
  have Y1 : Hid (Chg 0 0 v1 w1) := Lib.hid (Chg.of_ex hb1)
  have s1 : v1.heap.size ≤ w1.heap.size := Y1.out.size
  have Ew1 : Hid (Ex w w1) := Lib.hid (Ev1.out.chg Y1.out (by omega))
  clear hb1
  replace KX : Hid (Blk w1 (w0.heap.size) 30 [.int .i64 t.count, .int .i64 t.next, .int .i64 t.round, .slice A0 t.owns.length c0]) := Lib.hid (KX.out.chg Y1.out (by omega))
  replace HF0 := Lib.hid (HF0.out.chg Y1.out WHF0.out (by omega))
  obtain ⟨qX0, qX1, qX2, qX3⟩ := KX.out.c4
  have jX := KX.out.lt
  go_wp2_with fail
  refine name_calls ?_; intro v2 hv2
  have X2 : Hid (Chg (0) (0) w1 v2) := Lib.hid (by rw [hv2]; repeat' (first | with_reducible exact Chg.refl _ _ _ | with_reducible refine Chg.alloc ?_ _ | with_reducible refine Chg.drew ?_ | with_reducible refine Chg.set ?_ (by omega) _))
  have t2 : w1.heap.size ≤ v2.heap.size := X2.out.size
  have Ev2 : Hid (Ex w v2) := Lib.hid (Ew1.out.chg X2.out (by omega))
  clear qX0 qX1 qX2 qX3 jX
  replace KX : Hid (Blk v2 (w0.heap.size) 30 [.int .i64 t.count, .int .i64 t.next, .int .i64 t.round, .slice A0 t.owns.length c0]) := Lib.hid (KX.out.chg X2.out (by omega))
  replace HF0 := Lib.hid (HF0.out.chg X2.out WHF0.out (by omega))
  clear hv2
  refine (C2.out A0 c0 _ HF0.out.rd hn HF0.out.le).mono ?_; rintro r w2 ⟨rfl, hb2⟩
  have Y2 : Hid (Chg 0 0 v2 w2) := Lib.hid (Chg.of_ex hb2)
  have s2 : v2.heap.size ≤ w2.heap.size := Y2.out.size
  have Ew2 : Hid (Ex w w2) := Lib.hid (Ev2.out.chg Y2.out (by omega))
  clear hb2
  replace KX : Hid (Blk w2 (w0.heap.size) 30 [.int .i64 t.count, .int .i64 t.next, .int .i64 t.round, .slice A0 t.owns.length c0]) := Lib.hid (KX.out.chg Y2.out (by omega))
  replace HF0 := Lib.hid (HF0.out.chg Y2.out WHF0.out (by omega))
  obtain ⟨qX0, qX1, qX2, qX3⟩ := KX.out.c4
  have jX := KX.out.lt
  go_wp2_with fail
  refine name_calls ?_; intro v3 hv3
  have X3 : Hid (Chg (0) (0) w2 v3) := Lib.hid (by rw [hv3]; repeat' (first | with_reducible exact Chg.refl _ _ _ | with_reducible refine Chg.alloc ?_ _ | with_reducible refine Chg.drew ?_ | with_reducible refine Chg.set ?_ (by omega) _))
  have t3 : w2.heap.size ≤ v3.heap.size := X3.out.size
  have Ev3 : Hid (Ex w v3) := Lib.hid (Ew2.out.chg X3.out (by omega))
  clear qX0 qX1 qX2 qX3 jX
  replace KX : Hid (Blk v3 (w0.heap.size) 30 [.int .i64 t.count, .int .i64 t.next, .int .i64 t.round, .slice A0 t.owns.length c0]) := Lib.hid (KX.out.chg X3.out (by omega))
  replace HF0 := Lib.hid (HF0.out.chg X3.out WHF0.out (by omega))
  clear hv3
  refine (tagsValidI_c t A0 c0 _ HF0.out.rd hn HF0.out.le).mono ?_; rintro r w3 ⟨rfl, hb3⟩
  have Y3 : Hid (Chg 0 0 v3 w3) := Lib.hid (Chg.of_ex hb3)
  have s3 : v3.heap.size ≤ w3.heap.size := Y3.out.size
  have Ew3 : Hid (Ex w w3) := Lib.hid (Ev3.out.chg Y3.out (by omega))
  clear hb3
  replace KX : Hid (Blk w3 (w0.heap.size) 30 [.int .i64 t.count, .int .i64 t.next, .int .i64 t.round, .slice A0 t.owns.length c0]) := Lib.hid (KX.out.chg Y3.out (by omega))
  replace HF0 := Lib.hid (HF0.out.chg Y3.out WHF0.out (by omega))
  obtain ⟨qX0, qX1, qX2, qX3⟩ := KX.out.c4
  have jX := KX.out.lt
  rw [hv]
  obtain ⟨nO, hnO⟩ : ∃ nO, nO = t.owns.length := ⟨_, rfl⟩
  have HNO := Lib.hid hnO
  have HLT : Hid (∀ (i j : Nat) (x y : OwnD), t.owns[i]? = some x → t.owns[j]? = some y → j < i → y.tag < x.tag) := Lib.hid (fun i j x y hx hy h => (tv_lt hv hx hy h).1)
  have HSP : Hid (∀ (i : Nat) (x : OwnD), t.owns[i]? = some x → spaceOf t x.tag = (x.space, true)) := Lib.hid (fun i x hx => spaceOf_of hv hx)
  have hf8 := (tv_few hv).2
  clear hv hx1 hx2 hx3 hx4 hnO
  go_wp2
  go_loopw [9] (fun i wr => ∃ k : Nat, i = .int .i64 k ∧ k ≤ t.owns.length ∧ Ex w3 wr) (fun i _ => t.owns.length - (intOf i).toNat)
  case atStart => exact ⟨0, rfl, Nat.zero_le _, Ex.refl _⟩
  case round =>
    obtain ⟨k, rfl, hk, hbel⟩ := hrel
    have HB := Lib.hid hbel
    have hszb := HB.out.size
    have Ewr := Lib.hid (Ew3.out.trans hbel)
    clear hbel qX0 qX1 qX2 qX3 jX
    have KX := Lib.hid (KX.out.ex HB.out)
    have HF0 := Lib.hid (HF0.out.ex HB.out)
    have WHF0 := Lib.hid HF0.out.row
    obtain ⟨qX0, qX1, qX2, qX3⟩ := KX.out.c4
    have jX := KX.out.lt
    by_cases hlt : k < t.owns.length
    · have hlt' : (k : Int) < (t.owns.length : Int) := by omega
      have hk0 : (0 : Int) ≤ (k : Int) := by omega
      obtain ⟨b1, o1, x, hA, hb1, hxk, h0, h1⟩ := Rd.own HF0.out.rd (k := k) hlt
      subst hA
      have C5 := spaceOfI_c t x.tag
      rw [HSP.out k x hxk] at C5
      replace C5 := Lib.hid C5
      have HXK := Lib.hid hxk
      have HB1 := Lib.hid hb1
      have HE0 := Lib.hid h0
      have HE1 := Lib.hid h1
      clear hxk h0 h1
      have FK : Hid (∀ w', Ex wr w' → (w'.cell? ⟨w0.heap.size, 0, none⟩ = some (.int .i64 t.count) ∧ w'.cell? ⟨w0.heap.size, 1, none⟩ = some (.int .i64 t.next) ∧ w'.cell? ⟨w0.heap.size, 2, none⟩ = some (.int .i64 t.round) ∧ w'.cell? ⟨w0.heap.size, 3, none⟩ = some (.slice (some ⟨b1, o1, none⟩) t.owns.length c0) ∧ w'.cell? ⟨b1, o1 + k * 2 + 1, none⟩ = some (.int .i64 x.tag))) := Lib.hid (fun w' h => by
        obtain ⟨a0, a1, a2, a3⟩ := (KX.out.ex h).c4
        exact ⟨a0, a1, a2, a3, (h.cell HB1.out).trans HE1.out⟩)
      have RD1 : Hid (∀ w', Ex wr w' → Rd w' (some ⟨b1, o1, none⟩) t.owns) := Lib.hid (fun w' h => HF0.out.rd.ex h)
      have hle1 := HF0.out.le
      go_wp2_with fail
      go_region_held3 (fun w' => (w'.cell? ⟨w0.heap.size, 0, none⟩ = some (.int .i64 t.count) ∧ w'.cell? ⟨w0.heap.size, 1, none⟩ = some (.int .i64 t.next) ∧ w'.cell? ⟨w0.heap.size, 2, none⟩ = some (.int .i64 t.round) ∧ w'.cell? ⟨w0.heap.size, 3, none⟩ = some (.slice (some ⟨b1, o1, none⟩) t.owns.length c0) ∧ w'.cell? ⟨b1, o1 + k * 2 + 1, none⟩ = some (.int .i64 x.tag))) ((refine FK.out _ ?_; with_reducible (first | exact Ex.refl _ | exact (Ex.refl _).drew | exact (Ex.refl _).drew.trans hba))) (first | (go_at_call 25; (with_reducible refine (C5.out _ c0 _ ?_ hn hle1).mono ?_); (with_reducible exact RD1.out _ (Ex.refl _).drew); rintro r wa ⟨rfl, hba⟩))
      rename_i hHeld
      clear hHeld
      have EE : Hid (Ex wr wa) := Lib.hid ((Ex.refl _).drew.trans hba)
      have Y4 : Hid (Chg 0 0 wr wa) := Lib.hid (Chg.of_ex EE.out)
      have HEX : Hid (Ex w3 wa) := Lib.hid (HB.out.trans EE.out)
      have h0 := (EE.out.cell HB1.out).trans HE0.out
      have h1 := (EE.out.cell HB1.out).trans HE1.out
      clear hba FK RD1
      have s4 : wr.heap.size ≤ wa.heap.size := Y4.out.size
      have Ewa : Hid (Ex w wa) := Lib.hid (Ewr.out.chg Y4.out (by omega))
      clear qX0 qX1 qX2 qX3 jX
      replace KX : Hid (Blk wa (w0.heap.size) 30 [.int .i64 t.count, .int .i64 t.next, .int .i64 t.round, .slice (some ⟨b1, o1, none⟩) t.owns.length c0]) := Lib.hid (KX.out.chg Y4.out (by omega))
      replace HF0 := Lib.hid (HF0.out.chg Y4.out WHF0.out (by omega))
      obtain ⟨qX0, qX1, qX2, qX3⟩ := KX.out.c4
      have jX := KX.out.lt
      have hxx : (x.space != x.space) = false := by simp
      by_cases hkz : k = 0
      · subst hkz
        simp only [Nat.zero_mul, Nat.add_zero] at h0 h1
        go_wp2_with fail
        go_quiet (fail)
        go_wp2
        go_roundw
        case rel => exact ⟨0 + 1, by go_num, by omega, HEX.out.drewN _⟩
        case measure => simp [intOf]; omega
      obtain ⟨k', rfl⟩ : ∃ k', k = k' + 1 := ⟨k - 1, by omega⟩
      obtain ⟨y, hb2, hyk, y0, y1⟩ := Rd.own_known HF0.out.rd (k := k') (by omega)
      have hty : ¬ x.tag ≤ y.tag := by have := HLT.out (k' + 1) k' x y HXK.out hyk (by omega); omega
      have htyb : decide (x.tag ≤ y.tag) = false := by simp; omega
      have hkp : decide ((0 : Int) < ((k' + 1 : Nat) : Int)) = true := by simp
      have hsub : IntKind.i64.wrap (((k' + 1 : Nat) : Int) - 1) = (k' : Int) := by rw [show ((k' + 1 : Nat) : Int) - 1 = (k' : Int) from by omega]; exact IntWalk.i64_in _ (by omega)
      have hk'n : (k' : Int) < (t.owns.length : Int) := by omega
      have hk'0 : (0 : Int) < (k' : Int) + 1 := by omega
      clear hyk y0
      go_wp2_with fail
      go_quiet (fail)
      go_wp2
      go_roundw
      case rel => exact ⟨k' + 1 + 1, by go_num, by omega, HEX.out.drewN _⟩
      case measure => simp [intOf]; omega
    · go_wp2
      go_ret
      exact ⟨rfl, (by repeat' (first | with_reducible exact Ewr.out | with_reducible refine Ex.alloc ?_ _ | with_reducible refine Ex.drew ?_ | with_reducible refine Ex.put ?_ (by omega) _))⟩
end Go.Proofs.Ytkiohppknlmfaaa
