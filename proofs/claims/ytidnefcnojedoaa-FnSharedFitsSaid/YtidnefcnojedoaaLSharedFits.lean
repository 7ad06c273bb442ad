/- The law FnSharedFits: the walk. -/
import Derived.Test.YtidnefcnojedoaaDj
import Derived.Test.YtidnefcnojedoaaPl
namespace Go.Proofs.Ytidnefcnojedoaa
open Go.ChangeShapes Go.WideShapes Go.ChangeAt Go.RowKit
open Rec (sz cs)
set_option linter.unusedVariables false
set_option maxRecDepth 100000

theorem shared_fits {x : LineD} {tag page s : Int} (h : fitsB x tag page = true) (hs : x.tag = -1) : fitsB x s page = true := by
  unfold fitsB at h ⊢
  simp only [Bool.and_eq_true, Bool.or_eq_true, beq_iff_eq] at h ⊢
  exact ⟨h.1, h.2.1, .inr hs⟩
/-- What holds at the head of the law's loop. -/
def SFRound (t : CacheD) (gC a1 o1 c0 : Nat) (w : World) (i : Value) (wr : World) : Prop := ∃ k : Nat, k ≤ 8 ∧ i = .int .i64 k ∧ Ex w wr ∧ Blk wr gC 33 [.slice (some ⟨a1, o1, none⟩) t.lines.length c0, .int .i64 t.hand] ∧ Rd wr (some ⟨a1, o1, none⟩) t.lines

set_option maxHeartbeats 16000000 in
theorem walk_FnSharedFits (A : Option Addr) (n c : Nat) (bs : List ByteD) (w : World) (hr : Rd w A bs) (hc : Bytes bs ∧ bs.length = n ∧ n ≤ c ∧ c ≤ maxLen) :
    Calls Try.prog 6 #[.slice A n c] w fun r w' => r = .returned (.bool true) ∧ Ex w w' := by
  obtain ⟨hb, rfl, hnc, hcm⟩ := hc
  by_cases hbig : 1048576 < bs.length
  · have hbig' : (1048576 : Int) < (bs.length : Int) := by omega
    unfold maxLen at hcm
    generalize bs.length = n at *
    go_enter Try.func6, Try.ntmps6
    go_wp2
    go_ret
    exact ⟨rfl, Ex.refl _⟩
  have hsm : ¬ (1048576 : Int) < (bs.length : Int) := by omega
  have C0 := Lib.hid (fun w' (h : Ex w w') => drawFindLine_c A c bs w' (hr.ex h) hb (by omega) hnc hcm)
  have hcm' := hcm
  unfold maxLen at hcm'
  generalize bs.length = n at *
  clear hr hb hcm
  go_enter Try.func6, Try.ntmps6
  go_wp2_with fail
  refine name_calls ?_; intro v0 hv0
  have X0 : Hid (Chg (0) (0) w v0) := Lib.hid (by rw [hv0]; repeat' (first | with_reducible exact Chg.refl _ _ _ | with_reducible refine Chg.alloc ?_ _ | with_reducible refine Chg.drew ?_ | with_reducible refine Chg.set ?_ (by omega) _))
  have t0 : w.heap.size ≤ v0.heap.size := X0.out.size
  have Ev0 : Hid (Ex w v0) := Lib.hid ((Ex.refl w).chg X0.out (by omega))
  clear hv0
  refine (C0.out _ Ev0.out).mono ?_; rintro r w0 ⟨t, tag, page, A0, c0, rfl, hww, hf0, hb0⟩
  have Y0 : Hid (Chg 0 0 v0 w0) := Lib.hid (Chg.of_ex hb0)
  have s0 : v0.heap.size ≤ w0.heap.size := Y0.out.size
  have Ew0 : Hid (Ex w w0) := Lib.hid (Ev0.out.chg Y0.out (by omega))
  clear hb0
  have HF0 := Lib.hid hf0; clear hf0
  have WHF0 := Lib.hid HF0.out.row
  have hn : t.lines.length ≤ 1048576 := by have := hww.1; omega
  have C1 := Lib.hid (findLineI_c t tag page)
  have C2 := Lib.hid (findLineS_c t tag page)
  clear hww C0

  have HAT := Lib.hid (findLine_at t tag page)
  have CA := Lib.hid (fun s : Int => findLineI_c t s page)
  generalize hq : findLine t tag page = q at C1 C2 HAT
  obtain ⟨at_, ok⟩ := q
  dsimp only at C1 C2 HAT
  have hva : (at_ != at_) = false := by simp
  cases ok
  · skip
    go_wp2_with fail
    refine name_calls ?_; intro v1 hv1
    have X1 : Hid (Chg (0) (0) w0 v1) := Lib.hid (by rw [hv1]; repeat' (first | with_reducible exact Chg.refl _ _ _ | with_reducible refine Chg.alloc ?_ _ | with_reducible refine Chg.drew ?_ | with_reducible refine Chg.set ?_ (by omega) _))
    have t1 : w0.heap.size ≤ v1.heap.size := X1.out.size
    have Ev1 : Hid (Ex w v1) := Lib.hid (Ew0.out.chg X1.out (by omega))
    replace HF0 := Lib.hid (HF0.out.chg X1.out WHF0.out (by omega))
    have KC : Hid (Blk v1 (w0.heap.size) 33 [.slice A0 t.lines.length c0, .int .i64 t.hand]) := Lib.hid (by rw [hv1]; repeat' (first | with_reducible exact Blk.new_at _ _ _ (by simp) | with_reducible refine Blk.alloc ?_ _ | with_reducible refine Blk.drew ?_ | with_reducible refine Blk.far ?_ (by simp; omega) _))
    have lC : w0.heap.size < v1.heap.size := KC.out.lt
    clear hv1
    refine (C1.out A0 c0 _ HF0.out.rd hn HF0.out.le).mono ?_; rintro r w1 ⟨rfl, hb1⟩
    have Y1 : Hid (Chg 0 0 v1 w1) := Lib.hid (Chg.of_ex hb1)
    have s1 : v1.heap.size ≤ w1.heap.size := Y1.out.size
    have Ew1 : Hid (Ex w w1) := Lib.hid (Ev1.out.chg Y1.out (by omega))
    clear hb1
    replace KC : Hid (Blk w1 (w0.heap.size) 33 [.slice A0 t.lines.length c0, .int .i64 t.hand]) := Lib.hid (KC.out.chg Y1.out (by omega))
    replace HF0 := Lib.hid (HF0.out.chg Y1.out WHF0.out (by omega))
    obtain ⟨qC0, qC1⟩ := KC.out.c2
    have jC := KC.out.lt
    go_wp2_with fail
    refine name_calls ?_; intro v2 hv2
    have X2 : Hid (Chg (0) (0) w1 v2) := Lib.hid (by rw [hv2]; repeat' (first | with_reducible exact Chg.refl _ _ _ | with_reducible refine Chg.alloc ?_ _ | with_reducible refine Chg.drew ?_ | with_reducible refine Chg.set ?_ (by omega) _))
    have t2 : w1.heap.size ≤ v2.heap.size := X2.out.size
    have Ev2 : Hid (Ex w v2) := Lib.hid (Ew1.out.chg X2.out (by omega))
    clear qC0 qC1 jC
    replace KC : Hid (Blk v2 (w0.heap.size) 33 [.slice A0 t.lines.length c0, .int .i64 t.hand]) := Lib.hid (KC.out.chg X2.out (by omega))
    replace HF0 := Lib.hid (HF0.out.chg X2.out WHF0.out (by omega))
    clear hv2
    refine (C2.out A0 c0 _ HF0.out.rd hn HF0.out.le).mono ?_; rintro r w2 ⟨rfl, hb2⟩
    have Y2 : Hid (Chg 0 0 v2 w2) := Lib.hid (Chg.of_ex hb2)
    have s2 : v2.heap.size ≤ w2.heap.size := Y2.out.size
    have Ew2 : Hid (Ex w w2) := Lib.hid (Ev2.out.chg Y2.out (by omega))
    clear hb2
    replace KC : Hid (Blk w2 (w0.heap.size) 33 [.slice A0 t.lines.length c0, .int .i64 t.hand]) := Lib.hid (KC.out.chg Y2.out (by omega))
    replace HF0 := Lib.hid (HF0.out.chg Y2.out WHF0.out (by omega))
    obtain ⟨qC0, qC1⟩ := KC.out.c2
    have jC := KC.out.lt
    go_wp2
    go_ret
    exact ⟨rfl, Ew2.out⟩
  obtain ⟨k, x, rfl, hx, hf, -, hcv, -, -⟩ := HAT.out rfl
  have hkl := getElem?_lt hx
  have hk0 : ¬ ((k : Int) < 0) := by omega
  have hk1 : (k : Int) < (t.lines.length : Int) := by omega
  have HXK := Lib.hid hx
  obtain ⟨a1, o1, hA, -, -⟩ := HF0.out.rd (by omega)
  subst hA
  have HSH : Hid (x.tag = -1 → ∀ s : Int, 0 ≤ s → s < 8 → findLine t s page = ((k : Int), true)) := Lib.hid (fun h s h0 h1 => findLine_found ((cv_iff t).1 hcv) (tagB_iff.2 ⟨by omega, h1⟩) hx (shared_fits hf h))
  clear hx hf hcv hq HAT
  go_wp2_with fail
  refine name_calls ?_; intro v1 hv1
  have X1 : Hid (Chg (0) (0) w0 v1) := Lib.hid (by rw [hv1]; repeat' (first | with_reducible exact Chg.refl _ _ _ | with_reducible refine Chg.alloc ?_ _ | with_reducible refine Chg.drew ?_ | with_reducible refine Chg.set ?_ (by omega) _))
  have t1 : w0.heap.size ≤ v1.heap.size := X1.out.size
  have Ev1 : Hid (Ex w v1) := Lib.hid (Ew0.out.chg X1.out (by omega))
  replace HF0 := Lib.hid (HF0.out.chg X1.out WHF0.out (by omega))
  have KC : Hid (Blk v1 (w0.heap.size) 33 [.slice (some ⟨a1, o1, none⟩) t.lines.length c0, .int .i64 t.hand]) := Lib.hid (by rw [hv1]; repeat' (first | with_reducible exact Blk.new_at _ _ _ (by simp) | with_reducible refine Blk.alloc ?_ _ | with_reducible refine Blk.drew ?_ | with_reducible refine Blk.far ?_ (by simp; omega) _))
  have lC : w0.heap.size < v1.heap.size := KC.out.lt
  clear hv1
  refine (C1.out _ c0 _ HF0.out.rd hn HF0.out.le).mono ?_; rintro r w1 ⟨rfl, hb1⟩
  have Y1 : Hid (Chg 0 0 v1 w1) := Lib.hid (Chg.of_ex hb1)
  have s1 : v1.heap.size ≤ w1.heap.size := Y1.out.size
  have Ew1 : Hid (Ex w w1) := Lib.hid (Ev1.out.chg Y1.out (by omega))
  clear hb1
  replace KC : Hid (Blk w1 (w0.heap.size) 33 [.slice (some ⟨a1, o1, none⟩) t.lines.length c0, .int .i64 t.hand]) := Lib.hid (KC.out.chg Y1.out (by omega))
  replace HF0 := Lib.hid (HF0.out.chg Y1.out WHF0.out (by omega))
  obtain ⟨qC0, qC1⟩ := KC.out.c2
  have jC := KC.out.lt
  go_wp2_with fail
  refine name_calls ?_; intro v2 hv2
  have X2 : Hid (Chg (0) (0) w1 v2) := Lib.hid (by rw [hv2]; repeat' (first | with_reducible exact Chg.refl _ _ _ | with_reducible refine Chg.alloc ?_ _ | with_reducible refine Chg.drew ?_ | with_reducible refine Chg.set ?_ (by omega) _))
  have t2 : w1.heap.size ≤ v2.heap.size := X2.out.size
  have Ev2 : Hid (Ex w v2) := Lib.hid (Ew1.out.chg X2.out (by omega))
  clear qC0 qC1 jC
  replace KC : Hid (Blk v2 (w0.heap.size) 33 [.slice (some ⟨a1, o1, none⟩) t.lines.length c0, .int .i64 t.hand]) := Lib.hid (KC.out.chg X2.out (by omega))
  replace HF0 := Lib.hid (HF0.out.chg X2.out WHF0.out (by omega))
  clear hv2
  refine (C2.out _ c0 _ HF0.out.rd hn HF0.out.le).mono ?_; rintro r w2 ⟨rfl, hb2⟩
  have Y2 : Hid (Chg 0 0 v2 w2) := Lib.hid (Chg.of_ex hb2)
  have s2 : v2.heap.size ≤ w2.heap.size := Y2.out.size
  have Ew2 : Hid (Ex w w2) := Lib.hid (Ev2.out.chg Y2.out (by omega))
  clear hb2
  replace KC : Hid (Blk w2 (w0.heap.size) 33 [.slice (some ⟨a1, o1, none⟩) t.lines.length c0, .int .i64 t.hand]) := Lib.hid (KC.out.chg Y2.out (by omega))
  replace HF0 := Lib.hid (HF0.out.chg Y2.out WHF0.out (by omega))
  obtain ⟨qC0, qC1⟩ := KC.out.c2
  have jC := KC.out.lt
  obtain ⟨x', hb1, hx1, g0, g1, g2, g3, g4, g5⟩ := Rd.line_known HF0.out.rd (k := k) hkl
  obtain rfl : x = x' := by have := HXK.out; rw [hx1] at this; injection this with this; exact this.symm
  clear hx1 g0 g2 g3 g4 g5
  by_cases hs : x.tag = -1
  rotate_left
  · have hs' : (x.tag != -1) = true := by simpa using hs
    go_wp2
    go_ret
    exact ⟨rfl, Ew2.out⟩
  have HS := Lib.hid (HSH.out hs)
  rw [hs] at g1
  clear hs
  obtain ⟨gC, hgC⟩ : ∃ gC, gC = w0.heap.size := ⟨_, rfl⟩
  have HST : Hid (SFRound t gC a1 o1 c0 w (.int .i64 0) w2) := Lib.hid ⟨0, by omega, rfl, Ew2.out, by rw [hgC]; exact KC.out, HF0.out.rd⟩
  have hle := HF0.out.le
  rw [← hgC] at KC qC0 qC1 jC ⊢
  clear hgC
  go_wp2
  clear qC0 qC1 jC KC HF0 WHF0 g1
  go_loopw [10] (fun i wr => SFRound t gC a1 o1 c0 w i wr) (fun i _ => 8 - (intOf i).toNat)
  case atStart => exact HST.out
  case round =>
    clear HST
    obtain ⟨j, hj, rfl, hex, hkc, hr0⟩ := hrel
    have Ewr := Lib.hid hex
    have KC := Lib.hid hkc
    have HR0 := Lib.hid hr0
    clear hex hkc hr0
    obtain ⟨qC0, qC1⟩ := KC.out.c2
    have jC := KC.out.lt
    by_cases hlt : j < 8
    · have hlt' : (j : Int) < 8 := by omega
      have C4 := Lib.hid (CA.out (j : Int))
      rw [HS.out (j : Int) (by omega) (by omega)] at C4
      dsimp only at C4
      go_wp2_with fail
      refine name_calls ?_; intro v3 hv3
      have X3 : Hid (Chg (0) (0) wr v3) := Lib.hid (by rw [hv3]; repeat' (first | with_reducible exact Chg.refl _ _ _ | with_reducible refine Chg.alloc ?_ _ | with_reducible refine Chg.drew ?_ | with_reducible refine Chg.set ?_ (by omega) _))
      have t3 : wr.heap.size ≤ v3.heap.size := X3.out.size
      have Ev3 : Hid (Ex w v3) := Lib.hid (Ewr.out.chg X3.out (by omega))
      clear qC0 qC1 jC
      replace KC : Hid (Blk v3 (gC) 33 [.slice (some ⟨a1, o1, none⟩) t.lines.length c0, .int .i64 t.hand]) := Lib.hid (KC.out.chg X3.out (by omega))
      clear hv3
      refine (C4.out _ c0 _ (HR0.out.ex X3.out.ex_) hn hle).mono ?_; rintro r w3 ⟨rfl, hb3⟩
      have Y3 : Hid (Chg 0 0 v3 w3) := Lib.hid (Chg.of_ex hb3)
      have s3 : v3.heap.size ≤ w3.heap.size := Y3.out.size
      have Ew3 : Hid (Ex w w3) := Lib.hid (Ev3.out.chg Y3.out (by omega))
      clear hb3
      replace KC : Hid (Blk w3 (gC) 33 [.slice (some ⟨a1, o1, none⟩) t.lines.length c0, .int .i64 t.hand]) := Lib.hid (KC.out.chg Y3.out (by omega))
      obtain ⟨qC0, qC1⟩ := KC.out.c2
      have jC := KC.out.lt
      have hkk : ((k : Int) != (k : Int)) = false := by simp
      go_wp2
      go_roundw
      case rel => exact ⟨j + 1, by omega, by go_num, Ew3.out, KC.out, (HR0.out.ex X3.out.ex_).ex Y3.out.ex_⟩
      case measure => simp [intOf]; omega
    · obtain rfl : j = 8 := by omega
      go_wp2
      go_ret
      exact ⟨rfl, Ewr.out⟩
end Go.Proofs.Ytidnefcnojedoaa
