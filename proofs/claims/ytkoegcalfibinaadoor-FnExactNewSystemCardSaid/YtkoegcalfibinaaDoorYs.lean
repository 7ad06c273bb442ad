/- Contracts over processors: counting, copying, comparing. -/
import Derived.Test.YtkoegcalfibinaaDoorYd
namespace Go.Proofs.YtkoegcalfibinaaDoor
open Go.ChangeShapes Go.WideShapes Go.ChangeAt Go.RowKit
open Rec (sz cs)
set_option linter.unusedVariables false
set_option maxRecDepth 100000

theorem infoMCpu : (Tryd.prog.info? 123).map (fun i => (i.zero, i.size, i.bytes)) = some (some (.agg #[.slice none 0 0, .slice none 0 0]), 2, 48) := by kernel_rfl

set_option maxHeartbeats 400000 in
theorem eqCpu_self_c (x : CpuD) (A : Option Addr) (c : Nat) (B : Option Addr) (d : Nat) (A' : Option Addr) (c' : Nat) (B' : Option Addr) (d' : Nat) (w : World) (hx : Rd w A x.notes) (hy : Rd w B x.waits) (hx' : Rd w A' x.notes) (hy' : Rd w B' x.waits) (hn : x.notes.length ≤ 1048576) (hm : x.waits.length ≤ 1048576) :
    Calls Tryd.prog 78 #[.agg #[.slice A x.notes.length c, .slice B x.waits.length d], .agg #[.slice A' x.notes.length c', .slice B' x.waits.length d']] w fun r w' => r = .returned (.bool true) ∧ Ex w w' := by
  have HX := Lib.hid hx
  have HY := Lib.hid hy
  have HX2 := Lib.hid hx'
  have HY2 := Lib.hid hy'
  clear hx hy hx' hy'
  go_enter Tryd.func78, Tryd.ntmps78
  go_wp2_with fail
  refine name_calls ?_; intro v1 hv1
  have X1 : Hid (Chg (0) (0) w v1) := Lib.hid (by rw [hv1]; repeat' (first | with_reducible exact Chg.refl _ _ _ | with_reducible refine Chg.alloc ?_ _ | with_reducible refine Chg.drew ?_ | with_reducible refine Chg.set ?_ (by omega) _))
  have t1 : w.heap.size ≤ v1.heap.size := X1.out.size
  have Ev1 : Hid (Ex w v1) := Lib.hid ((Ex.refl w).chg X1.out (by omega))
  have KX : Hid (Blk v1 (w.heap.size) 123 [.slice A x.notes.length c, .slice B x.waits.length d]) := Lib.hid (by rw [hv1]; repeat' (first | with_reducible exact Blk.new_at _ _ _ (by simp) | with_reducible refine Blk.alloc ?_ _ | with_reducible refine Blk.drew ?_ | with_reducible refine Blk.far ?_ (by simp; omega) _))
  have lX : w.heap.size < v1.heap.size := KX.out.lt
  have KY : Hid (Blk v1 (w.heap.size + 1) 123 [.slice A' x.notes.length c', .slice B' x.waits.length d']) := Lib.hid (by rw [hv1]; repeat' (first | with_reducible exact Blk.new_at _ _ _ (by simp) | with_reducible refine Blk.alloc ?_ _ | with_reducible refine Blk.drew ?_ | with_reducible refine Blk.far ?_ (by simp; omega) _))
  have lY : w.heap.size + 1 < v1.heap.size := KY.out.lt
  have DX := Lib.hid (HX.out.ex Ev1.out)
  have DY := Lib.hid (HY.out.ex Ev1.out)
  have DXX := Lib.hid (HX2.out.ex Ev1.out)
  have DYY := Lib.hid (HY2.out.ex Ev1.out)
  clear hv1
  refine (eqNoteS_self_c A A' c c' x.notes _ DX.out DXX.out hn).mono ?_; rintro r w1 ⟨rfl, hb1⟩
  have Y1 : Hid (Chg 0 0 v1 w1) := Lib.hid (Chg.of_ex hb1)
  have s1 : v1.heap.size ≤ w1.heap.size := Y1.out.size
  have Ew1 : Hid (Ex w w1) := Lib.hid (Ev1.out.chg Y1.out (by omega))
  clear hb1
  replace KX : Hid (Blk w1 (w.heap.size) 123 [.slice A x.notes.length c, .slice B x.waits.length d]) := Lib.hid (KX.out.chg Y1.out (by omega))
  replace KY : Hid (Blk w1 (w.heap.size + 1) 123 [.slice A' x.notes.length c', .slice B' x.waits.length d']) := Lib.hid (KY.out.chg Y1.out (by omega))
  replace DX := Lib.hid (HX.out.ex Ew1.out)
  replace DY := Lib.hid (HY.out.ex Ew1.out)
  replace DXX := Lib.hid (HX2.out.ex Ew1.out)
  replace DYY := Lib.hid (HY2.out.ex Ew1.out)
  obtain ⟨qX0, qX1⟩ := KX.out.c2
  have jX := KX.out.lt
  obtain ⟨qY0, qY1⟩ := KY.out.c2
  have jY := KY.out.lt
  go_wp2_with fail
  refine name_calls ?_; intro v2 hv2
  have X2 : Hid (Chg (0) (0) w1 v2) := Lib.hid (by rw [hv2]; repeat' (first | with_reducible exact Chg.refl _ _ _ | with_reducible refine Chg.alloc ?_ _ | with_reducible refine Chg.drew ?_ | with_reducible refine Chg.set ?_ (by omega) _))
  have t2 : w1.heap.size ≤ v2.heap.size := X2.out.size
  have Ev2 : Hid (Ex w v2) := Lib.hid (Ew1.out.chg X2.out (by omega))
  clear qX0 qX1 jX
  clear qY0 qY1 jY
  replace KX : Hid (Blk v2 (w.heap.size) 123 [.slice A x.notes.length c, .slice B x.waits.length d]) := Lib.hid (KX.out.chg X2.out (by omega))
  replace KY : Hid (Blk v2 (w.heap.size + 1) 123 [.slice A' x.notes.length c', .slice B' x.waits.length d']) := Lib.hid (KY.out.chg X2.out (by omega))
  replace DX := Lib.hid (HX.out.ex Ev2.out)
  replace DY := Lib.hid (HY.out.ex Ev2.out)
  replace DXX := Lib.hid (HX2.out.ex Ev2.out)
  replace DYY := Lib.hid (HY2.out.ex Ev2.out)
  clear hv2
  refine (eqNoteS_self_c B B' d d' x.waits _ DY.out DYY.out hm).mono ?_; rintro r w2 ⟨rfl, hb2⟩
  have Y2 : Hid (Chg 0 0 v2 w2) := Lib.hid (Chg.of_ex hb2)
  have s2 : v2.heap.size ≤ w2.heap.size := Y2.out.size
  have Ew2 : Hid (Ex w w2) := Lib.hid (Ev2.out.chg Y2.out (by omega))
  clear hb2
  replace KX : Hid (Blk w2 (w.heap.size) 123 [.slice A x.notes.length c, .slice B x.waits.length d]) := Lib.hid (KX.out.chg Y2.out (by omega))
  replace KY : Hid (Blk w2 (w.heap.size + 1) 123 [.slice A' x.notes.length c', .slice B' x.waits.length d']) := Lib.hid (KY.out.chg Y2.out (by omega))
  replace DX := Lib.hid (HX.out.ex Ew2.out)
  replace DY := Lib.hid (HY.out.ex Ew2.out)
  replace DXX := Lib.hid (HX2.out.ex Ew2.out)
  replace DYY := Lib.hid (HY2.out.ex Ew2.out)
  obtain ⟨qX0, qX1⟩ := KX.out.c2
  have jX := KX.out.lt
  obtain ⟨qY0, qY1⟩ := KY.out.c2
  have jY := KY.out.lt
  go_wp2
  go_ret
  exact ⟨rfl, Ew2.out⟩

set_option maxHeartbeats 1000000 in
theorem eqCpuS_self_c (A B : Option Addr) (c d : Nat) (xs : List CpuD) (w : World) (hx : HasC w A xs) (hy : HasC w B xs) (hl : FewC xs) :
   Calls Tryd.prog 32 #[.slice A xs.length c, .slice B xs.length d] w
   fun r w' => r = .returned (.bool true) ∧ Ex w w' := by
  have hn := hl.n
  have HL := Lib.hid hl.e
  obtain ⟨n, hn1⟩ : ∃ n, n = xs.length := ⟨_, rfl⟩
  rw [← hn1] at hn ⊢
  have HN := Lib.hid hn1
  have H1 := Lib.hid hx
  have H2 := Lib.hid hy
  clear hl hn1 hx hy
  go_enter Tryd.func32, Tryd.ntmps32
  go_wp2
  go_loopw [5] (fun i wr => ∃ k : Nat, k ≤ n ∧ i = .int .i64 k ∧ Ex w wr) (fun i _ => n - (intOf i).toNat)
  case atStart => exact ⟨0, Nat.zero_le _, rfl, Ex.refl _⟩
  case round =>
    obtain ⟨k, hk, rfl, hbel⟩ := hrel
    have HB := Lib.hid hbel
    clear hbel
    by_cases hlt : k < n
    · obtain ⟨b1, o1, x, nA, nc, wA, wc, rfl, hb1, hxk, g0, g1, hr1, hr2⟩ := (H1.out.ex HB.out).at_ (k := k) (by have := HN.out; omega)
      obtain ⟨b2, o2, y, nA', nc', wA', wc', rfl, hb2, hyk, g2, g3, hr3, hr4⟩ := (H2.out.ex HB.out).at_ (k := k) (by have := HN.out; omega)
      have e : y = x := by rw [hxk] at hyk; injection hyk with e; exact e.symm
      subst e
      have HR1 := Lib.hid hr1
      have HR2 := Lib.hid hr2
      have HR3 := Lib.hid hr3
      have HR4 := Lib.hid hr4
      have HLX := Lib.hid (HL.out k y hxk)
      clear hxk hyk hr1 hr2 hr3 hr4
      go_wp2_with fail
      go_still_tail 8, (by kernel_rfl)
      change wpList _ _ _ _ _ wr.drew
      go_wp2_with (go_at_call 78; go_must (refine (eqCpu_self_c y nA nc wA wc nA' nc' wA' wc' _ HR1.out.drew HR2.out.drew HR3.out.drew HR4.out.drew HLX.out.1 HLX.out.2).mono ?_); rintro r w' ⟨rfl, hb⟩)
      go_roundw
      case rel => exact ⟨k + 1, by omega, by go_num, (HB.out.drew).trans hb⟩
      case measure => simp [intOf]; omega
    · go_wp2
      go_ret
      exact ⟨rfl, HB.out⟩

end Go.Proofs.YtkoegcalfibinaaDoor
