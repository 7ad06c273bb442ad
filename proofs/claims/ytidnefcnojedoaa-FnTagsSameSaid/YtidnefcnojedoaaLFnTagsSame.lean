/- The law FnTagsSame: the walk. -/
import Derived.Test.YtidnefcnojedoaaSg
import Derived.Test.YtidnefcnojedoaaSf
import Derived.Test.YtidnefcnojedoaaTt
import Derived.Test.YtidnefcnojedoaaTu
import Derived.Test.YtidnefcnojedoaaTl
import Derived.Test.YtidnefcnojedoaaTk
import Derived.Test.YtidnefcnojedoaaTy
import Derived.Test.YtidnefcnojedoaaTz
import Derived.Test.YtidnefcnojedoaaTw
import Derived.Test.YtidnefcnojedoaaTd
import Derived.Test.YtidnefcnojedoaaTq
import Derived.Test.YtidnefcnojedoaaTs
import Derived.Test.YtidnefcnojedoaaTv
import Derived.Deep.RegionHeld3
namespace Go.Proofs.Ytidnefcnojedoaa
open Go.ChangeShapes Go.WideShapes Go.ChangeAt Go.RowKit
open Rec (sz cs)
set_option linter.unusedVariables false
set_option maxRecDepth 100000

theorem step_call_g {P : Program} {w : World} {ops : Array Oper} {o : Oper} {a : Act} {K : Act → World → Prop} {Q : Exit → Act → World → Prop} {X : Prop} (hw : Region.wanted o (yielded ops a.tmps) = true) {f : FuncId} (hen : ∀ (args : Array Value) (w : World), (callFunc f args).run P w = .ok (.enter f args) w) (xs : Array Operand) (ts : Array TypeId)
    (ho : o.op = .call { callee := .value (.func f), args := xs, argTypes := ts }) (vs : Array Value) (hv : xs.toList.map a.eval = vs.toList) {R : Ending → World → Prop} (hc : Calls P f vs w R)
    (h : ∀ e w', R e w' → ∃ v, e = .returned v ∧ K (a.put o.dst v) w') : if Region.wanted o (yielded ops a.tmps) = true then Oper.wp P o a w K Q else X := by
  rw [if_pos hw]
  have hv' : xs.map a.eval = vs := Array.ext' (by rw [Array.toList_map]; exact hv)
  have he : (execOp a.eval o).run P w = .ok (.enter f vs) w := by
    rw [← hv']
    simp [execOp, ho, resolve, invoke, Act.eval, go_sem, hen]
  unfold Oper.wp
  rw [he, Oper.upon_enter]
  refine hc.mono fun e w' hr => ?_
  obtain ⟨v, rfl, hk⟩ := h e w' hr
  exact hk

set_option maxHeartbeats 16000000 in
theorem walk_FnTagsSame (A : Option Addr) (n c : Nat) (bs : List ByteD) (w : World) (hr : Rd w A bs) (hc : Bytes bs ∧ bs.length = n ∧ n ≤ c ∧ c ≤ maxLen) :
    Calls Try.prog 3 #[.slice A n c] w fun r w' => r = .returned (.bool true) ∧ Ex w w' := by
  obtain ⟨hb, rfl, hnc, hcm⟩ := hc
  by_cases hbig : 1048576 < bs.length
  · have hbig' : (1048576 : Int) < (bs.length : Int) := by omega
    unfold maxLen at hcm
    generalize bs.length = n at *
    go_enter Try.func3, Try.ntmps3
    go_wp2
    go_ret
    exact ⟨rfl, Ex.refl _⟩
  have hsm : ¬ (1048576 : Int) < (bs.length : Int) := by omega
  have C0 := Lib.hid (fun w' (h : Ex w w') => drawTagsSame_c A c bs w' (hr.ex h) hb (by omega) hnc hcm)
  have hcm' := hcm
  unfold maxLen at hcm'
  generalize bs.length = n at *
  clear hr hb hcm
  go_enter Try.func3, Try.ntmps3
  go_wp2_with fail
  refine name_calls ?_; intro v0 hv0
  have X0 : Hid (Chg (0) (0) w v0) := Lib.hid (by rw [hv0]; repeat' (first | with_reducible exact Chg.refl _ _ _ | with_reducible refine Chg.alloc ?_ _ | with_reducible refine Chg.drew ?_ | with_reducible refine Chg.set ?_ (by omega) _))
  have t0 : w.heap.size ≤ v0.heap.size := X0.out.size
  have Ev0 : Hid (Ex w v0) := Lib.hid ((Ex.refl w).chg X0.out (by omega))
  clear hv0
  refine (C0.out _ Ev0.out).mono ?_; rintro r w0 ⟨t, u, A0, c0, B0, d0, rfl, hl0, hu0, hf0, hfb, hb0⟩
  have Y0 : Hid (Chg 0 0 v0 w0) := Lib.hid (Chg.of_ex hb0)
  have s0 : v0.heap.size ≤ w0.heap.size := Y0.out.size
  have Ew0 : Hid (Ex w w0) := Lib.hid (Ev0.out.chg Y0.out (by omega))
  clear hb0
  have HF0 := Lib.hid hf0; clear hf0
  have WHF0 := Lib.hid HF0.out.row
  have HFB := Lib.hid hfb; clear hfb
  have WHFB := Lib.hid HFB.out.row
  clear C0
  have hn : t.owns.length ≤ 1048576 := by omega
  have hm : u.owns.length ≤ 1048576 := by omega
  have hle1 := HF0.out.le
  have hle2 := HFB.out.le
  have CS0 := tagsSameI_c t u
  have CS1 := tagsSameS_c t u
  have CS2 := tagsSameI_c u t
  have CS3 := tagsSameI_c t t
  have CV1 := Lib.hid (tagsValidI_c t)
  have CV2 := Lib.hid (tagsValidI_c u)
  have hsy : eqB u t = eqB t u := by rw [Bool.eq_iff_iff, eqB_true, eqB_true]; exact eq_comm
  have HVV : Hid (eqB t u = true → tagsV u = tagsV t) := Lib.hid (fun h => by rw [eqB_true.1 h])
  rw [hsy] at CS2
  rw [eqB_self] at CS3
  clear hsy hl0 hu0
  generalize eqB t u = same at CS0 CS1 CS2 HVV
  replace CS0 := Lib.hid CS0
  replace CS1 := Lib.hid CS1
  replace CS2 := Lib.hid CS2
  replace CS3 := Lib.hid CS3
  go_wp2_with fail
  refine name_calls ?_; intro v1 hv1
  have X1 : Hid (Chg (0) (0) w0 v1) := Lib.hid (by rw [hv1]; repeat' (first | with_reducible exact Chg.refl _ _ _ | with_reducible refine Chg.alloc ?_ _ | with_reducible refine Chg.drew ?_ | with_reducible refine Chg.set ?_ (by omega) _))
  have t1 : w0.heap.size ≤ v1.heap.size := X1.out.size
  have Ev1 : Hid (Ex w v1) := Lib.hid (Ew0.out.chg X1.out (by omega))
  replace HF0 := Lib.hid (HF0.out.chg X1.out WHF0.out (by omega))
  replace HFB := Lib.hid (HFB.out.chg X1.out WHFB.out (by omega))
  have KX : Hid (Blk v1 (w0.heap.size) 25 [.int .i64 t.count, .int .i64 t.next, .int .i64 t.round, .slice A0 t.owns.length c0]) := Lib.hid (by rw [hv1]; repeat' (first | with_reducible exact Blk.new_at _ _ _ (by simp) | with_reducible refine Blk.alloc ?_ _ | with_reducible refine Blk.drew ?_ | with_reducible refine Blk.far ?_ (by simp; omega) _))
  have lX : w0.heap.size < v1.heap.size := KX.out.lt
  have KD : Hid (Blk v1 (w0.heap.size + 1) 25 [.int .i64 u.count, .int .i64 u.next, .int .i64 u.round, .slice B0 u.owns.length d0]) := Lib.hid (by rw [hv1]; repeat' (first | with_reducible exact Blk.new_at _ _ _ (by simp) | with_reducible refine Blk.alloc ?_ _ | with_reducible refine Blk.drew ?_ | with_reducible refine Blk.far ?_ (by simp; omega) _))
  have lD : w0.heap.size + 1 < v1.heap.size := KD.out.lt
  clear hv1
  refine (CS0.out _ _ _ _ _ HF0.out.rd HFB.out.rd hn hm).mono ?_; rintro r w1 ⟨rfl, hb1⟩
  have Y1 : Hid (Chg 0 0 v1 w1) := Lib.hid (Chg.of_ex hb1)
  have s1 : v1.heap.size ≤ w1.heap.size := Y1.out.size
  have Ew1 : Hid (Ex w w1) := Lib.hid (Ev1.out.chg Y1.out (by omega))
  clear hb1
  replace KX : Hid (Blk w1 (w0.heap.size) 25 [.int .i64 t.count, .int .i64 t.next, .int .i64 t.round, .slice A0 t.owns.length c0]) := Lib.hid (KX.out.chg Y1.out (by omega))
  replace KD : Hid (Blk w1 (w0.heap.size + 1) 25 [.int .i64 u.count, .int .i64 u.next, .int .i64 u.round, .slice B0 u.owns.length d0]) := Lib.hid (KD.out.chg Y1.out (by omega))
  replace HF0 := Lib.hid (HF0.out.chg Y1.out WHF0.out (by omega))
  replace HFB := Lib.hid (HFB.out.chg Y1.out WHFB.out (by omega))
  obtain ⟨qX0, qX1, qX2, qX3⟩ := KX.out.c4
  have jX := KX.out.lt
  obtain ⟨qD0, qD1, qD2, qD3⟩ := KD.out.c4
  have jD := KD.out.lt
  have FK : Hid (∀ w', Ex w1 w' → (w'.cell? ⟨w0.heap.size, 0, none⟩ = some (.int .i64 t.count) ∧ w'.cell? ⟨w0.heap.size, 1, none⟩ = some (.int .i64 t.next) ∧ w'.cell? ⟨w0.heap.size, 2, none⟩ = some (.int .i64 t.round) ∧ w'.cell? ⟨w0.heap.size, 3, none⟩ = some (.slice A0 t.owns.length c0) ∧ w'.cell? ⟨w0.heap.size + 1, 0, none⟩ = some (.int .i64 u.count) ∧ w'.cell? ⟨w0.heap.size + 1, 1, none⟩ = some (.int .i64 u.next) ∧ w'.cell? ⟨w0.heap.size + 1, 2, none⟩ = some (.int .i64 u.round) ∧ w'.cell? ⟨w0.heap.size + 1, 3, none⟩ = some (.slice B0 u.owns.length d0))) := Lib.hid (fun w' h => by
    obtain ⟨a0, a1, a2, a3⟩ := (KX.out.ex h).c4
    obtain ⟨b0, b1, b2, b3⟩ := (KD.out.ex h).c4
    exact ⟨a0, a1, a2, a3, b0, b1, b2, b3⟩)
  have RDT : Hid (∀ w', Ex w1 w' → Rd w' A0 t.owns) := Lib.hid (fun w' h => HF0.out.rd.ex h)
  have RDU : Hid (∀ w', Ex w1 w' → Rd w' B0 u.owns) := Lib.hid (fun w' h => HFB.out.rd.ex h)
  cases same
  · obtain ⟨m0, m1, m2, m3, m4, m5, m6, m7⟩ := FK.out w1 (Ex.refl _)
    have CE1 : Hid (∀ (args : Array Value) (w : World), (callFunc 9 args).run Try.prog w = .ok (.enter 9 args) w) := Lib.hid (enters Try.func9 (by kernel_rfl) (by kernel_rfl))
    have CE2 : Hid (∀ (args : Array Value) (w : World), (callFunc 8 args).run Try.prog w = .ok (.enter 8 args) w) := Lib.hid (enters Try.func8 (by kernel_rfl) (by kernel_rfl))
    clear qX0 qX1 qX2 qX3 qD0 qD1 qD2 qD3 jX jD
    clear KX KD HF0 HFB WHF0 WHFB HVV CV1 CV2
    go_wp2_with fail
    go_region_law (first | (refine step_call_g rfl CE1.out _ _ rfl #[.agg #[.int .i64 t.count, .int .i64 t.next, .int .i64 t.round, .slice A0 t.owns.length c0], .agg #[.int .i64 u.count, .int .i64 u.next, .int .i64 u.round, .slice B0 u.owns.length d0]] rfl (CS1.out A0 B0 c0 d0 _ (RDT.out _ (Ex.refl _).drew) (RDU.out _ (Ex.refl _).drew) hn hm) ?_; rintro r wa ⟨rfl, hwa⟩; refine ⟨_, rfl, ?_⟩; clear m0 m1 m2 m3 m4 m5 m6 m7; have hxa := Ex.trans (Ex.refl _).drew hwa; obtain ⟨mwa0, mwa1, mwa2, mwa3, mwa4, mwa5, mwa6, mwa7⟩ := FK.out wa hxa) | (refine step_call_g rfl CE2.out _ _ rfl #[.agg #[.int .i64 u.count, .int .i64 u.next, .int .i64 u.round, .slice B0 u.owns.length d0], .agg #[.int .i64 t.count, .int .i64 t.next, .int .i64 t.round, .slice A0 t.owns.length c0]] rfl (CS2.out B0 A0 d0 c0 _ (RDU.out _ hxa) (RDT.out _ hxa) hm hn) ?_; rintro r wb ⟨rfl, hwb⟩; refine ⟨_, rfl, ?_⟩; clear mwa0 mwa1 mwa2 mwa3 mwa4 mwa5 mwa6 mwa7; have hxb := Ex.trans hxa hwb; obtain ⟨mwb0, mwb1, mwb2, mwb3, mwb4, mwb5, mwb6, mwb7⟩ := FK.out wb hxb) | (refine step_call_g rfl CE2.out _ _ rfl #[.agg #[.int .i64 t.count, .int .i64 t.next, .int .i64 t.round, .slice A0 t.owns.length c0], .agg #[.int .i64 t.count, .int .i64 t.next, .int .i64 t.round, .slice A0 t.owns.length c0]] rfl (CS3.out A0 A0 c0 c0 _ (RDT.out _ hxb) (RDT.out _ hxb) hn hn) ?_; rintro r wc ⟨rfl, hwc⟩; refine ⟨_, rfl, ?_⟩; clear mwb0 mwb1 mwb2 mwb3 mwb4 mwb5 mwb6 mwb7; have hxc := Ex.trans hxb hwc; obtain ⟨mwc0, mwc1, mwc2, mwc3, mwc4, mwc5, mwc6, mwc7⟩ := FK.out wc hxc))
    all_goals
      go_wp2
      go_ret
      exact ⟨rfl, Ew1.out.trans hxc⟩
  have hvv := HVV.out rfl
  rw [hvv] at CV2
  clear hvv
  generalize tagsV t = vt at CV1 CV2 HVV
  cases vt
  all_goals
    go_wp2_with fail
    go_region_held3 (fun w' => (w'.cell? ⟨w0.heap.size, 0, none⟩ = some (.int .i64 t.count) ∧ w'.cell? ⟨w0.heap.size, 1, none⟩ = some (.int .i64 t.next) ∧ w'.cell? ⟨w0.heap.size, 2, none⟩ = some (.int .i64 t.round) ∧ w'.cell? ⟨w0.heap.size, 3, none⟩ = some (.slice A0 t.owns.length c0) ∧ w'.cell? ⟨w0.heap.size + 1, 0, none⟩ = some (.int .i64 u.count) ∧ w'.cell? ⟨w0.heap.size + 1, 1, none⟩ = some (.int .i64 u.next) ∧ w'.cell? ⟨w0.heap.size + 1, 2, none⟩ = some (.int .i64 u.round) ∧ w'.cell? ⟨w0.heap.size + 1, 3, none⟩ = some (.slice B0 u.owns.length d0))) ((refine FK.out _ ?_; with_reducible (first | exact Ex.refl _ | exact (Ex.refl _).drew | exact hxa | exact hxb | exact hxc | exact hxd | exact hxe))) (first | (go_at_call 9; (with_reducible refine (CS1.out A0 B0 c0 d0 _ ?_ ?_ hn hm).mono ?_); (with_reducible exact RDT.out _ (Ex.refl _).drew); (with_reducible exact RDU.out _ (Ex.refl _).drew); rintro r wa ⟨rfl, hwa⟩; have hxa := Ex.trans (Ex.refl _).drew hwa) | (go_at_call 8; (with_reducible refine (CS2.out B0 A0 d0 c0 _ ?_ ?_ hm hn).mono ?_); (with_reducible exact RDU.out _ hxa); (with_reducible exact RDT.out _ hxa); rintro r wb ⟨rfl, hwb⟩; have hxb := Ex.trans hxa hwb) | (go_at_call 8; (with_reducible refine (CS3.out A0 A0 c0 c0 _ ?_ ?_ hn hn).mono ?_); (with_reducible exact RDT.out _ hxb); (with_reducible exact RDT.out _ hxb); rintro r wc ⟨rfl, hwc⟩; have hxc := Ex.trans hxb hwc) | (go_at_call 10; (with_reducible refine (CV1.out A0 c0 _ ?_ hn hle1).mono ?_); (with_reducible exact RDT.out _ hxc); rintro r wd ⟨rfl, hwd⟩; have hxd := Ex.trans hxc hwd) | (go_at_call 10; (with_reducible refine (CV2.out B0 d0 _ ?_ hm hle2).mono ?_); (with_reducible exact RDU.out _ hxd); rintro r we ⟨rfl, hwe⟩; have hxe := Ex.trans hxd hwe))
    rename_i hHeld
    clear hHeld
    go_wp2
    go_ret
    exact ⟨rfl, Ew1.out.trans hxe⟩
end Go.Proofs.Ytidnefcnojedoaa
