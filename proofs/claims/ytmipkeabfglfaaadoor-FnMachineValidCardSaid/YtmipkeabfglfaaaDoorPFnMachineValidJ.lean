/- Whatever the code, the law FnMachineValid returns true, and its argument and the listed variable read as before; the variable starts as the program lays it (tied). -/
import Derived.Test.YtmipkeabfglfaaaDoorCards
import Derived.Test.YtmipkeabfglfaaaDoorTie
import Derived.SevenTiedAt
import Derived.Test.YtmipkeabfglfaaaDoorJ10
import Derived.Test.YtmipkeabfglfaaaDoorJ9
import Derived.Test.YtmipkeabfglfaaaDoorJ11
import Derived.Test.YtmipkeabfglfaaaDoorJ3
import Derived.Test.YtmipkeabfglfaaaDoorJ1
/- Drawn machines: the argument of MachineValid. -/
namespace Go.Proofs.YtmipkeabfglfaaaDoor
open Go.ChangeShapes Go.WideShapes Go.ChangeAt Go.RowKit
open Rec (sz cs)
set_option linter.unusedVariables false
set_option maxRecDepth 100000

def DrawnMach (k : Nat) (w : World) (e : Ending) (w' : World) : Prop := ∃ (m : MachD) (a : MA), e = .returned (.agg #[.slice a.b m.table.buckets.length a.bc, .slice a.f m.table.frames.length a.fc, .slice a.l m.cache.lines.length a.lc, .int .i64 m.cache.hand, .int .i64 m.tags.count, .int .i64 m.tags.next, .int .i64 m.tags.round, .slice a.o m.tags.owns.length a.oc, .int .i64 m.space]) ∧ FewB m k ∧ FrM w' w.heap.size m a ∧ Ex w w'

set_option maxHeartbeats 4000000 in
theorem drawMachineValid_c (A : Option Addr) (c : Nat) (bs : List ByteD) (w : World) (hx : Rd w A bs) (hb : Bytes bs) (hn : bs.length ≤ 1048576) (hc : bs.length ≤ c) (hcm : c ≤ maxLen) :
    Calls Tryd.prog 16 #[.slice A bs.length c] w (DrawnMach 22 w) := by
  have C1 := Lib.hid (fun w' (h : Ex w w') => l12Open_c A c bs w' (hx.ex h) hb hn hc hcm)
  generalize bs.length = n at C1 hn hc
  clear hx hb hn hc hcm
  go_enter Tryd.func16, Tryd.ntmps16
  go_wp2_with fail
  refine name_calls ?_; intro v1 hv1
  have X1 : Hid (Chg (0) (0) w v1) := Lib.hid (by rw [hv1]; repeat' (first | with_reducible exact Chg.refl _ _ _ | with_reducible refine Chg.alloc ?_ _ | with_reducible refine Chg.drew ?_ | with_reducible refine Chg.set ?_ (by omega) _))
  have t1 : w.heap.size ≤ v1.heap.size := X1.out.size
  have Ev1 : Hid (Ex w v1) := Lib.hid ((Ex.refl w).chg X1.out (by omega))
  have KR : Hid (Blk v1 (w.heap.size) 34 [.slice none 0 0, .slice none 0 0, .slice none 0 0, .int .i64 0, .int .i64 0, .int .i64 0, .int .i64 0, .slice none 0 0, .int .i64 0]) := Lib.hid (by rw [hv1]; repeat' (first | with_reducible exact Blk.new_at _ _ _ (by simp) | with_reducible refine Blk.alloc ?_ _ | with_reducible refine Blk.drew ?_ | with_reducible refine Blk.far ?_ (by simp; omega) _))
  have lR : w.heap.size < v1.heap.size := KR.out.lt
  clear hv1
  refine (C1.out _ Ev1.out).mono ?_; rintro r w1 ⟨g, rfl, hrd1, hg1, hb1⟩
  have Y1 : Hid (Chg 0 0 v1 w1) := Lib.hid (Chg.of_ex hb1)
  have s1 : v1.heap.size ≤ w1.heap.size := Y1.out.size
  have Ew1 : Hid (Ex w w1) := Lib.hid (Ev1.out.chg Y1.out (by omega))
  clear hb1
  replace KR := Lib.hid (KR.out.chg Y1.out (by omega))
  have HRD1 := Lib.hid hrd1; clear hrd1
  obtain ⟨qR0, qR1, qR2, qR3, qR4, qR5, qR6, qR7, qR8⟩ := KR.out.c9
  have jR := KR.out.lt
  have zR := KR.out.frozen
  have lg := HRD1.out.lt
  go_wp2_with fail
  refine name_calls ?_; intro v2 hv2
  have X2 : Hid (Chg (0) (0) w1 v2) := Lib.hid (by rw [hv2]; repeat' (first | with_reducible exact Chg.refl _ _ _ | with_reducible refine Chg.alloc ?_ _ | with_reducible refine Chg.drew ?_ | with_reducible refine Chg.set ?_ (by omega) _))
  have t2 : w1.heap.size ≤ v2.heap.size := X2.out.size
  have Ev2 : Hid (Ex w v2) := Lib.hid (Ew1.out.chg X2.out (by omega))
  clear qR0 qR1 qR2 qR3 qR4 qR5 qR6 qR7 qR8 jR zR
  replace KR := Lib.hid (KR.out.chg X2.out (by omega))
  replace HRD1 := Lib.hid (HRD1.out.chg X2.out (by omega))
  clear hv2
  refine (l6Draw_c g 0 _ HRD1.out (by omega)).mono ?_; rintro r w2 ⟨m2, a2, p2, rfl, hm2, ⟨hfa, hfb, hfc, hfd⟩, hrd2, hp2, hb2⟩
  have Y2 : Hid (Chg (g) (g + 1) v2 w2) := Lib.hid (Chg.of_grown hb2 (fun b hb => by injection hb with hb; omega))
  have s2 : v2.heap.size ≤ w2.heap.size := Y2.out.size
  have Ew2 : Hid (Ex w w2) := Lib.hid (Ev2.out.chg Y2.out (by omega))
  clear hb2
  replace KR := Lib.hid (KR.out.chg Y2.out (by omega))
  clear HRD1
  have HFA := Lib.hid hfa; clear hfa
  have WHFA := Lib.hid HFA.out.row
  have HFB := Lib.hid hfb; clear hfb
  have WHFB := Lib.hid HFB.out.row
  have HFC := Lib.hid hfc; clear hfc
  have WHFC := Lib.hid HFC.out.row
  have HFD := Lib.hid hfd; clear hfd
  have WHFD := Lib.hid HFD.out.row
  have HRD2 := Lib.hid hrd2; clear hrd2
  obtain ⟨qR0, qR1, qR2, qR3, qR4, qR5, qR6, qR7, qR8⟩ := KR.out.c9
  have jR := KR.out.lt
  have zR := KR.out.frozen
  have HM2 := Lib.hid hm2.fewB
  clear hm2
  go_wp2_with fail
  refine name_calls ?_; intro v3 hv3
  have X3 : Hid (Chg (0) (0) w2 v3) := Lib.hid (by rw [hv3]; repeat' (first | with_reducible exact Chg.refl _ _ _ | with_reducible refine Chg.alloc ?_ _ | with_reducible refine Chg.drew ?_ | with_reducible refine Chg.set ?_ (by omega) _))
  have t3 : w2.heap.size ≤ v3.heap.size := X3.out.size
  have Ev3 : Hid (Ex w v3) := Lib.hid (Ew2.out.chg X3.out (by omega))
  clear qR0 qR1 qR2 qR3 qR4 qR5 qR6 qR7 qR8 jR zR
  replace KR := Lib.hid (KR.out.chg X3.out (by omega))
  replace HFA := Lib.hid (HFA.out.chg X3.out WHFA.out (by omega))
  replace HFB := Lib.hid (HFB.out.chg X3.out WHFB.out (by omega))
  replace HFC := Lib.hid (HFC.out.chg X3.out WHFC.out (by omega))
  replace HFD := Lib.hid (HFD.out.chg X3.out WHFD.out (by omega))
  replace HRD2 := Lib.hid (HRD2.out.chg X3.out (by omega))
  clear hv3
  refine (l6Wrong_c g p2 _ 16 m2 a2 _ HRD2.out (by omega) HM2.out (by omega) ⟨HFA.out, HFB.out, HFC.out, HFD.out⟩).mono ?_; rintro r w3 ⟨m3, a3, p3, rfl, hm3, ⟨hfe, hff, hfg, hfh⟩, hrd3, hp3, hb3⟩
  have Y3 : Hid (Chg (g) (g + 1) v3 w3) := Lib.hid (Chg.of_grown hb3 (fun b hb => by injection hb with hb; omega))
  have s3 : v3.heap.size ≤ w3.heap.size := Y3.out.size
  have Ew3 : Hid (Ex w w3) := Lib.hid (Ev3.out.chg Y3.out (by omega))
  clear hb3
  replace KR := Lib.hid (KR.out.chg Y3.out (by omega))
  replace HFA := Lib.hid (HFA.out.chg Y3.out WHFA.out (by omega))
  replace HFB := Lib.hid (HFB.out.chg Y3.out WHFB.out (by omega))
  replace HFC := Lib.hid (HFC.out.chg Y3.out WHFC.out (by omega))
  replace HFD := Lib.hid (HFD.out.chg Y3.out WHFD.out (by omega))
  clear HRD2
  have HFE := Lib.hid hfe; clear hfe
  have WHFE := Lib.hid HFE.out.row
  have HFF := Lib.hid hff; clear hff
  have WHFF := Lib.hid HFF.out.row
  have HFG := Lib.hid hfg; clear hfg
  have WHFG := Lib.hid HFG.out.row
  have HFH := Lib.hid hfh; clear hfh
  have WHFH := Lib.hid HFH.out.row
  have HRD3 := Lib.hid hrd3; clear hrd3
  obtain ⟨qR0, qR1, qR2, qR3, qR4, qR5, qR6, qR7, qR8⟩ := KR.out.c9
  have jR := KR.out.lt
  have zR := KR.out.frozen
  have HM3 := Lib.hid hm3
  clear hm3
  go_wp2_with fail
  refine name_calls ?_; intro v4 hv4
  have X4 : Hid (Chg (0) (0) w3 v4) := Lib.hid (by rw [hv4]; repeat' (first | with_reducible exact Chg.refl _ _ _ | with_reducible refine Chg.alloc ?_ _ | with_reducible refine Chg.drew ?_ | with_reducible refine Chg.set ?_ (by omega) _))
  have t4 : w3.heap.size ≤ v4.heap.size := X4.out.size
  have Ev4 : Hid (Ex w v4) := Lib.hid (Ew3.out.chg X4.out (by omega))
  clear qR0 qR1 qR2 qR3 qR4 qR5 qR6 qR7 qR8 jR zR
  replace KR := Lib.hid (KR.out.chg X4.out (by omega))
  replace HFA := Lib.hid (HFA.out.chg X4.out WHFA.out (by omega))
  replace HFB := Lib.hid (HFB.out.chg X4.out WHFB.out (by omega))
  replace HFC := Lib.hid (HFC.out.chg X4.out WHFC.out (by omega))
  replace HFD := Lib.hid (HFD.out.chg X4.out WHFD.out (by omega))
  replace HFE := Lib.hid (HFE.out.chg X4.out WHFE.out (by omega))
  replace HFF := Lib.hid (HFF.out.chg X4.out WHFF.out (by omega))
  replace HFG := Lib.hid (HFG.out.chg X4.out WHFG.out (by omega))
  replace HFH := Lib.hid (HFH.out.chg X4.out WHFH.out (by omega))
  replace HRD3 := Lib.hid (HRD3.out.chg X4.out (by omega))
  clear hv4
  refine (l6Wrong_c g p3 _ 18 m3 a3 _ HRD3.out (by omega) HM3.out (by omega) ⟨HFE.out, HFF.out, HFG.out, HFH.out⟩).mono ?_; rintro r w4 ⟨m4, a4, p4, rfl, hm4, ⟨hfi, hfj, hfk, hfl⟩, hrd4, hp4, hb4⟩
  have Y4 : Hid (Chg (g) (g + 1) v4 w4) := Lib.hid (Chg.of_grown hb4 (fun b hb => by injection hb with hb; omega))
  have s4 : v4.heap.size ≤ w4.heap.size := Y4.out.size
  have Ew4 : Hid (Ex w w4) := Lib.hid (Ev4.out.chg Y4.out (by omega))
  clear hb4
  replace KR := Lib.hid (KR.out.chg Y4.out (by omega))
  replace HFA := Lib.hid (HFA.out.chg Y4.out WHFA.out (by omega))
  replace HFB := Lib.hid (HFB.out.chg Y4.out WHFB.out (by omega))
  replace HFC := Lib.hid (HFC.out.chg Y4.out WHFC.out (by omega))
  replace HFD := Lib.hid (HFD.out.chg Y4.out WHFD.out (by omega))
  replace HFE := Lib.hid (HFE.out.chg Y4.out WHFE.out (by omega))
  replace HFF := Lib.hid (HFF.out.chg Y4.out WHFF.out (by omega))
  replace HFG := Lib.hid (HFG.out.chg Y4.out WHFG.out (by omega))
  replace HFH := Lib.hid (HFH.out.chg Y4.out WHFH.out (by omega))
  clear HRD3
  have HFI := Lib.hid hfi; clear hfi
  have WHFI := Lib.hid HFI.out.row
  have HFJ := Lib.hid hfj; clear hfj
  have WHFJ := Lib.hid HFJ.out.row
  have HFK := Lib.hid hfk; clear hfk
  have WHFK := Lib.hid HFK.out.row
  have HFL := Lib.hid hfl; clear hfl
  have WHFL := Lib.hid HFL.out.row
  have HRD4 := Lib.hid hrd4; clear hrd4
  obtain ⟨qR0, qR1, qR2, qR3, qR4, qR5, qR6, qR7, qR8⟩ := KR.out.c9
  have jR := KR.out.lt
  have zR := KR.out.frozen
  have HM4 := Lib.hid hm4
  clear hm4
  go_wp2_with fail
  refine name_calls ?_; intro v5 hv5
  have X5 : Hid (Chg (0) (0) w4 v5) := Lib.hid (by rw [hv5]; repeat' (first | with_reducible exact Chg.refl _ _ _ | with_reducible refine Chg.alloc ?_ _ | with_reducible refine Chg.drew ?_ | with_reducible refine Chg.set ?_ (by omega) _))
  have t5 : w4.heap.size ≤ v5.heap.size := X5.out.size
  have Ev5 : Hid (Ex w v5) := Lib.hid (Ew4.out.chg X5.out (by omega))
  clear qR0 qR1 qR2 qR3 qR4 qR5 qR6 qR7 qR8 jR zR
  replace KR := Lib.hid (KR.out.chg X5.out (by omega))
  replace HFA := Lib.hid (HFA.out.chg X5.out WHFA.out (by omega))
  replace HFB := Lib.hid (HFB.out.chg X5.out WHFB.out (by omega))
  replace HFC := Lib.hid (HFC.out.chg X5.out WHFC.out (by omega))
  replace HFD := Lib.hid (HFD.out.chg X5.out WHFD.out (by omega))
  replace HFE := Lib.hid (HFE.out.chg X5.out WHFE.out (by omega))
  replace HFF := Lib.hid (HFF.out.chg X5.out WHFF.out (by omega))
  replace HFG := Lib.hid (HFG.out.chg X5.out WHFG.out (by omega))
  replace HFH := Lib.hid (HFH.out.chg X5.out WHFH.out (by omega))
  replace HFI := Lib.hid (HFI.out.chg X5.out WHFI.out (by omega))
  replace HFJ := Lib.hid (HFJ.out.chg X5.out WHFJ.out (by omega))
  replace HFK := Lib.hid (HFK.out.chg X5.out WHFK.out (by omega))
  replace HFL := Lib.hid (HFL.out.chg X5.out WHFL.out (by omega))
  replace HRD4 := Lib.hid (HRD4.out.chg X5.out (by omega))
  clear hv5
  refine (l6Wrong_c g p4 _ 20 m4 a4 _ HRD4.out (by omega) HM4.out (by omega) ⟨HFI.out, HFJ.out, HFK.out, HFL.out⟩).mono ?_; rintro r w5 ⟨m5, a5, p5, rfl, hm5, ⟨hfm, hfn, hfo, hfp⟩, hrd5, hp5, hb5⟩
  have Y5 : Hid (Chg (g) (g + 1) v5 w5) := Lib.hid (Chg.of_grown hb5 (fun b hb => by injection hb with hb; omega))
  have s5 : v5.heap.size ≤ w5.heap.size := Y5.out.size
  have Ew5 : Hid (Ex w w5) := Lib.hid (Ev5.out.chg Y5.out (by omega))
  clear hb5
  replace KR := Lib.hid (KR.out.chg Y5.out (by omega))
  replace HFA := Lib.hid (HFA.out.chg Y5.out WHFA.out (by omega))
  replace HFB := Lib.hid (HFB.out.chg Y5.out WHFB.out (by omega))
  replace HFC := Lib.hid (HFC.out.chg Y5.out WHFC.out (by omega))
  replace HFD := Lib.hid (HFD.out.chg Y5.out WHFD.out (by omega))
  replace HFE := Lib.hid (HFE.out.chg Y5.out WHFE.out (by omega))
  replace HFF := Lib.hid (HFF.out.chg Y5.out WHFF.out (by omega))
  replace HFG := Lib.hid (HFG.out.chg Y5.out WHFG.out (by omega))
  replace HFH := Lib.hid (HFH.out.chg Y5.out WHFH.out (by omega))
  replace HFI := Lib.hid (HFI.out.chg Y5.out WHFI.out (by omega))
  replace HFJ := Lib.hid (HFJ.out.chg Y5.out WHFJ.out (by omega))
  replace HFK := Lib.hid (HFK.out.chg Y5.out WHFK.out (by omega))
  replace HFL := Lib.hid (HFL.out.chg Y5.out WHFL.out (by omega))
  clear HRD4
  have HFM := Lib.hid hfm; clear hfm
  have WHFM := Lib.hid HFM.out.row
  have HFN := Lib.hid hfn; clear hfn
  have WHFN := Lib.hid HFN.out.row
  have HFO := Lib.hid hfo; clear hfo
  have WHFO := Lib.hid HFO.out.row
  have HFP := Lib.hid hfp; clear hfp
  have WHFP := Lib.hid HFP.out.row
  have HRD5 := Lib.hid hrd5; clear hrd5
  obtain ⟨qR0, qR1, qR2, qR3, qR4, qR5, qR6, qR7, qR8⟩ := KR.out.c9
  have jR := KR.out.lt
  have zR := KR.out.frozen
  have HM5 := Lib.hid hm5
  clear hm5
  go_wp2
  exact bodyPost_ret (v := .agg #[.slice a5.b m5.table.buckets.length a5.bc, .slice a5.f m5.table.frames.length a5.fc, .slice a5.l m5.cache.lines.length a5.lc, .int .i64 m5.cache.hand, .int .i64 m5.tags.count, .int .i64 m5.tags.next, .int .i64 m5.tags.round, .slice a5.o m5.tags.owns.length a5.oc, .int .i64 m5.space]) (by simp [results, Tryd.results16, go_sem, *]) rfl
    ⟨m5, a5, rfl, HM5.out, ⟨(Fr.mono (B := v5.heap.size) (by repeat' (first | with_reducible exact HFM.out | with_reducible refine Fr.alloc ?_ _ | with_reducible refine Fr.put ?_ (fun b hb => by have := WHFM.out b hb; omega) _)) (by omega)), (Fr.mono (B := v5.heap.size) (by repeat' (first | with_reducible exact HFN.out | with_reducible refine Fr.alloc ?_ _ | with_reducible refine Fr.put ?_ (fun b hb => by have := WHFN.out b hb; omega) _)) (by omega)), (Fr.mono (B := v5.heap.size) (by repeat' (first | with_reducible exact HFO.out | with_reducible refine Fr.alloc ?_ _ | with_reducible refine Fr.put ?_ (fun b hb => by have := WHFO.out b hb; omega) _)) (by omega)), (Fr.mono (B := v5.heap.size) (by repeat' (first | with_reducible exact HFP.out | with_reducible refine Fr.alloc ?_ _ | with_reducible refine Fr.put ?_ (fun b hb => by have := WHFP.out b hb; omega) _)) (by omega))⟩, (by repeat' (first | with_reducible exact Ew5.out | with_reducible refine Ex.alloc ?_ _ | with_reducible refine Ex.drew ?_ | with_reducible refine Ex.put ?_ (by omega) _))⟩
end Go.Proofs.YtmipkeabfglfaaaDoor
/- The law FnMachineValid: the walk. -/
namespace Go.Proofs.YtmipkeabfglfaaaDoor
open Go.ChangeShapes Go.WideShapes Go.ChangeAt Go.RowKit
open Rec (sz cs)
set_option linter.unusedVariables false
set_option maxRecDepth 100000

set_option maxHeartbeats 16000000 in
theorem walk_FnMachineValid (A : Option Addr) (n c : Nat) (bs : List ByteD) (w : World) (hr : Rd w A bs) (hc : Bytes bs ∧ bs.length = n ∧ n ≤ c ∧ c ≤ maxLen) (hv : FreeV w) :
    Calls Tryd.prog 5 #[.slice A n c] w fun r w' => r = .returned (.bool true) ∧ Ex w w' := by
  have HV := Lib.hid hv
  clear hv
  obtain ⟨hb, rfl, hnc, hcm⟩ := hc
  by_cases hbig : 1048576 < bs.length
  · have hbig' : (1048576 : Int) < (bs.length : Int) := by omega
    unfold maxLen at hcm
    generalize bs.length = n at *
    go_enter Tryd.func5, Tryd.ntmps5
    go_wp2
    go_ret
    exact ⟨rfl, Ex.refl _⟩
  have hsm : ¬ (1048576 : Int) < (bs.length : Int) := by omega
  have C0 := Lib.hid (fun w' (h : Ex w w') => drawMachineValid_c A c bs w' (hr.ex h) hb (by omega) hnc hcm)
  have hcm' := hcm
  unfold maxLen at hcm'
  generalize bs.length = n at *
  clear hr hb hcm
  go_enter Tryd.func5, Tryd.ntmps5
  go_wp2_with fail
  refine name_calls ?_; intro v0 hv0
  have X0 : Hid (Chg (0) (0) w v0) := Lib.hid (by rw [hv0]; repeat' (first | with_reducible exact Chg.refl _ _ _ | with_reducible refine Chg.alloc ?_ _ | with_reducible refine Chg.drew ?_ | with_reducible refine Chg.set ?_ (by omega) _))
  have t0 : w.heap.size ≤ v0.heap.size := X0.out.size
  have Ev0 : Hid (Ex w v0) := Lib.hid ((Ex.refl w).chg X0.out (by omega))
  clear hv0
  refine (C0.out _ Ev0.out).mono ?_; rintro r w0 ⟨m, a, rfl, hm, ⟨hfa, hfb, hfc, hfd⟩, hb0⟩
  have Y0 : Hid (Chg 0 0 v0 w0) := Lib.hid (Chg.of_ex hb0)
  have s0 : v0.heap.size ≤ w0.heap.size := Y0.out.size
  have Ew0 : Hid (Ex w w0) := Lib.hid (Ev0.out.chg Y0.out (by omega))
  clear hb0
  have HFA := Lib.hid hfa; clear hfa
  have WHFA := Lib.hid HFA.out.row
  have HFB := Lib.hid hfb; clear hfb
  have WHFB := Lib.hid HFB.out.row
  have HFC := Lib.hid hfc; clear hfc
  have WHFC := Lib.hid HFC.out.row
  have HFD := Lib.hid hfd; clear hfd
  have WHFD := Lib.hid HFD.out.row
  have HFW : Hid (FewM m) := Lib.hid (hm.few (by omega))
  have hl8 := hm.l
  clear hm
  have HAS : Hid (∀ w', Ex w0 w' → HasM w' m a) := Lib.hid (fun w' h => ⟨HFA.out.rd.ex h, HFB.out.rd.ex h, HFC.out.rd.ex h, HFD.out.rd.ex h⟩)
  have HCAP : Hid (CapM m a) := Lib.hid ⟨HFA.out.le, HFB.out.le, HFC.out.le, HFD.out.le⟩
  have CI := Lib.hid (fun w' (h : HasM w' m a) (hv : FreeV w') => machI_c m a w' h HFW.out HCAP.out hv)
  have CS := Lib.hid (fun w' (h : HasM w' m a) => machS_c m a w' h HFW.out HCAP.out)
  have CT := Lib.hid (fun w' (h : HasM w' m a) => tagOfI_c m.tags m.space a.o a.oc w' h.o HFW.out.o HCAP.out.o)
  have HMV : Hid (machV m = true → MachOk m) := Lib.hid (fun h => machV_iff.1 h)
  clear HFA WHFA
  clear HFB WHFB
  clear HFC WHFC
  clear HFD WHFD
  clear C0
  generalize machV m = mv at CI CS HMV
  cases mv
  · clear CT HMV
    go_wp2_with fail
    refine name_calls ?_; intro v1 hv1
    have X1 : Hid (Chg (0) (0) w0 v1) := Lib.hid (by rw [hv1]; repeat' (first | with_reducible exact Chg.refl _ _ _ | with_reducible refine Chg.alloc ?_ _ | with_reducible refine Chg.drew ?_ | with_reducible refine Chg.set ?_ (by omega) _))
    have t1 : w0.heap.size ≤ v1.heap.size := X1.out.size
    have Ev1 : Hid (Ex w v1) := Lib.hid (Ew0.out.chg X1.out (by omega))
    have KX : Hid (Blk v1 (w0.heap.size) 34 [.slice a.b m.table.buckets.length a.bc, .slice a.f m.table.frames.length a.fc, .slice a.l m.cache.lines.length a.lc, .int .i64 m.cache.hand, .int .i64 m.tags.count, .int .i64 m.tags.next, .int .i64 m.tags.round, .slice a.o m.tags.owns.length a.oc, .int .i64 m.space]) := Lib.hid (by rw [hv1]; repeat' (first | with_reducible exact Blk.new_at _ _ _ (by simp) | with_reducible refine Blk.alloc ?_ _ | with_reducible refine Blk.drew ?_ | with_reducible refine Blk.far ?_ (by simp; omega) _))
    have lX : w0.heap.size < v1.heap.size := KX.out.lt
    clear hv1
    refine (CI.out _ (HAS.out _ X1.out.ex_) (HV.out.ex Ev1.out)).mono ?_; rintro r w1 ⟨rfl, hb1⟩
    have Y1 : Hid (Chg 0 0 v1 w1) := Lib.hid (Chg.of_ex hb1)
    have s1 : v1.heap.size ≤ w1.heap.size := Y1.out.size
    have Ew1 : Hid (Ex w w1) := Lib.hid (Ev1.out.chg Y1.out (by omega))
    clear hb1
    replace KX := Lib.hid (KX.out.chg Y1.out (by omega))
    obtain ⟨qX0, qX1, qX2, qX3, qX4, qX5, qX6, qX7, qX8⟩ := KX.out.c9
    have jX := KX.out.lt
    go_wp2_with fail
    refine name_calls ?_; intro v2 hv2
    have X2 : Hid (Chg (0) (0) w1 v2) := Lib.hid (by rw [hv2]; repeat' (first | with_reducible exact Chg.refl _ _ _ | with_reducible refine Chg.alloc ?_ _ | with_reducible refine Chg.drew ?_ | with_reducible refine Chg.set ?_ (by omega) _))
    have t2 : w1.heap.size ≤ v2.heap.size := X2.out.size
    have Ev2 : Hid (Ex w v2) := Lib.hid (Ew1.out.chg X2.out (by omega))
    clear qX0 qX1 qX2 qX3 qX4 qX5 qX6 qX7 qX8 jX
    replace KX := Lib.hid (KX.out.chg X2.out (by omega))
    clear hv2
    refine (CS.out _ (HAS.out _ (X1.out.ex_.trans (Y1.out.ex_.trans X2.out.ex_)))).mono ?_; rintro r w2 ⟨rfl, hb2⟩
    have Y2 : Hid (Chg 0 0 v2 w2) := Lib.hid (Chg.of_ex hb2)
    have s2 : v2.heap.size ≤ w2.heap.size := Y2.out.size
    have Ew2 : Hid (Ex w w2) := Lib.hid (Ev2.out.chg Y2.out (by omega))
    clear hb2
    replace KX := Lib.hid (KX.out.chg Y2.out (by omega))
    obtain ⟨qX0, qX1, qX2, qX3, qX4, qX5, qX6, qX7, qX8⟩ := KX.out.c9
    have jX := KX.out.lt
    go_wp2_with fail
    refine name_calls ?_; intro v3 hv3
    have X3 : Hid (Chg (0) (0) w2 v3) := Lib.hid (by rw [hv3]; repeat' (first | with_reducible exact Chg.refl _ _ _ | with_reducible refine Chg.alloc ?_ _ | with_reducible refine Chg.drew ?_ | with_reducible refine Chg.set ?_ (by omega) _))
    have t3 : w2.heap.size ≤ v3.heap.size := X3.out.size
    have Ev3 : Hid (Ex w v3) := Lib.hid (Ew2.out.chg X3.out (by omega))
    clear qX0 qX1 qX2 qX3 qX4 qX5 qX6 qX7 qX8 jX
    replace KX := Lib.hid (KX.out.chg X3.out (by omega))
    clear hv3
    refine (CS.out _ (HAS.out _ (X1.out.ex_.trans (Y1.out.ex_.trans (X2.out.ex_.trans (Y2.out.ex_.trans X3.out.ex_)))))).mono ?_; rintro r w3 ⟨rfl, hb3⟩
    have Y3 : Hid (Chg 0 0 v3 w3) := Lib.hid (Chg.of_ex hb3)
    have s3 : v3.heap.size ≤ w3.heap.size := Y3.out.size
    have Ew3 : Hid (Ex w w3) := Lib.hid (Ev3.out.chg Y3.out (by omega))
    clear hb3
    replace KX := Lib.hid (KX.out.chg Y3.out (by omega))
    obtain ⟨qX0, qX1, qX2, qX3, qX4, qX5, qX6, qX7, qX8⟩ := KX.out.c9
    have jX := KX.out.lt
    go_wp2
    go_ret
    exact ⟨rfl, Ew3.out⟩
  have HMO := Lib.hid (HMV.out rfl)
  have HTO : Hid ((tagOf m.tags m.space).2 = true) := Lib.hid (by unfold tagOf; rw [if_pos ⟨HMO.out.1.2.2.1, HMO.out.1.2.2.2⟩])
  generalize tagOf m.tags m.space = tg at CT HTO
  obtain ⟨tg, tb⟩ := tg
  obtain rfl : tb = true := HTO.out
  dsimp only at CT
  clear HMV HTO
  go_wp2_with fail
  refine name_calls ?_; intro v1 hv1
  have X1 : Hid (Chg (0) (0) w0 v1) := Lib.hid (by rw [hv1]; repeat' (first | with_reducible exact Chg.refl _ _ _ | with_reducible refine Chg.alloc ?_ _ | with_reducible refine Chg.drew ?_ | with_reducible refine Chg.set ?_ (by omega) _))
  have t1 : w0.heap.size ≤ v1.heap.size := X1.out.size
  have Ev1 : Hid (Ex w v1) := Lib.hid (Ew0.out.chg X1.out (by omega))
  have KX : Hid (Blk v1 (w0.heap.size) 34 [.slice a.b m.table.buckets.length a.bc, .slice a.f m.table.frames.length a.fc, .slice a.l m.cache.lines.length a.lc, .int .i64 m.cache.hand, .int .i64 m.tags.count, .int .i64 m.tags.next, .int .i64 m.tags.round, .slice a.o m.tags.owns.length a.oc, .int .i64 m.space]) := Lib.hid (by rw [hv1]; repeat' (first | with_reducible exact Blk.new_at _ _ _ (by simp) | with_reducible refine Blk.alloc ?_ _ | with_reducible refine Blk.drew ?_ | with_reducible refine Blk.far ?_ (by simp; omega) _))
  have lX : w0.heap.size < v1.heap.size := KX.out.lt
  clear hv1
  refine (CI.out _ (HAS.out _ X1.out.ex_) (HV.out.ex Ev1.out)).mono ?_; rintro r w1 ⟨rfl, hb1⟩
  have Y1 : Hid (Chg 0 0 v1 w1) := Lib.hid (Chg.of_ex hb1)
  have s1 : v1.heap.size ≤ w1.heap.size := Y1.out.size
  have Ew1 : Hid (Ex w w1) := Lib.hid (Ev1.out.chg Y1.out (by omega))
  clear hb1
  replace KX := Lib.hid (KX.out.chg Y1.out (by omega))
  obtain ⟨qX0, qX1, qX2, qX3, qX4, qX5, qX6, qX7, qX8⟩ := KX.out.c9
  have jX := KX.out.lt
  go_wp2_with fail
  refine name_calls ?_; intro v2 hv2
  have X2 : Hid (Chg (0) (0) w1 v2) := Lib.hid (by rw [hv2]; repeat' (first | with_reducible exact Chg.refl _ _ _ | with_reducible refine Chg.alloc ?_ _ | with_reducible refine Chg.drew ?_ | with_reducible refine Chg.set ?_ (by omega) _))
  have t2 : w1.heap.size ≤ v2.heap.size := X2.out.size
  have Ev2 : Hid (Ex w v2) := Lib.hid (Ew1.out.chg X2.out (by omega))
  clear qX0 qX1 qX2 qX3 qX4 qX5 qX6 qX7 qX8 jX
  replace KX := Lib.hid (KX.out.chg X2.out (by omega))
  clear hv2
  refine (CS.out _ (HAS.out _ (X1.out.ex_.trans (Y1.out.ex_.trans X2.out.ex_)))).mono ?_; rintro r w2 ⟨rfl, hb2⟩
  have Y2 : Hid (Chg 0 0 v2 w2) := Lib.hid (Chg.of_ex hb2)
  have s2 : v2.heap.size ≤ w2.heap.size := Y2.out.size
  have Ew2 : Hid (Ex w w2) := Lib.hid (Ev2.out.chg Y2.out (by omega))
  clear hb2
  replace KX := Lib.hid (KX.out.chg Y2.out (by omega))
  obtain ⟨qX0, qX1, qX2, qX3, qX4, qX5, qX6, qX7, qX8⟩ := KX.out.c9
  have jX := KX.out.lt
  have HAS2 : Hid (∀ w', Ex w2 w' → HasM w' m a) := Lib.hid (fun w' h => HAS.out _ (X1.out.ex_.trans (Y1.out.ex_.trans (X2.out.ex_.trans (Y2.out.ex_.trans h)))))
  have KXS := KX
  obtain ⟨nl, enl⟩ : ∃ nl, nl = m.cache.lines.length := ⟨_, rfl⟩
  have HNL := Lib.hid enl
  rw [← enl] at hl8
  clear CI CS HAS enl
  go_wp2
  go_loopw [5] (fun i wr => ∃ k : Nat, k ≤ nl ∧ i = .int .i64 k ∧ Ex w2 wr) (fun i _ => nl - (intOf i).toNat)
  case atStart => exact ⟨0, Nat.zero_le _, rfl, Ex.refl _⟩
  case round =>
    obtain ⟨k, hk, rfl, hq⟩ := hrel
    have HQ := Lib.hid hq
    have KX := Lib.hid (KXS.out.ex hq)
    clear qX0 qX1 qX2 qX3 qX4 qX5 qX6 qX7 qX8 jX hq
    obtain ⟨qX0, qX1, qX2, qX3, qX4, qX5, qX6, qX7, qX8⟩ := KX.out.c9
    have jX := KX.out.lt
    rw [← HNL.out] at qX2
    by_cases hlt : k < nl
    · obtain ⟨b3, o3, x, hA3, hb3, hxk, k0, k1, k2, k3, k4, k5⟩ := (HAS2.out _ HQ.out).l.line (k := k) (by have := HNL.out; omega)
      rw [hA3] at qX2
      clear hA3
      have HXK := Lib.hid hxk
      have hkn : (k : Int) < (nl : Int) := by omega
      have hk0 : ¬ (k : Int) < 0 := by omega
      cases hxv : x.valid
      · rw [hxv] at k0
        clear hxk hxv
        go_wp2_with fail
        go_quiet (fail)
        go_wp2
        go_roundw
        case rel => exact ⟨k + 1, by omega, by go_num, (HQ.out.alloc _).drewN _⟩
        case measure => simp [intOf]; omega
      · rw [hxv] at k0
        obtain ⟨i, f, e1, hfi, hu, hkey, hrt⟩ := (HMO.out.2.2 k x hxk hxv).frame
        have hpg : f.key.page = x.page := by rw [hkey, keyFor_page]
        obtain ⟨b2, o2, f', hA2, hb2, hfi', d0, d1, d2, d3, d4⟩ := (HAS2.out _ HQ.out).f.frame (k := i) (getElem?_lt hfi)
        obtain rfl : f' = f := by rw [hfi] at hfi'; injection hfi' with q; exact q.symm
        rw [hA2] at qX1
        clear hA2
        rw [hu] at d0
        rw [hpg] at d2
        rw [hrt] at d3
        rw [e1] at k3
        have hin : (i : Int) < (m.table.frames.length : Int) := by have := getElem?_lt hfi; omega
        have hi0 : ¬ (i : Int) < 0 := by omega
        have hge : decide (m.table.frames.length ≤ i) = false := by simp; omega
        have hpp : (x.page != x.page) = false := by simp
        have hrr : (x.rights != x.rights) = false := by simp
        clear hxk hxv e1 hfi hfi' hu hkey hrt hpg d1 d4
        go_wp2_with fail
        go_quiet (fail)
        go_wp2
        go_roundw
        case rel => exact ⟨k + 1, by omega, by go_num, (HQ.out.alloc _).drewN _⟩
        case measure => simp [intOf]; omega
    · obtain rfl : k = nl := by omega
      go_wp2_with fail
      refine (CT.out _ (HAS2.out _ HQ.out)).mono ?_
      rintro r w9 ⟨rfl, hb9⟩
      go_wp2
      go_ret
      exact ⟨rfl, (Ew2.out.trans HQ.out).trans hb9⟩
end Go.Proofs.YtmipkeabfglfaaaDoor
/- Whatever the code, the law FnMachineValid returns true, and its argument and the listed variable read as before; the variable starts as the program lays it (tied). -/
namespace Go.Proofs.YtmipkeabfglfaaaDoor
open Go.ChangeShapes Go.WideShapes Go.ChangeAt Go.WideMaps Go.WideElems Go.RowKit
set_option linter.unusedVariables false

set_option maxRecDepth 100000 in
theorem lifted_FnMachineValid (os : Os) (started : os.Started) (H : Type) (enc : TypeId × Value → H) :
    ReturnsInHanded {} Tryd.checked os 5 .any (fun w args => (Rows.fnMachineValidSpec.pre enc Tryd.prog Tryd.f5 [] false w args ∧ laidMetH Tryd.prog laidL w) ∧ sizedMet enc Tryd.prog Tryd.f5 (OpenSpec.ofChange Rows.fnMachineValidSpec) false w args)
      (Rows.fnMachineValidSpec.post enc Tryd.prog Tryd.f5 false true false false) := by
  refine returnsInHanded_of_change_and (C := Tryd.checked) (X := fun w _ => laidMetH Tryd.prog laidL w) (fun _ _ _ hh h => h.of_heap hh) ownRow started (by kernel_rfl) Tryd.func5
    (ChangeSpec.witness_shaped (enc := enc) (C := Tryd.checked) (os := os) (X := fun w _ => laidMetH Tryd.prog laidL w) false (World.doorLaid Tryd.prog 14 os) #[.slice none 0 0] 8 rfl (World.shaped_of_RefB (by kernel_rfl) (by kernel_rfl)) (by kernel_rfl) (by kernel_rfl) (by kernel_rfl) (door_met os _)) ?_
  intro W base args ds gs before hval0 hW _ _ hL _
  have hFV := free_of_laid hL
  have hval : ∀ (j : Nat) t v, Tryd.f5.params[j]? = some t → args[j]? = some v → Value.okWide Tryd.prog W .any base t v := hval0
  have hW' := hW
  obtain ⟨p, q, hA0, hV, rfl, hfz, hnd⟩ := hW
  have hA : DataW.TrodAll enc Tryd.prog W 0 (fun _ => true) true Tryd.f5.params.toList args.toList ds p := hA0
  rw [Tryd.params5] at hA hval
  obtain ⟨v0, vs0, d0, ds0, p0, q0, hargs, rfl, rfl, h0, r0⟩ := trodAll_cons hA
  obtain ⟨rfl, rfl, rfl⟩ := trodAll_nil r0
  obtain rfl : args = #[v0] := by cases args; simp_all
  obtain ⟨g9, t9, cs9, fuel9, d9, p9, rfl, -, -, -, -, -⟩ := trodVars_one (show DataW.TrodVars enc Tryd.prog W (fun _ => true) ["loop.example/invertedpages/impl.free"] gs q from hV)
  have k0 := h0
  have lt0 : ∀ x ∈ p0, x.block < W.heap.size := by obtain ⟨m, hm⟩ := k0; exact DataW.trod_lt m _ _ _ hm
  obtain ⟨A0, n0, c0, xs0, rfl, hr0, hc0⟩ := open_bytes (hval 0 22 v0 rfl rfl) h0
  clear hA0 hval0
  refine (walk_FnMachineValid A0 n0 c0 xs0 W hr0 hc0 hFV).mono fun e W' ⟨he, bel⟩ => ?_
  subst he
  exact ⟨_, rfl, _, _, _, [], _, _, hW', trodAll_mk1 (shut_bool Tryd.underlying4 _), (trodAll_cons_mk (Below.trod laidOutRow (by kernel_rfl) (of_decide_eq_true (by kernel_rfl)) k0 bel lt0) trodAll_mk0), Below.trodVars laidOutRow bel (by kernel_rfl) hV, Below.frame bel _, fun h => by cases h⟩

theorem name_FnMachineValid : Tryd.checked.prog.funcNamed Rows.fnMachineValidRow.func = some 5 := by kernel_rfl
theorem closed_FnMachineValid : joinedFacts Tryd.checked.prog 5 Tryd.f5 Rows.fnMachineValidSpec Rows.fnMachineValidRow = true := by
  simp only [joinedFacts, Bool.and_eq_true]
  refine ⟨⟨⟨⟨⟨⟨⟨⟨⟨⟨⟨⟨⟨⟨⟨⟨⟨⟨⟨⟨⟨⟨⟨⟨⟨⟨⟨⟨⟨⟨⟨?_, laidOutRow⟩, progMaps⟩, ?_⟩, ?_⟩, ?_⟩, ?_⟩, ?_⟩, ?_⟩, ?_⟩, ?_⟩, ?_⟩, ?_⟩, ?_⟩, ?_⟩, ?_⟩, ?_⟩, ?_⟩, ?_⟩, ?_⟩, ?_⟩, ?_⟩, ?_⟩, ?_⟩, progHeard⟩, progEnter⟩, (beq_iff_eq.2 progFinal.symm)⟩, (beq_iff_eq.2 progMake)⟩, ?_⟩, ?_⟩, ?_⟩, ?_⟩
  all_goals as_aux_lemma => kernel_rfl
theorem over_FnMachineValid : Rows.fnMachineValidRow.holds Tryd.pinned (OpenSpec.ofChange Rows.fnMachineValidSpec) :=
  OpenClaim.holds_of_wide 5 Tryd.f5 rfl rfl rfl rfl rfl rfl rfl ⟨rfl, rfl, rfl, rfl, rfl⟩ rfl rfl rfl rfl rfl name_FnMachineValid Tryd.func5 closed_FnMachineValid
    (of_decide_eq_true (by kernel_rfl)) (by unfold Func.isWrapper; first | (rw [if_pos (by decide +kernel)]; kernel_rfl) | (rw [if_neg (by decide +kernel)]; exact ⟨rfl, rfl⟩))
    (fun os started H enc _ => lifted_FnMachineValid os started H enc)

theorem FnMachineValid_proved : Rows.FnMachineValidCardSaid :=
  Claim7.holds_tied_plain_at .later [] [.data] true (true, "eb4041b2c36005855f9e566c05de5086646da593e3d0f80153a47b9da118316d") false
    over_FnMachineValid (fun _ h => by cases h) (by kernel_rfl) (fun _ h => by cases h) fnMachineValid_row_tie rfl ⟨rfl, rfl⟩ (by kernel_rfl) rfl
    (fun f fn hf hfn => by
      obtain rfl : f = 5 := Option.some.inj (name_FnMachineValid.symm.trans hf) |>.symm
      obtain rfl : fn = Tryd.f5 := (Option.some.inj (Tryd.func5.symm.trans hfn)).symm
      exact ⟨by kernel_rfl, fun j t ht => by
        rw [Tryd.params5] at ht
        have hm : t ∈ [22] := by have := Array.mem_of_getElem? ht; simpa using this
        have hall : ([22].all fun u => !Tryd.prog.wantsStandIn u) = true := by kernel_rfl
        exact (show Tryd.prog.wantsStandIn t = false by simpa using List.all_eq_true.1 hall t hm)⟩)
    (by kernel_rfl)
#print axioms FnMachineValid_proved
end Go.Proofs.YtmipkeabfglfaaaDoor
