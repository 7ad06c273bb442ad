/- Whatever the code, the law FnMachineSame returns true, and its argument and the listed variable read as before; the variable starts as the program lays it (tied). -/
import Derived.Deep.RegionHeld3
import Derived.Test.YtmipkeabfglfaaaDoorRows
import Derived.Test.YtmipkeabfglfaaaDoorCards
import Derived.Test.YtmipkeabfglfaaaDoorTie
import Derived.SevenTiedAt
import Derived.Test.YtmipkeabfglfaaaDoorJ10
import Derived.Test.YtmipkeabfglfaaaDoorJ9
import Derived.Test.YtmipkeabfglfaaaDoorJ3
import Derived.Test.YtmipkeabfglfaaaDoorJ1
import Derived.Test.YtmipkeabfglfaaaDoorJ11
import Derived.Test.YtmipkeabfglfaaaDoorJ2
/- Drawn machines: the argument of MachineValid. -/
namespace Go.Proofs.YtmipkeabfglfaaaDoor
open Go.ChangeShapes Go.WideShapes Go.ChangeAt Go.RowKit
open Rec (sz cs)
set_option linter.unusedVariables false
set_option maxRecDepth 100000

def DrawnMach (k : Nat) (w : World) (e : Ending) (w' : World) : Prop := ∃ (m : MachD) (a : MA), e = .returned (.agg #[.slice a.b m.table.buckets.length a.bc, .slice a.f m.table.frames.length a.fc, .slice a.l m.cache.lines.length a.lc, .int .i64 m.cache.hand, .int .i64 m.tags.count, .int .i64 m.tags.next, .int .i64 m.tags.round, .slice a.o m.tags.owns.length a.oc, .int .i64 m.space]) ∧ FewB m k ∧ FrM w' w.heap.size m a ∧ Ex w w'

set_option maxHeartbeats 4000000 in
theorem drawMachineValid_c (A : Option Addr) (c : Nat) (bs : List ByteD) (w : World) (hx : Rd w A bs) (hb : Bytes bs) (hn : bs.length ≤ 1048576) (hc : bs.length ≤ c) (hcm : c ≤ maxLen) :
    Calls Tryd.prog 16 #[.slice A bs.length c] w (DrawnMach 22 w) := by
  have C1 := Lib.hid (fun w' (h : Ex w w') => l12Open_c A c bs w' (hx.ex h) hb hn hc hcm)
  generalize bs.length = n at C1 hn hc
  clear hx hb hn hc hcm
  go_enter Tryd.func16, Tryd.ntmps16
  go_wp2_with fail
  refine name_calls ?_; intro v1 hv1
  have X1 : Hid (Chg (0) (0) w v1) := Lib.hid (by rw [hv1]; repeat' (first | with_reducible exact Chg.refl _ _ _ | with_reducible refine Chg.alloc ?_ _ | with_reducible refine Chg.drew ?_ | with_reducible refine Chg.set ?_ (by omega) _))
  have t1 : w.heap.size ≤ v1.heap.size := X1.out.size
  have Ev1 : Hid (Ex w v1) := Lib.hid ((Ex.refl w).chg X1.out (by omega))
  have KR : Hid (Blk v1 (w.heap.size) 34 [.slice none 0 0, .slice none 0 0, .slice none 0 0, .int .i64 0, .int .i64 0, .int .i64 0, .int .i64 0, .slice none 0 0, .int .i64 0]) := Lib.hid (by rw [hv1]; repeat' (first | with_reducible exact Blk.new_at _ _ _ (by simp) | with_reducible refine Blk.alloc ?_ _ | with_reducible refine Blk.drew ?_ | with_reducible refine Blk.far ?_ (by simp; omega) _))
  have lR : w.heap.size < v1.heap.size := KR.out.lt
  clear hv1
  refine (C1.out _ Ev1.out).mono ?_; rintro r w1 ⟨g, rfl, hrd1, hg1, hb1⟩
  have Y1 : Hid (Chg 0 0 v1 w1) := Lib.hid (Chg.of_ex hb1)
  have s1 : v1.heap.size ≤ w1.heap.size := Y1.out.size
  have Ew1 : Hid (Ex w w1) := Lib.hid (Ev1.out.chg Y1.out (by omega))
  clear hb1
  replace KR := Lib.hid (KR.out.chg Y1.out (by omega))
  have HRD1 := Lib.hid hrd1; clear hrd1
  obtain ⟨qR0, qR1, qR2, qR3, qR4, qR5, qR6, qR7, qR8⟩ := KR.out.c9
  have jR := KR.out.lt
  have zR := KR.out.frozen
  have lg := HRD1.out.lt
  go_wp2_with fail
  refine name_calls ?_; intro v2 hv2
  have X2 : Hid (Chg (0) (0) w1 v2) := Lib.hid (by rw [hv2]; repeat' (first | with_reducible exact Chg.refl _ _ _ | with_reducible refine Chg.alloc ?_ _ | with_reducible refine Chg.drew ?_ | with_reducible refine Chg.set ?_ (by omega) _))
  have t2 : w1.heap.size ≤ v2.heap.size := X2.out.size
  have Ev2 : Hid (Ex w v2) := Lib.hid (Ew1.out.chg X2.out (by omega))
  clear qR0 qR1 qR2 qR3 qR4 qR5 qR6 qR7 qR8 jR zR
  replace KR := Lib.hid (KR.out.chg X2.out (by omega))
  replace HRD1 := Lib.hid (HRD1.out.chg X2.out (by omega))
  clear hv2
  refine (l6Draw_c g 0 _ HRD1.out (by omega)).mono ?_; rintro r w2 ⟨m2, a2, p2, rfl, hm2, ⟨hfa, hfb, hfc, hfd⟩, hrd2, hp2, hb2⟩
  have Y2 : Hid (Chg (g) (g + 1) v2 w2) := Lib.hid (Chg.of_grown hb2 (fun b hb => by injection hb with hb; omega))
  have s2 : v2.heap.size ≤ w2.heap.size := Y2.out.size
  have Ew2 : Hid (Ex w w2) := Lib.hid (Ev2.out.chg Y2.out (by omega))
  clear hb2
  replace KR := Lib.hid (KR.out.chg Y2.out (by omega))
  clear HRD1
  have HFA := Lib.hid hfa; clear hfa
  have WHFA := Lib.hid HFA.out.row
  have HFB := Lib.hid hfb; clear hfb
  have WHFB := Lib.hid HFB.out.row
  have HFC := Lib.hid hfc; clear hfc
  have WHFC := Lib.hid HFC.out.row
  have HFD := Lib.hid hfd; clear hfd
  have WHFD := Lib.hid HFD.out.row
  have HRD2 := Lib.hid hrd2; clear hrd2
  obtain ⟨qR0, qR1, qR2, qR3, qR4, qR5, qR6, qR7, qR8⟩ := KR.out.c9
  have jR := KR.out.lt
  have zR := KR.out.frozen
  have HM2 := Lib.hid hm2.fewB
  clear hm2
  go_wp2_with fail
  refine name_calls ?_; intro v3 hv3
  have X3 : Hid (Chg (0) (0) w2 v3) := Lib.hid (by rw [hv3]; repeat' (first | with_reducible exact Chg.refl _ _ _ | with_reducible refine Chg.alloc ?_ _ | with_reducible refine Chg.drew ?_ | with_reducible refine Chg.set ?_ (by omega) _))
  have t3 : w2.heap.size ≤ v3.heap.size := X3.out.size
  have Ev3 : Hid (Ex w v3) := Lib.hid (Ew2.out.chg X3.out (by omega))
  clear qR0 qR1 qR2 qR3 qR4 qR5 qR6 qR7 qR8 jR zR
  replace KR := Lib.hid (KR.out.chg X3.out (by omega))
  replace HFA := Lib.hid (HFA.out.chg X3.out WHFA.out (by omega))
  replace HFB := Lib.hid (HFB.out.chg X3.out WHFB.out (by omega))
  replace HFC := Lib.hid (HFC.out.chg X3.out WHFC.out (by omega))
  replace HFD := Lib.hid (HFD.out.chg X3.out WHFD.out (by omega))
  replace HRD2 := Lib.hid (HRD2.out.chg X3.out (by omega))
  clear hv3
  refine (l6Wrong_c g p2 _ 16 m2 a2 _ HRD2.out (by omega) HM2.out (by omega) ⟨HFA.out, HFB.out, HFC.out, HFD.out⟩).mono ?_; rintro r w3 ⟨m3, a3, p3, rfl, hm3, ⟨hfe, hff, hfg, hfh⟩, hrd3, hp3, hb3⟩
  have Y3 : Hid (Chg (g) (g + 1) v3 w3) := Lib.hid (Chg.of_grown hb3 (fun b hb => by injection hb with hb; omega))
  have s3 : v3.heap.size ≤ w3.heap.size := Y3.out.size
  have Ew3 : Hid (Ex w w3) := Lib.hid (Ev3.out.chg Y3.out (by omega))
  clear hb3
  replace KR := Lib.hid (KR.out.chg Y3.out (by omega))
  replace HFA := Lib.hid (HFA.out.chg Y3.out WHFA.out (by omega))
  replace HFB := Lib.hid (HFB.out.chg Y3.out WHFB.out (by omega))
  replace HFC := Lib.hid (HFC.out.chg Y3.out WHFC.out (by omega))
  replace HFD := Lib.hid (HFD.out.chg Y3.out WHFD.out (by omega))
  clear HRD2
  have HFE := Lib.hid hfe; clear hfe
  have WHFE := Lib.hid HFE.out.row
  have HFF := Lib.hid hff; clear hff
  have WHFF := Lib.hid HFF.out.row
  have HFG := Lib.hid hfg; clear hfg
  have WHFG := Lib.hid HFG.out.row
  have HFH := Lib.hid hfh; clear hfh
  have WHFH := Lib.hid HFH.out.row
  have HRD3 := Lib.hid hrd3; clear hrd3
  obtain ⟨qR0, qR1, qR2, qR3, qR4, qR5, qR6, qR7, qR8⟩ := KR.out.c9
  have jR := KR.out.lt
  have zR := KR.out.frozen
  have HM3 := Lib.hid hm3
  clear hm3
  go_wp2_with fail
  refine name_calls ?_; intro v4 hv4
  have X4 : Hid (Chg (0) (0) w3 v4) := Lib.hid (by rw [hv4]; repeat' (first | with_reducible exact Chg.refl _ _ _ | with_reducible refine Chg.alloc ?_ _ | with_reducible refine Chg.drew ?_ | with_reducible refine Chg.set ?_ (by omega) _))
  have t4 : w3.heap.size ≤ v4.heap.size := X4.out.size
  have Ev4 : Hid (Ex w v4) := Lib.hid (Ew3.out.chg X4.out (by omega))
  clear qR0 qR1 qR2 qR3 qR4 qR5 qR6 qR7 qR8 jR zR
  replace KR := Lib.hid (KR.out.chg X4.out (by omega))
  replace HFA := Lib.hid (HFA.out.chg X4.out WHFA.out (by omega))
  replace HFB := Lib.hid (HFB.out.chg X4.out WHFB.out (by omega))
  replace HFC := Lib.hid (HFC.out.chg X4.out WHFC.out (by omega))
  replace HFD := Lib.hid (HFD.out.chg X4.out WHFD.out (by omega))
  replace HFE := Lib.hid (HFE.out.chg X4.out WHFE.out (by omega))
  replace HFF := Lib.hid (HFF.out.chg X4.out WHFF.out (by omega))
  replace HFG := Lib.hid (HFG.out.chg X4.out WHFG.out (by omega))
  replace HFH := Lib.hid (HFH.out.chg X4.out WHFH.out (by omega))
  replace HRD3 := Lib.hid (HRD3.out.chg X4.out (by omega))
  clear hv4
  refine (l6Wrong_c g p3 _ 18 m3 a3 _ HRD3.out (by omega) HM3.out (by omega) ⟨HFE.out, HFF.out, HFG.out, HFH.out⟩).mono ?_; rintro r w4 ⟨m4, a4, p4, rfl, hm4, ⟨hfi, hfj, hfk, hfl⟩, hrd4, hp4, hb4⟩
  have Y4 : Hid (Chg (g) (g + 1) v4 w4) := Lib.hid (Chg.of_grown hb4 (fun b hb => by injection hb with hb; omega))
  have s4 : v4.heap.size ≤ w4.heap.size := Y4.out.size
  have Ew4 : Hid (Ex w w4) := Lib.hid (Ev4.out.chg Y4.out (by omega))
  clear hb4
  replace KR := Lib.hid (KR.out.chg Y4.out (by omega))
  replace HFA := Lib.hid (HFA.out.chg Y4.out WHFA.out (by omega))
  replace HFB := Lib.hid (HFB.out.chg Y4.out WHFB.out (by omega))
  replace HFC := Lib.hid (HFC.out.chg Y4.out WHFC.out (by omega))
  replace HFD := Lib.hid (HFD.out.chg Y4.out WHFD.out (by omega))
  replace HFE := Lib.hid (HFE.out.chg Y4.out WHFE.out (by omega))
  replace HFF := Lib.hid (HFF.out.chg Y4.out WHFF.out (by omega))
  replace HFG := Lib.hid (HFG.out.chg Y4.out WHFG.out (by omega))
  replace HFH := Lib.hid (HFH.out.chg Y4.out WHFH.out (by omega))
  clear HRD3
  have HFI := Lib.hid hfi; clear hfi
  have WHFI := Lib.hid HFI.out.row
  have HFJ := Lib.hid hfj; clear hfj
  have WHFJ := Lib.hid HFJ.out.row
  have HFK := Lib.hid hfk; clear hfk
  have WHFK := Lib.hid HFK.out.row
  have HFL := Lib.hid hfl; clear hfl
  have WHFL := Lib.hid HFL.out.row
  have HRD4 := Lib.hid hrd4; clear hrd4
  obtain ⟨qR0, qR1, qR2, qR3, qR4, qR5, qR6, qR7, qR8⟩ := KR.out.c9
  have jR := KR.out.lt
  have zR := KR.out.frozen
  have HM4 := Lib.hid hm4
  clear hm4
  go_wp2_with fail
  refine name_calls ?_; intro v5 hv5
  have X5 : Hid (Chg (0) (0) w4 v5) := Lib.hid (by rw [hv5]; repeat' (first | with_reducible exact Chg.refl _ _ _ | with_reducible refine Chg.alloc ?_ _ | with_reducible refine Chg.drew ?_ | with_reducible refine Chg.set ?_ (by omega) _))
  have t5 : w4.heap.size ≤ v5.heap.size := X5.out.size
  have Ev5 : Hid (Ex w v5) := Lib.hid (Ew4.out.chg X5.out (by omega))
  clear qR0 qR1 qR2 qR3 qR4 qR5 qR6 qR7 qR8 jR zR
  replace KR := Lib.hid (KR.out.chg X5.out (by omega))
  replace HFA := Lib.hid (HFA.out.chg X5.out WHFA.out (by omega))
  replace HFB := Lib.hid (HFB.out.chg X5.out WHFB.out (by omega))
  replace HFC := Lib.hid (HFC.out.chg X5.out WHFC.out (by omega))
  replace HFD := Lib.hid (HFD.out.chg X5.out WHFD.out (by omega))
  replace HFE := Lib.hid (HFE.out.chg X5.out WHFE.out (by omega))
  replace HFF := Lib.hid (HFF.out.chg X5.out WHFF.out (by omega))
  replace HFG := Lib.hid (HFG.out.chg X5.out WHFG.out (by omega))
  replace HFH := Lib.hid (HFH.out.chg X5.out WHFH.out (by omega))
  replace HFI := Lib.hid (HFI.out.chg X5.out WHFI.out (by omega))
  replace HFJ := Lib.hid (HFJ.out.chg X5.out WHFJ.out (by omega))
  replace HFK := Lib.hid (HFK.out.chg X5.out WHFK.out (by omega))
  replace HFL := Lib.hid (HFL.out.chg X5.out WHFL.out (by omega))
  replace HRD4 := Lib.hid (HRD4.out.chg X5.out (by omega))
  clear hv5
  refine (l6Wrong_c g p4 _ 20 m4 a4 _ HRD4.out (by omega) HM4.out (by omega) ⟨HFI.out, HFJ.out, HFK.out, HFL.out⟩).mono ?_; rintro r w5 ⟨m5, a5, p5, rfl, hm5, ⟨hfm, hfn, hfo, hfp⟩, hrd5, hp5, hb5⟩
  have Y5 : Hid (Chg (g) (g + 1) v5 w5) := Lib.hid (Chg.of_grown hb5 (fun b hb => by injection hb with hb; omega))
  have s5 : v5.heap.size ≤ w5.heap.size := Y5.out.size
  have Ew5 : Hid (Ex w w5) := Lib.hid (Ev5.out.chg Y5.out (by omega))
  clear hb5
  replace KR := Lib.hid (KR.out.chg Y5.out (by omega))
  replace HFA := Lib.hid (HFA.out.chg Y5.out WHFA.out (by omega))
  replace HFB := Lib.hid (HFB.out.chg Y5.out WHFB.out (by omega))
  replace HFC := Lib.hid (HFC.out.chg Y5.out WHFC.out (by omega))
  replace HFD := Lib.hid (HFD.out.chg Y5.out WHFD.out (by omega))
  replace HFE := Lib.hid (HFE.out.chg Y5.out WHFE.out (by omega))
  replace HFF := Lib.hid (HFF.out.chg Y5.out WHFF.out (by omega))
  replace HFG := Lib.hid (HFG.out.chg Y5.out WHFG.out (by omega))
  replace HFH := Lib.hid (HFH.out.chg Y5.out WHFH.out (by omega))
  replace HFI := Lib.hid (HFI.out.chg Y5.out WHFI.out (by omega))
  replace HFJ := Lib.hid (HFJ.out.chg Y5.out WHFJ.out (by omega))
  replace HFK := Lib.hid (HFK.out.chg Y5.out WHFK.out (by omega))
  replace HFL := Lib.hid (HFL.out.chg Y5.out WHFL.out (by omega))
  clear HRD4
  have HFM := Lib.hid hfm; clear hfm
  have WHFM := Lib.hid HFM.out.row
  have HFN := Lib.hid hfn; clear hfn
  have WHFN := Lib.hid HFN.out.row
  have HFO := Lib.hid hfo; clear hfo
  have WHFO := Lib.hid HFO.out.row
  have HFP := Lib.hid hfp; clear hfp
  have WHFP := Lib.hid HFP.out.row
  have HRD5 := Lib.hid hrd5; clear hrd5
  obtain ⟨qR0, qR1, qR2, qR3, qR4, qR5, qR6, qR7, qR8⟩ := KR.out.c9
  have jR := KR.out.lt
  have zR := KR.out.frozen
  have HM5 := Lib.hid hm5
  clear hm5
  go_wp2
  exact bodyPost_ret (v := .agg #[.slice a5.b m5.table.buckets.length a5.bc, .slice a5.f m5.table.frames.length a5.fc, .slice a5.l m5.cache.lines.length a5.lc, .int .i64 m5.cache.hand, .int .i64 m5.tags.count, .int .i64 m5.tags.next, .int .i64 m5.tags.round, .slice a5.o m5.tags.owns.length a5.oc, .int .i64 m5.space]) (by simp [results, Tryd.results16, go_sem, *]) rfl
    ⟨m5, a5, rfl, HM5.out, ⟨(Fr.mono (B := v5.heap.size) (by repeat' (first | with_reducible exact HFM.out | with_reducible refine Fr.alloc ?_ _ | with_reducible refine Fr.put ?_ (fun b hb => by have := WHFM.out b hb; omega) _)) (by omega)), (Fr.mono (B := v5.heap.size) (by repeat' (first | with_reducible exact HFN.out | with_reducible refine Fr.alloc ?_ _ | with_reducible refine Fr.put ?_ (fun b hb => by have := WHFN.out b hb; omega) _)) (by omega)), (Fr.mono (B := v5.heap.size) (by repeat' (first | with_reducible exact HFO.out | with_reducible refine Fr.alloc ?_ _ | with_reducible refine Fr.put ?_ (fun b hb => by have := WHFO.out b hb; omega) _)) (by omega)), (Fr.mono (B := v5.heap.size) (by repeat' (first | with_reducible exact HFP.out | with_reducible refine Fr.alloc ?_ _ | with_reducible refine Fr.put ?_ (fun b hb => by have := WHFP.out b hb; omega) _)) (by omega))⟩, (by repeat' (first | with_reducible exact Ew5.out | with_reducible refine Ex.alloc ?_ _ | with_reducible refine Ex.drew ?_ | with_reducible refine Ex.put ?_ (by omega) _))⟩
end Go.Proofs.YtmipkeabfglfaaaDoor
/- Drawn machines: the arguments of MachineSame. -/
namespace Go.Proofs.YtmipkeabfglfaaaDoor
open Go.ChangeShapes Go.WideShapes Go.ChangeAt Go.RowKit
open Rec (sz cs)
set_option linter.unusedVariables false
set_option maxRecDepth 100000

theorem FewB.mono {m : MachD} {k j : Nat} (h : FewB m k) (hk : k ≤ j) : FewB m j := ⟨Nat.le_trans h.b hk, Nat.le_trans h.f hk, h.l, Nat.le_trans h.o hk, h.z⟩
def DrawnTwo (k : Nat) (w : World) (e : Ending) (w' : World) : Prop := ∃ (m n : MachD) (a b : MA), e = .returned (.tuple #[.agg #[.slice a.b m.table.buckets.length a.bc, .slice a.f m.table.frames.length a.fc, .slice a.l m.cache.lines.length a.lc, .int .i64 m.cache.hand, .int .i64 m.tags.count, .int .i64 m.tags.next, .int .i64 m.tags.round, .slice a.o m.tags.owns.length a.oc, .int .i64 m.space], .agg #[.slice b.b n.table.buckets.length b.bc, .slice b.f n.table.frames.length b.fc, .slice b.l n.cache.lines.length b.lc, .int .i64 n.cache.hand, .int .i64 n.tags.count, .int .i64 n.tags.next, .int .i64 n.tags.round, .slice b.o n.tags.owns.length b.oc, .int .i64 n.space]]) ∧ FewB m k ∧ FewB n k ∧ FrM w' w.heap.size m a ∧ FrM w' w.heap.size n b ∧ Ex w w'

set_option maxHeartbeats 16000000 in
theorem drawMachineSame_c (A : Option Addr) (c : Nat) (bs : List ByteD) (w : World) (hx : Rd w A bs) (hb : Bytes bs) (hn : bs.length ≤ 1048576) (hc : bs.length ≤ c) (hcm : c ≤ maxLen) :
    Calls Tryd.prog 6 #[.slice A bs.length c] w (DrawnTwo 20 w) := by
  have C1 := Lib.hid (fun w' (h : Ex w w') => l12Open_c A c bs w' (hx.ex h) hb hn hc hcm)
  generalize bs.length = n at C1 hn hc
  clear hx hb hn hc hcm
  go_enter Tryd.func6, Tryd.ntmps6
  go_wp2_with fail
  refine name_calls ?_; intro v1 hv1
  have X1 : Hid (Chg (0) (0) w v1) := Lib.hid (by rw [hv1]; repeat' (first | with_reducible exact Chg.refl _ _ _ | with_reducible refine Chg.alloc ?_ _ | with_reducible refine Chg.drew ?_ | with_reducible refine Chg.set ?_ (by omega) _))
  have t1 : w.heap.size ≤ v1.heap.size := X1.out.size
  have Ev1 : Hid (Ex w v1) := Lib.hid ((Ex.refl w).chg X1.out (by omega))
  have KR : Hid (Blk v1 (w.heap.size) 34 [.slice none 0 0, .slice none 0 0, .slice none 0 0, .int .i64 0, .int .i64 0, .int .i64 0, .int .i64 0, .slice none 0 0, .int .i64 0]) := Lib.hid (by rw [hv1]; exact (Blk.new _ _ _).alloc _)
  have lR : w.heap.size < v1.heap.size := KR.out.lt
  have KQ : Hid (Blk v1 (w.heap.size + 1) 34 [.slice none 0 0, .slice none 0 0, .slice none 0 0, .int .i64 0, .int .i64 0, .int .i64 0, .int .i64 0, .slice none 0 0, .int .i64 0]) := Lib.hid (by rw [hv1]; exact Blk.new_at _ _ _ (by simp))
  have lQ : w.heap.size + 1 < v1.heap.size := KQ.out.lt
  clear hv1
  refine (C1.out _ Ev1.out).mono ?_; rintro r w1 ⟨g, rfl, hrd1, hg1, hb1⟩
  have Y1 : Hid (Chg 0 0 v1 w1) := Lib.hid (Chg.of_ex hb1)
  have s1 : v1.heap.size ≤ w1.heap.size := Y1.out.size
  have Ew1 : Hid (Ex w w1) := Lib.hid (Ev1.out.chg Y1.out (by omega))
  clear hb1
  replace KR := Lib.hid (KR.out.chg Y1.out (by omega))
  replace KQ := Lib.hid (KQ.out.chg Y1.out (by omega))
  have HRD1 := Lib.hid hrd1; clear hrd1
  obtain ⟨qR0, qR1, qR2, qR3, qR4, qR5, qR6, qR7, qR8⟩ := KR.out.c9
  have jR := KR.out.lt
  obtain ⟨qQ0, qQ1, qQ2, qQ3, qQ4, qQ5, qQ6, qQ7, qQ8⟩ := KQ.out.c9
  have jQ := KQ.out.lt
  have lg := HRD1.out.lt
  go_wp2_with fail
  refine name_calls ?_; intro v2 hv2
  have X2 : Hid (Chg (0) (0) w1 v2) := Lib.hid (by rw [hv2]; repeat' (first | with_reducible exact Chg.refl _ _ _ | with_reducible refine Chg.alloc ?_ _ | with_reducible refine Chg.drew ?_ | with_reducible refine Chg.set ?_ (by omega) _))
  have t2 : w1.heap.size ≤ v2.heap.size := X2.out.size
  have Ev2 : Hid (Ex w v2) := Lib.hid (Ew1.out.chg X2.out (by omega))
  clear qR0 qR1 qR2 qR3 qR4 qR5 qR6 qR7 qR8 jR
  clear qQ0 qQ1 qQ2 qQ3 qQ4 qQ5 qQ6 qQ7 qQ8 jQ
  replace KR := Lib.hid (KR.out.chg X2.out (by omega))
  replace KQ := Lib.hid (KQ.out.chg X2.out (by omega))
  replace HRD1 := Lib.hid (HRD1.out.chg X2.out (by omega))
  clear hv2
  refine (l6Draw_c g 0 _ HRD1.out (by omega)).mono ?_; rintro r w2 ⟨m2, a2, p2, rfl, hm2, ⟨hfa, hfb, hfc, hfd⟩, hrd2, hp2, hb2⟩
  have Y2 : Hid (Chg (g) (g + 1) v2 w2) := Lib.hid (Chg.of_grown hb2 (fun b hb => by injection hb with hb; omega))
  have s2 : v2.heap.size ≤ w2.heap.size := Y2.out.size
  have Ew2 : Hid (Ex w w2) := Lib.hid (Ev2.out.chg Y2.out (by omega))
  clear hb2
  replace KR := Lib.hid (KR.out.chg Y2.out (by omega))
  replace KQ := Lib.hid (KQ.out.chg Y2.out (by omega))
  clear HRD1
  have HFA := Lib.hid hfa; clear hfa
  have WHFA := Lib.hid HFA.out.row
  have HFB := Lib.hid hfb; clear hfb
  have WHFB := Lib.hid HFB.out.row
  have HFC := Lib.hid hfc; clear hfc
  have WHFC := Lib.hid HFC.out.row
  have HFD := Lib.hid hfd; clear hfd
  have WHFD := Lib.hid HFD.out.row
  have HRD2 := Lib.hid hrd2; clear hrd2
  obtain ⟨qR0, qR1, qR2, qR3, qR4, qR5, qR6, qR7, qR8⟩ := KR.out.c9
  have jR := KR.out.lt
  obtain ⟨qQ0, qQ1, qQ2, qQ3, qQ4, qQ5, qQ6, qQ7, qQ8⟩ := KQ.out.c9
  have jQ := KQ.out.lt
  have HMO := Lib.hid hm2
  have HM2 := Lib.hid (FewB.mono hm2.fewB (show 16 ≤ 20 by omega))
  clear hm2
  go_wp2_with fail
  refine name_calls ?_; intro v3 hv3
  have X3 : Hid (Chg (0) (0) w2 v3) := Lib.hid (by rw [hv3]; repeat' (first | with_reducible exact Chg.refl _ _ _ | with_reducible refine Chg.alloc ?_ _ | with_reducible refine Chg.drew ?_ | with_reducible refine Chg.set ?_ (by omega) _))
  have t3 : w2.heap.size ≤ v3.heap.size := X3.out.size
  have Ev3 : Hid (Ex w v3) := Lib.hid (Ew2.out.chg X3.out (by omega))
  clear qR0 qR1 qR2 qR3 qR4 qR5 qR6 qR7 qR8 jR
  clear qQ0 qQ1 qQ2 qQ3 qQ4 qQ5 qQ6 qQ7 qQ8 jQ
  replace KR := Lib.hid (KR.out.chg X3.out (by omega))
  replace KQ := Lib.hid (KQ.out.chg X3.out (by omega))
  replace HFA := Lib.hid (HFA.out.chg X3.out WHFA.out (by omega))
  replace HFB := Lib.hid (HFB.out.chg X3.out WHFB.out (by omega))
  replace HFC := Lib.hid (HFC.out.chg X3.out WHFC.out (by omega))
  replace HFD := Lib.hid (HFD.out.chg X3.out WHFD.out (by omega))
  replace HRD2 := Lib.hid (HRD2.out.chg X3.out (by omega))
  have KO : Hid (Blk v3 (w2.heap.size) 34 [.slice a2.b m2.table.buckets.length a2.bc, .slice a2.f m2.table.frames.length a2.fc, .slice a2.l m2.cache.lines.length a2.lc, .int .i64 m2.cache.hand, .int .i64 m2.tags.count, .int .i64 m2.tags.next, .int .i64 m2.tags.round, .slice a2.o m2.tags.owns.length a2.oc, .int .i64 m2.space]) := Lib.hid (by rw [hv3]; repeat' (first | with_reducible exact Blk.new_at _ _ _ (by simp) | with_reducible refine Blk.alloc ?_ _ | with_reducible refine Blk.drew ?_ | with_reducible refine Blk.far ?_ (by simp; omega) _))
  have lO : w2.heap.size < v3.heap.size := KO.out.lt
  clear hv3
  refine (pick_c g p2 3 _ HRD2.out (by omega) (by omega)).mono ?_; rintro r w3 ⟨z3, rfl, hhz3, hrd3, hb3⟩
  have Y3 : Hid (Chg (g) (g + 1) v3 w3) := Lib.hid (Chg.of_grown hb3 (fun b hb => by injection hb with hb; omega))
  have s3 : v3.heap.size ≤ w3.heap.size := Y3.out.size
  have Ew3 : Hid (Ex w w3) := Lib.hid (Ev3.out.chg Y3.out (by omega))
  clear hb3
  replace KR := Lib.hid (KR.out.chg Y3.out (by omega))
  replace KQ := Lib.hid (KQ.out.chg Y3.out (by omega))
  replace KO := Lib.hid (KO.out.chg Y3.out (by omega))
  replace HFA := Lib.hid (HFA.out.chg Y3.out WHFA.out (by omega))
  replace HFB := Lib.hid (HFB.out.chg Y3.out WHFB.out (by omega))
  replace HFC := Lib.hid (HFC.out.chg Y3.out WHFC.out (by omega))
  replace HFD := Lib.hid (HFD.out.chg Y3.out WHFD.out (by omega))
  clear HRD2
  have HRD3 := Lib.hid hrd3; clear hrd3
  have HHZ3 := Lib.hid hhz3; clear hhz3
  obtain ⟨qR0, qR1, qR2, qR3, qR4, qR5, qR6, qR7, qR8⟩ := KR.out.c9
  have jR := KR.out.lt
  obtain ⟨qQ0, qQ1, qQ2, qQ3, qQ4, qQ5, qQ6, qQ7, qQ8⟩ := KQ.out.c9
  have jQ := KQ.out.lt
  obtain ⟨qO0, qO1, qO2, qO3, qO4, qO5, qO6, qO7, qO8⟩ := KO.out.c9
  have jO := KO.out.lt
  have hgv : g < v2.heap.size ∧ v2.heap.size ≤ w3.heap.size ∧ w.heap.size + 1 < g := by omega
  have hsz3 : v2.heap.size ≤ w3.heap.size ∧ w.heap.size ≤ v2.heap.size := by omega
  have FM : Hid (∀ v, Chg g (g + 1) w3 v → FrM v w.heap.size m2 a2) := Lib.hid (fun v hv => FrM.mono (B := v2.heap.size) (FrM.chg ⟨HFA.out, HFB.out, HFC.out, HFD.out⟩ hv (by omega)) (by omega))
  have FM2 : Hid (∀ v, Chg g (g + 1) w3 v → FrM v v2.heap.size m2 a2) := Lib.hid (fun v hv => FrM.chg ⟨HFA.out, HFB.out, HFC.out, HFD.out⟩ hv (by omega))
  have FL : Hid (∀ v, Chg g (g + 1) w3 v → Blk v w2.heap.size 34 [.slice a2.b m2.table.buckets.length a2.bc, .slice a2.f m2.table.frames.length a2.fc, .slice a2.l m2.cache.lines.length a2.lc, .int .i64 m2.cache.hand, .int .i64 m2.tags.count, .int .i64 m2.tags.next, .int .i64 m2.tags.round, .slice a2.o m2.tags.owns.length a2.oc, .int .i64 m2.space] ∧ Blk v w.heap.size 34 [.slice none 0 0, .slice none 0 0, .slice none 0 0, .int .i64 0, .int .i64 0, .int .i64 0, .int .i64 0, .slice none 0 0, .int .i64 0] ∧ Blk v (w.heap.size + 1) 34 [.slice none 0 0, .slice none 0 0, .slice none 0 0, .int .i64 0, .int .i64 0, .int .i64 0, .int .i64 0, .slice none 0 0, .int .i64 0]) := Lib.hid (fun v hv => ⟨KO.out.chg hv (by omega), KR.out.chg hv (by omega), KQ.out.chg hv (by omega)⟩)
  have FK : Hid (∀ w', Chg g (g + 1) w3 w' → (w'.cell? ⟨w2.heap.size, 0, none⟩ = some (.slice a2.b m2.table.buckets.length a2.bc) ∧ w'.cell? ⟨w2.heap.size, 1, none⟩ = some (.slice a2.f m2.table.frames.length a2.fc) ∧ w'.cell? ⟨w2.heap.size, 2, none⟩ = some (.slice a2.l m2.cache.lines.length a2.lc) ∧ w'.cell? ⟨w2.heap.size, 3, none⟩ = some (.int .i64 m2.cache.hand) ∧ w'.cell? ⟨w2.heap.size, 4, none⟩ = some (.int .i64 m2.tags.count) ∧ w'.cell? ⟨w2.heap.size, 5, none⟩ = some (.int .i64 m2.tags.next) ∧ w'.cell? ⟨w2.heap.size, 6, none⟩ = some (.int .i64 m2.tags.round) ∧ w'.cell? ⟨w2.heap.size, 7, none⟩ = some (.slice a2.o m2.tags.owns.length a2.oc) ∧ w'.cell? ⟨w2.heap.size, 8, none⟩ = some (.int .i64 m2.space))) := Lib.hid (fun v hv => (KO.out.chg hv (by omega)).c9)
  have HGR : Hid (∀ b, some g = some b → g ≤ b ∧ b < g + 1) := Lib.hid (fun b hb => by injection hb with hb; omega)
  have HNER : Hid (∀ v, Chg g (g + 1) w3 v → ∀ (q : MachD) (b : MA), FrM v w.heap.size q b → ((∀ x, rowOf b.b b.bc = some x → x ≠ w.heap.size) ∧ (∀ x, rowOf b.b b.bc = some x → x ≠ w.heap.size + 1)) ∧ ((∀ x, rowOf b.f b.fc = some x → x ≠ w.heap.size) ∧ (∀ x, rowOf b.f b.fc = some x → x ≠ w.heap.size + 1)) ∧ ((∀ x, rowOf b.l b.lc = some x → x ≠ w.heap.size) ∧ (∀ x, rowOf b.l b.lc = some x → x ≠ w.heap.size + 1)) ∧ (∀ x, rowOf b.o b.oc = some x → x ≠ w.heap.size) ∧ (∀ x, rowOf b.o b.oc = some x → x ≠ w.heap.size + 1)) := Lib.hid (fun v hv q b hf => by
    obtain ⟨_, k1, k2⟩ := FL.out v hv
    exact ⟨⟨hf.b.off k1 (by decide), hf.b.off k2 (by decide)⟩, ⟨hf.f.off k1 (by decide), hf.f.off k2 (by decide)⟩, ⟨hf.l.off k1 (by decide), hf.l.off k2 (by decide)⟩, hf.o.off k1 (by decide), hf.o.off k2 (by decide)⟩)
  have hOR : w2.heap.size ≠ w.heap.size := by omega
  have hOQ : w2.heap.size ≠ w.heap.size + 1 := by omega
  clear qO0 qO1 qO2 qO3 qO4 qO5 qO6 qO7 qO8 jO qR0 qR1 qR2 qR3 qR4 qR5 qR6 qR7 qR8 jR qQ0 qQ1 qQ2 qQ3 qQ4 qQ5 qQ6 qQ7 qQ8 jQ KO KR KQ HFA HFB HFC HFD C1
  have CST : Hid (∀ v, Rdr v g (p2 + 1) → v2.heap.size ≤ v.heap.size → FrM v v2.heap.size m2 a2 → Calls Tryd.prog 22 #[.pointer (some ⟨g, 0, none⟩), .agg #[.slice a2.b m2.table.buckets.length a2.bc, .slice a2.f m2.table.frames.length a2.fc, .slice a2.l m2.cache.lines.length a2.lc, .int .i64 m2.cache.hand, .int .i64 m2.tags.count, .int .i64 m2.tags.next, .int .i64 m2.tags.round, .slice a2.o m2.tags.owns.length a2.oc, .int .i64 m2.space]] v (SomeMach g (p2 + 1) v2.heap.size 6 MachOk v)) := Lib.hid (fun v h1 h2 h3 => l6Step_c g (p2 + 1) _ m2 a2 v h1 (by omega) (by omega) h2 HMO.out h3)
  have CW1 : Hid (∀ v, Rdr v g (p2 + 1) → FrM v v2.heap.size m2 a2 → Calls Tryd.prog 23 #[.pointer (some ⟨g, 0, none⟩), .agg #[.slice a2.b m2.table.buckets.length a2.bc, .slice a2.f m2.table.frames.length a2.fc, .slice a2.l m2.cache.lines.length a2.lc, .int .i64 m2.cache.hand, .int .i64 m2.tags.count, .int .i64 m2.tags.next, .int .i64 m2.tags.round, .slice a2.o m2.tags.owns.length a2.oc, .int .i64 m2.space]] v (SomeMach g (p2 + 1) v.heap.size 60 (fun q => FewB q 18) v)) := Lib.hid (fun v h1 h3 => l6Wrong_c g (p2 + 1) _ 16 m2 a2 v h1 (by omega) HMO.out.fewB (by omega) h3)
  have CW2 : Hid (∀ (q : MachD) (b : MA) (j lo : Nat) v, Rdr v g j → j ≤ 1000 → FewB q 18 → FrM v lo q b → Calls Tryd.prog 23 #[.pointer (some ⟨g, 0, none⟩), .agg #[.slice b.b q.table.buckets.length b.bc, .slice b.f q.table.frames.length b.fc, .slice b.l q.cache.lines.length b.lc, .int .i64 q.cache.hand, .int .i64 q.tags.count, .int .i64 q.tags.next, .int .i64 q.tags.round, .slice b.o q.tags.owns.length b.oc, .int .i64 q.space]] v (SomeMach g j v.heap.size 60 (fun q => FewB q 20) v)) := Lib.hid (fun q b j lo v h1 h2 h3 h4 => l6Wrong_c g j lo 18 q b v h1 (by omega) h3 (by omega) h4)
  unfold SomeMach at CST CW1 CW2
  by_cases hz : z3 = 0
  · have hz' : (z3 == 0) = true := by simp [hz]
    clear hz
    go_wp2_with fail
    go_region_held3 (fun w' => (w'.cell? ⟨w2.heap.size, 0, none⟩ = some (.slice a2.b m2.table.buckets.length a2.bc) ∧ w'.cell? ⟨w2.heap.size, 1, none⟩ = some (.slice a2.f m2.table.frames.length a2.fc) ∧ w'.cell? ⟨w2.heap.size, 2, none⟩ = some (.slice a2.l m2.cache.lines.length a2.lc) ∧ w'.cell? ⟨w2.heap.size, 3, none⟩ = some (.int .i64 m2.cache.hand) ∧ w'.cell? ⟨w2.heap.size, 4, none⟩ = some (.int .i64 m2.tags.count) ∧ w'.cell? ⟨w2.heap.size, 5, none⟩ = some (.int .i64 m2.tags.next) ∧ w'.cell? ⟨w2.heap.size, 6, none⟩ = some (.int .i64 m2.tags.round) ∧ w'.cell? ⟨w2.heap.size, 7, none⟩ = some (.slice a2.o m2.tags.owns.length a2.oc) ∧ w'.cell? ⟨w2.heap.size, 8, none⟩ = some (.int .i64 m2.space))) (first | (refine FK.out _ ?_; with_reducible (first | exact Chg.refl _ _ _ | exact (Chg.refl _ _ _).drew | exact hC4 | exact hC5)) | with_reducible exact (Blk.far (Blk.far (Blk.far (Blk.far (Blk.far (Blk.far (Blk.far (Blk.far (Blk.far (hO) hOR _) hOR _) hOR _) hOR _) hOR _) hOR _) hOR _) hOR _) hOR _).c9 | with_reducible exact (Blk.far (Blk.far (Blk.far (Blk.far (Blk.far (Blk.far (Blk.far (Blk.far (Blk.far (hO) hOQ _) hOQ _) hOQ _) hOQ _) hOQ _) hOQ _) hOQ _) hOQ _) hOQ _).c9 | with_reducible exact (Blk.far (Blk.far (Blk.far (Blk.far (Blk.far (Blk.far (Blk.far (Blk.far (Blk.far (Blk.far (Blk.far (Blk.far (Blk.far (Blk.far (Blk.far (Blk.far (Blk.far (Blk.far (hO) hOR _) hOR _) hOR _) hOR _) hOR _) hOR _) hOR _) hOR _) hOR _) hOQ _) hOQ _) hOQ _) hOQ _) hOQ _) hOQ _) hOQ _) hOQ _) hOQ _).c9 | with_reducible exact (Blk.far (Blk.far (Blk.far (Blk.far (Blk.far (Blk.far (Blk.far (Blk.far (Blk.far (Blk.far (Blk.far (Blk.far (Blk.far (Blk.far (Blk.far (Blk.far (Blk.far (Blk.far (hO) hOQ _) hOQ _) hOQ _) hOQ _) hOQ _) hOQ _) hOQ _) hOQ _) hOQ _) hOR _) hOR _) hOR _) hOR _) hOR _) hOR _) hOR _) hOR _) hOR _).c9 | go_keep) (first
      | (go_at_call 22; (with_reducible refine (CST.out _ ?_ ?_ ?_).mono ?_); (exact Rdr.drew HRD3.out); (exact hsz3.1); (exact FM2.out _ (Chg.refl _ _ _).drew); rintro r w4 ⟨n4, b4, p4, rfl, hn4, hf4, hr4, hp4, hg4⟩; have hC4 : Chg g (g + 1) w3 w4 := Chg.trans (by repeat' (first | with_reducible exact Chg.refl _ _ _ | with_reducible exact hC4 | with_reducible refine Chg.drew ?_)) (Chg.of_grown hg4 HGR.out); obtain ⟨hO, hR, hQ⟩ := FL.out _ hC4; obtain ⟨o0, o1, o2, o3, o4, o5, o6, o7, o8⟩ := hO.c9; have ol := hO.lt; obtain ⟨r0, r1, r2, r3, r4, r5, r6, r7, r8⟩ := hR.c9; have rz := hR.frozen; have rl := hR.lt; obtain ⟨u0, u1, u2, u3, u4, u5, u6, u7, u8⟩ := hQ.c9; have uz := hQ.frozen; have ul := hQ.lt))
    all_goals (rename_i hHeld; clear hHeld)
    all_goals replace hn4 := hn4.fewB
    all_goals
      have EW : Hid (Ex w w4) := Lib.hid (Ew3.out.chg hC4 (by omega))
      have HFM := Lib.hid (FM.out _ hC4)
      have HMR := HNER.out _ hC4 _ _ HFM.out
      have HFN : Hid (FrM w4 w.heap.size n4 b4) := Lib.hid (FrM.mono hf4 hsz3.2)
      have HNR := HNER.out _ hC4 _ _ HFN.out
      have HFW := Lib.hid hn4
      have MBR := Lib.hid HMR.1.1
      have MBQ := Lib.hid HMR.1.2
      have MFR := Lib.hid HMR.2.1.1
      have MFQ := Lib.hid HMR.2.1.2
      have MLR := Lib.hid HMR.2.2.1.1
      have MLQ := Lib.hid HMR.2.2.1.2
      have MOR := Lib.hid HMR.2.2.2.1
      have MOQ := Lib.hid HMR.2.2.2.2
      have NBR := Lib.hid HNR.1.1
      have NBQ := Lib.hid HNR.1.2
      have NFR := Lib.hid HNR.2.1.1
      have NFQ := Lib.hid HNR.2.1.2
      have NLR := Lib.hid HNR.2.2.1.1
      have NLQ := Lib.hid HNR.2.2.1.2
      have NOR := Lib.hid HNR.2.2.2.1
      have NOQ := Lib.hid HNR.2.2.2.2
      clear HMR HNR hf4 hn4 hO hR hQ hC4
      go_wp2
      exact bodyPost_ret (v := .tuple #[.agg #[.slice a2.b m2.table.buckets.length a2.bc, .slice a2.f m2.table.frames.length a2.fc, .slice a2.l m2.cache.lines.length a2.lc, .int .i64 m2.cache.hand, .int .i64 m2.tags.count, .int .i64 m2.tags.next, .int .i64 m2.tags.round, .slice a2.o m2.tags.owns.length a2.oc, .int .i64 m2.space], .agg #[.slice b4.b n4.table.buckets.length b4.bc, .slice b4.f n4.table.frames.length b4.fc, .slice b4.l n4.cache.lines.length b4.lc, .int .i64 n4.cache.hand, .int .i64 n4.tags.count, .int .i64 n4.tags.next, .int .i64 n4.tags.round, .slice b4.o n4.tags.owns.length b4.oc, .int .i64 n4.space]]) (by simp [results, Tryd.results6, go_sem, *]) rfl
        ⟨m2, n4, a2, b4, rfl, HM2.out, FewB.mono HFW.out (by omega), ⟨(by repeat' (first | with_reducible exact HFM.out.b | with_reducible refine Fr.put ?_ MBR.out _ | with_reducible refine Fr.put ?_ MBQ.out _)), (by repeat' (first | with_reducible exact HFM.out.f | with_reducible refine Fr.put ?_ MFR.out _ | with_reducible refine Fr.put ?_ MFQ.out _)), (by repeat' (first | with_reducible exact HFM.out.l | with_reducible refine Fr.put ?_ MLR.out _ | with_reducible refine Fr.put ?_ MLQ.out _)), (by repeat' (first | with_reducible exact HFM.out.o | with_reducible refine Fr.put ?_ MOR.out _ | with_reducible refine Fr.put ?_ MOQ.out _))⟩, ⟨(by repeat' (first | with_reducible exact HFN.out.b | with_reducible refine Fr.put ?_ NBR.out _ | with_reducible refine Fr.put ?_ NBQ.out _)), (by repeat' (first | with_reducible exact HFN.out.f | with_reducible refine Fr.put ?_ NFR.out _ | with_reducible refine Fr.put ?_ NFQ.out _)), (by repeat' (first | with_reducible exact HFN.out.l | with_reducible refine Fr.put ?_ NLR.out _ | with_reducible refine Fr.put ?_ NLQ.out _)), (by repeat' (first | with_reducible exact HFN.out.o | with_reducible refine Fr.put ?_ NOR.out _ | with_reducible refine Fr.put ?_ NOQ.out _))⟩, (by repeat' (first | with_reducible exact EW.out | with_reducible refine Ex.alloc ?_ _ | with_reducible refine Ex.drew ?_ | with_reducible refine Ex.put ?_ (by omega) _))⟩
  · have hz' : (z3 == 0) = false := by simp [hz]
    clear hz
    go_wp2_with fail
    go_region_held3 (fun w' => (w'.cell? ⟨w2.heap.size, 0, none⟩ = some (.slice a2.b m2.table.buckets.length a2.bc) ∧ w'.cell? ⟨w2.heap.size, 1, none⟩ = some (.slice a2.f m2.table.frames.length a2.fc) ∧ w'.cell? ⟨w2.heap.size, 2, none⟩ = some (.slice a2.l m2.cache.lines.length a2.lc) ∧ w'.cell? ⟨w2.heap.size, 3, none⟩ = some (.int .i64 m2.cache.hand) ∧ w'.cell? ⟨w2.heap.size, 4, none⟩ = some (.int .i64 m2.tags.count) ∧ w'.cell? ⟨w2.heap.size, 5, none⟩ = some (.int .i64 m2.tags.next) ∧ w'.cell? ⟨w2.heap.size, 6, none⟩ = some (.int .i64 m2.tags.round) ∧ w'.cell? ⟨w2.heap.size, 7, none⟩ = some (.slice a2.o m2.tags.owns.length a2.oc) ∧ w'.cell? ⟨w2.heap.size, 8, none⟩ = some (.int .i64 m2.space))) (first | (refine FK.out _ ?_; with_reducible (first | exact Chg.refl _ _ _ | exact (Chg.refl _ _ _).drew | exact hC4 | exact hC5)) | with_reducible exact (Blk.far (Blk.far (Blk.far (Blk.far (Blk.far (Blk.far (Blk.far (Blk.far (Blk.far (hO) hOR _) hOR _) hOR _) hOR _) hOR _) hOR _) hOR _) hOR _) hOR _).c9 | with_reducible exact (Blk.far (Blk.far (Blk.far (Blk.far (Blk.far (Blk.far (Blk.far (Blk.far (Blk.far (hO) hOQ _) hOQ _) hOQ _) hOQ _) hOQ _) hOQ _) hOQ _) hOQ _) hOQ _).c9 | with_reducible exact (Blk.far (Blk.far (Blk.far (Blk.far (Blk.far (Blk.far (Blk.far (Blk.far (Blk.far (Blk.far (Blk.far (Blk.far (Blk.far (Blk.far (Blk.far (Blk.far (Blk.far (Blk.far (hO) hOR _) hOR _) hOR _) hOR _) hOR _) hOR _) hOR _) hOR _) hOR _) hOQ _) hOQ _) hOQ _) hOQ _) hOQ _) hOQ _) hOQ _) hOQ _) hOQ _).c9 | with_reducible exact (Blk.far (Blk.far (Blk.far (Blk.far (Blk.far (Blk.far (Blk.far (Blk.far (Blk.far (Blk.far (Blk.far (Blk.far (Blk.far (Blk.far (Blk.far (Blk.far (Blk.far (Blk.far (hO) hOQ _) hOQ _) hOQ _) hOQ _) hOQ _) hOQ _) hOQ _) hOQ _) hOQ _) hOR _) hOR _) hOR _) hOR _) hOR _) hOR _) hOR _) hOR _) hOR _).c9 | go_keep) (first
      | (go_at_call 23; (with_reducible refine (CW1.out _ ?_ ?_).mono ?_); (exact Rdr.drew HRD3.out); (exact FM2.out _ (Chg.refl _ _ _).drew); rintro r w4 ⟨n4, b4, p4, rfl, hn4, hf4, hr4, hp4, hg4⟩; have hC4 : Chg g (g + 1) w3 w4 := Chg.trans (by repeat' (first | with_reducible exact Chg.refl _ _ _ | with_reducible exact hC4 | with_reducible refine Chg.drew ?_)) (Chg.of_grown hg4 HGR.out))
      | (go_at_call 23; (with_reducible refine (CW2.out n4 b4 p4 _ _ hr4 (by omega) hn4 hf4).mono ?_); rintro r w5 ⟨n5, b5, p5, rfl, hn5, hf5, hr5, hp5, hg5⟩; have hC5 : Chg g (g + 1) w3 w5 := Chg.trans hC4 (Chg.of_grown hg5 HGR.out); have hz4 := hC4.size; obtain ⟨hO, hR, hQ⟩ := FL.out _ hC5; obtain ⟨o0, o1, o2, o3, o4, o5, o6, o7, o8⟩ := hO.c9; have ol := hO.lt; obtain ⟨r0, r1, r2, r3, r4, r5, r6, r7, r8⟩ := hR.c9; have rz := hR.frozen; have rl := hR.lt; obtain ⟨u0, u1, u2, u3, u4, u5, u6, u7, u8⟩ := hQ.c9; have uz := hQ.frozen; have ul := hQ.lt))
    all_goals (rename_i hHeld; clear hHeld)
    all_goals
      have EW : Hid (Ex w w5) := Lib.hid (Ew3.out.chg hC5 (by omega))
      have HFM := Lib.hid (FM.out _ hC5)
      have HMR := HNER.out _ hC5 _ _ HFM.out
      have HFN : Hid (FrM w5 w.heap.size n5 b5) := Lib.hid (FrM.mono hf5 (by omega))
      have HNR := HNER.out _ hC5 _ _ HFN.out
      have HFW := Lib.hid hn5
      have MBR := Lib.hid HMR.1.1
      have MBQ := Lib.hid HMR.1.2
      have MFR := Lib.hid HMR.2.1.1
      have MFQ := Lib.hid HMR.2.1.2
      have MLR := Lib.hid HMR.2.2.1.1
      have MLQ := Lib.hid HMR.2.2.1.2
      have MOR := Lib.hid HMR.2.2.2.1
      have MOQ := Lib.hid HMR.2.2.2.2
      have NBR := Lib.hid HNR.1.1
      have NBQ := Lib.hid HNR.1.2
      have NFR := Lib.hid HNR.2.1.1
      have NFQ := Lib.hid HNR.2.1.2
      have NLR := Lib.hid HNR.2.2.1.1
      have NLQ := Lib.hid HNR.2.2.1.2
      have NOR := Lib.hid HNR.2.2.2.1
      have NOQ := Lib.hid HNR.2.2.2.2
      clear HMR HNR hf5 hn5 hO hR hQ hC5
      go_wp2
      exact bodyPost_ret (v := .tuple #[.agg #[.slice a2.b m2.table.buckets.length a2.bc, .slice a2.f m2.table.frames.length a2.fc, .slice a2.l m2.cache.lines.length a2.lc, .int .i64 m2.cache.hand, .int .i64 m2.tags.count, .int .i64 m2.tags.next, .int .i64 m2.tags.round, .slice a2.o m2.tags.owns.length a2.oc, .int .i64 m2.space], .agg #[.slice b5.b n5.table.buckets.length b5.bc, .slice b5.f n5.table.frames.length b5.fc, .slice b5.l n5.cache.lines.length b5.lc, .int .i64 n5.cache.hand, .int .i64 n5.tags.count, .int .i64 n5.tags.next, .int .i64 n5.tags.round, .slice b5.o n5.tags.owns.length b5.oc, .int .i64 n5.space]]) (by simp [results, Tryd.results6, go_sem, *]) rfl
        ⟨m2, n5, a2, b5, rfl, HM2.out, FewB.mono HFW.out (by omega), ⟨(by repeat' (first | with_reducible exact HFM.out.b | with_reducible refine Fr.put ?_ MBR.out _ | with_reducible refine Fr.put ?_ MBQ.out _)), (by repeat' (first | with_reducible exact HFM.out.f | with_reducible refine Fr.put ?_ MFR.out _ | with_reducible refine Fr.put ?_ MFQ.out _)), (by repeat' (first | with_reducible exact HFM.out.l | with_reducible refine Fr.put ?_ MLR.out _ | with_reducible refine Fr.put ?_ MLQ.out _)), (by repeat' (first | with_reducible exact HFM.out.o | with_reducible refine Fr.put ?_ MOR.out _ | with_reducible refine Fr.put ?_ MOQ.out _))⟩, ⟨(by repeat' (first | with_reducible exact HFN.out.b | with_reducible refine Fr.put ?_ NBR.out _ | with_reducible refine Fr.put ?_ NBQ.out _)), (by repeat' (first | with_reducible exact HFN.out.f | with_reducible refine Fr.put ?_ NFR.out _ | with_reducible refine Fr.put ?_ NFQ.out _)), (by repeat' (first | with_reducible exact HFN.out.l | with_reducible refine Fr.put ?_ NLR.out _ | with_reducible refine Fr.put ?_ NLQ.out _)), (by repeat' (first | with_reducible exact HFN.out.o | with_reducible refine Fr.put ?_ NOR.out _ | with_reducible refine Fr.put ?_ NOQ.out _))⟩, (by repeat' (first | with_reducible exact EW.out | with_reducible refine Ex.alloc ?_ _ | with_reducible refine Ex.drew ?_ | with_reducible refine Ex.put ?_ (by omega) _))⟩
end Go.Proofs.YtmipkeabfglfaaaDoor
/- Joined: Ms, Mb, Me. -/
/- MachineSame of both sides. -/
namespace Go.Proofs.YtmipkeabfglfaaaDoor
open Go.ChangeShapes Go.WideShapes Go.ChangeAt Go.RowKit
open Rec (sz cs)
set_option linter.unusedVariables false
set_option maxRecDepth 100000

set_option maxHeartbeats 2000000 in
theorem machSameI_c (x y : MachD) (a b : MA) (w : World) (hx : HasM w x a) (hy : HasM w y b) (hf : FewM x) (hg : FewM y) :
    Calls Tryd.prog 7 #[.agg #[.slice a.b x.table.buckets.length a.bc, .slice a.f x.table.frames.length a.fc, .slice a.l x.cache.lines.length a.lc, .int .i64 x.cache.hand, .int .i64 x.tags.count, .int .i64 x.tags.next, .int .i64 x.tags.round, .slice a.o x.tags.owns.length a.oc, .int .i64 x.space], .agg #[.slice b.b y.table.buckets.length b.bc, .slice b.f y.table.frames.length b.fc, .slice b.l y.cache.lines.length b.lc, .int .i64 y.cache.hand, .int .i64 y.tags.count, .int .i64 y.tags.next, .int .i64 y.tags.round, .slice b.o y.tags.owns.length b.oc, .int .i64 y.space]] w fun r w' => r = .returned (.bool (eqB x y)) ∧ Ex w w' := by
  have C1 := Lib.hid (fun w (h1 : HasM w x a) (h2 : HasM w y b) => tableSameI_c x.table y.table a.b a.bc a.f a.fc b.b b.bc b.f b.fc w h1.b h1.f h2.b h2.f hf.b hf.f hg.b hg.f)
  have C2 := Lib.hid (fun w (h1 : HasM w x a) (h2 : HasM w y b) => cacheSameI_c x.cache y.cache a.l b.l a.lc b.lc w h1.l h2.l hf.l hg.l)
  have C3 := Lib.hid (fun w (h1 : HasM w x a) (h2 : HasM w y b) => tagsSameI_c x.tags y.tags a.o b.o a.oc b.oc w h1.o h2.o hf.o hg.o)
  have HX := Lib.hid hx
  have HY := Lib.hid hy
  have HE := Lib.hid (mach_eq x y)
  clear hx hy hf hg
  cases h1 : eqB x.table y.table
  · rw [h1] at C1
    have e : eqB x y = false := by rw [eqB_false, Ne, HE.out]; intro h; have := eqB_false.1 h1; exact this h.1
    rw [e]
    clear e h1
    go_enter Tryd.func7, Tryd.ntmps7
    go_wp2_with fail
    refine name_calls ?_; intro v1 hv1
    have X1 : Hid (Chg (0) (0) w v1) := Lib.hid (by rw [hv1]; repeat' (first | with_reducible exact Chg.refl _ _ _ | with_reducible refine Chg.alloc ?_ _ | with_reducible refine Chg.drew ?_ | with_reducible refine Chg.set ?_ (by omega) _))
    have t1 : w.heap.size ≤ v1.heap.size := X1.out.size
    have Ev1 : Hid (Ex w v1) := Lib.hid ((Ex.refl w).chg X1.out (by omega))
    have KX : Hid (Blk v1 (w.heap.size) 34 [.slice a.b x.table.buckets.length a.bc, .slice a.f x.table.frames.length a.fc, .slice a.l x.cache.lines.length a.lc, .int .i64 x.cache.hand, .int .i64 x.tags.count, .int .i64 x.tags.next, .int .i64 x.tags.round, .slice a.o x.tags.owns.length a.oc, .int .i64 x.space]) := Lib.hid (by rw [hv1]; repeat' (first | with_reducible exact Blk.new_at _ _ _ (by simp) | with_reducible refine Blk.alloc ?_ _ | with_reducible refine Blk.drew ?_ | with_reducible refine Blk.far ?_ (by simp; omega) _))
    have lX : w.heap.size < v1.heap.size := KX.out.lt
    have KY : Hid (Blk v1 (w.heap.size + 1) 34 [.slice b.b y.table.buckets.length b.bc, .slice b.f y.table.frames.length b.fc, .slice b.l y.cache.lines.length b.lc, .int .i64 y.cache.hand, .int .i64 y.tags.count, .int .i64 y.tags.next, .int .i64 y.tags.round, .slice b.o y.tags.owns.length b.oc, .int .i64 y.space]) := Lib.hid (by rw [hv1]; repeat' (first | with_reducible exact Blk.new_at _ _ _ (by simp) | with_reducible refine Blk.alloc ?_ _ | with_reducible refine Blk.drew ?_ | with_reducible refine Blk.far ?_ (by simp; omega) _))
    have lY : w.heap.size + 1 < v1.heap.size := KY.out.lt
    have DX := Lib.hid (HX.out.ex Ev1.out)
    have DY := Lib.hid (HY.out.ex Ev1.out)
    clear hv1
    refine (C1.out _ DX.out DY.out).mono ?_; rintro r w1 ⟨rfl, hb1⟩
    have Y1 : Hid (Chg 0 0 v1 w1) := Lib.hid (Chg.of_ex hb1)
    have s1 : v1.heap.size ≤ w1.heap.size := Y1.out.size
    have Ew1 : Hid (Ex w w1) := Lib.hid (Ev1.out.chg Y1.out (by omega))
    clear hb1
    replace KX := Lib.hid (KX.out.chg Y1.out (by omega))
    replace KY := Lib.hid (KY.out.chg Y1.out (by omega))
    replace DX := Lib.hid (HX.out.ex Ew1.out)
    replace DY := Lib.hid (HY.out.ex Ew1.out)
    obtain ⟨qX0, qX1, qX2, qX3, qX4, qX5, qX6, qX7, qX8⟩ := KX.out.c9
    have jX := KX.out.lt
    obtain ⟨qY0, qY1, qY2, qY3, qY4, qY5, qY6, qY7, qY8⟩ := KY.out.c9
    have jY := KY.out.lt
    go_wp2
    go_ret
    exact ⟨rfl, Ew1.out⟩
  rw [h1] at C1
  cases h2 : eqB x.cache y.cache
  · rw [h2] at C2
    have e : eqB x y = false := by rw [eqB_false, Ne, HE.out]; intro h; have := eqB_false.1 h2; exact this h.2.1
    rw [e]
    clear e h2
    go_enter Tryd.func7, Tryd.ntmps7
    go_wp2_with fail
    refine name_calls ?_; intro v1 hv1
    have X1 : Hid (Chg (0) (0) w v1) := Lib.hid (by rw [hv1]; repeat' (first | with_reducible exact Chg.refl _ _ _ | with_reducible refine Chg.alloc ?_ _ | with_reducible refine Chg.drew ?_ | with_reducible refine Chg.set ?_ (by omega) _))
    have t1 : w.heap.size ≤ v1.heap.size := X1.out.size
    have Ev1 : Hid (Ex w v1) := Lib.hid ((Ex.refl w).chg X1.out (by omega))
    have KX : Hid (Blk v1 (w.heap.size) 34 [.slice a.b x.table.buckets.length a.bc, .slice a.f x.table.frames.length a.fc, .slice a.l x.cache.lines.length a.lc, .int .i64 x.cache.hand, .int .i64 x.tags.count, .int .i64 x.tags.next, .int .i64 x.tags.round, .slice a.o x.tags.owns.length a.oc, .int .i64 x.space]) := Lib.hid (by rw [hv1]; repeat' (first | with_reducible exact Blk.new_at _ _ _ (by simp) | with_reducible refine Blk.alloc ?_ _ | with_reducible refine Blk.drew ?_ | with_reducible refine Blk.far ?_ (by simp; omega) _))
    have lX : w.heap.size < v1.heap.size := KX.out.lt
    have KY : Hid (Blk v1 (w.heap.size + 1) 34 [.slice b.b y.table.buckets.length b.bc, .slice b.f y.table.frames.length b.fc, .slice b.l y.cache.lines.length b.lc, .int .i64 y.cache.hand, .int .i64 y.tags.count, .int .i64 y.tags.next, .int .i64 y.tags.round, .slice b.o y.tags.owns.length b.oc, .int .i64 y.space]) := Lib.hid (by rw [hv1]; repeat' (first | with_reducible exact Blk.new_at _ _ _ (by simp) | with_reducible refine Blk.alloc ?_ _ | with_reducible refine Blk.drew ?_ | with_reducible refine Blk.far ?_ (by simp; omega) _))
    have lY : w.heap.size + 1 < v1.heap.size := KY.out.lt
    have DX := Lib.hid (HX.out.ex Ev1.out)
    have DY := Lib.hid (HY.out.ex Ev1.out)
    clear hv1
    refine (C1.out _ DX.out DY.out).mono ?_; rintro r w1 ⟨rfl, hb1⟩
    have Y1 : Hid (Chg 0 0 v1 w1) := Lib.hid (Chg.of_ex hb1)
    have s1 : v1.heap.size ≤ w1.heap.size := Y1.out.size
    have Ew1 : Hid (Ex w w1) := Lib.hid (Ev1.out.chg Y1.out (by omega))
    clear hb1
    replace KX := Lib.hid (KX.out.chg Y1.out (by omega))
    replace KY := Lib.hid (KY.out.chg Y1.out (by omega))
    replace DX := Lib.hid (HX.out.ex Ew1.out)
    replace DY := Lib.hid (HY.out.ex Ew1.out)
    obtain ⟨qX0, qX1, qX2, qX3, qX4, qX5, qX6, qX7, qX8⟩ := KX.out.c9
    have jX := KX.out.lt
    obtain ⟨qY0, qY1, qY2, qY3, qY4, qY5, qY6, qY7, qY8⟩ := KY.out.c9
    have jY := KY.out.lt
    go_wp2_with fail
    refine name_calls ?_; intro v2 hv2
    have X2 : Hid (Chg (0) (0) w1 v2) := Lib.hid (by rw [hv2]; repeat' (first | with_reducible exact Chg.refl _ _ _ | with_reducible refine Chg.alloc ?_ _ | with_reducible refine Chg.drew ?_ | with_reducible refine Chg.set ?_ (by omega) _))
    have t2 : w1.heap.size ≤ v2.heap.size := X2.out.size
    have Ev2 : Hid (Ex w v2) := Lib.hid (Ew1.out.chg X2.out (by omega))
    clear qX0 qX1 qX2 qX3 qX4 qX5 qX6 qX7 qX8 jX
    clear qY0 qY1 qY2 qY3 qY4 qY5 qY6 qY7 qY8 jY
    replace KX := Lib.hid (KX.out.chg X2.out (by omega))
    replace KY := Lib.hid (KY.out.chg X2.out (by omega))
    replace DX := Lib.hid (HX.out.ex Ev2.out)
    replace DY := Lib.hid (HY.out.ex Ev2.out)
    clear hv2
    refine (C2.out _ DX.out DY.out).mono ?_; rintro r w2 ⟨rfl, hb2⟩
    have Y2 : Hid (Chg 0 0 v2 w2) := Lib.hid (Chg.of_ex hb2)
    have s2 : v2.heap.size ≤ w2.heap.size := Y2.out.size
    have Ew2 : Hid (Ex w w2) := Lib.hid (Ev2.out.chg Y2.out (by omega))
    clear hb2
    replace KX := Lib.hid (KX.out.chg Y2.out (by omega))
    replace KY := Lib.hid (KY.out.chg Y2.out (by omega))
    replace DX := Lib.hid (HX.out.ex Ew2.out)
    replace DY := Lib.hid (HY.out.ex Ew2.out)
    obtain ⟨qX0, qX1, qX2, qX3, qX4, qX5, qX6, qX7, qX8⟩ := KX.out.c9
    have jX := KX.out.lt
    obtain ⟨qY0, qY1, qY2, qY3, qY4, qY5, qY6, qY7, qY8⟩ := KY.out.c9
    have jY := KY.out.lt
    go_wp2
    go_ret
    exact ⟨rfl, Ew2.out⟩
  rw [h2] at C2
  cases h3 : eqB x.tags y.tags
  · rw [h3] at C3
    have e : eqB x y = false := by rw [eqB_false, Ne, HE.out]; intro h; have := eqB_false.1 h3; exact this h.2.2.1
    rw [e]
    clear e h3
    go_enter Tryd.func7, Tryd.ntmps7
    go_wp2_with fail
    refine name_calls ?_; intro v1 hv1
    have X1 : Hid (Chg (0) (0) w v1) := Lib.hid (by rw [hv1]; repeat' (first | with_reducible exact Chg.refl _ _ _ | with_reducible refine Chg.alloc ?_ _ | with_reducible refine Chg.drew ?_ | with_reducible refine Chg.set ?_ (by omega) _))
    have t1 : w.heap.size ≤ v1.heap.size := X1.out.size
    have Ev1 : Hid (Ex w v1) := Lib.hid ((Ex.refl w).chg X1.out (by omega))
    have KX : Hid (Blk v1 (w.heap.size) 34 [.slice a.b x.table.buckets.length a.bc, .slice a.f x.table.frames.length a.fc, .slice a.l x.cache.lines.length a.lc, .int .i64 x.cache.hand, .int .i64 x.tags.count, .int .i64 x.tags.next, .int .i64 x.tags.round, .slice a.o x.tags.owns.length a.oc, .int .i64 x.space]) := Lib.hid (by rw [hv1]; repeat' (first | with_reducible exact Blk.new_at _ _ _ (by simp) | with_reducible refine Blk.alloc ?_ _ | with_reducible refine Blk.drew ?_ | with_reducible refine Blk.far ?_ (by simp; omega) _))
    have lX : w.heap.size < v1.heap.size := KX.out.lt
    have KY : Hid (Blk v1 (w.heap.size + 1) 34 [.slice b.b y.table.buckets.length b.bc, .slice b.f y.table.frames.length b.fc, .slice b.l y.cache.lines.length b.lc, .int .i64 y.cache.hand, .int .i64 y.tags.count, .int .i64 y.tags.next, .int .i64 y.tags.round, .slice b.o y.tags.owns.length b.oc, .int .i64 y.space]) := Lib.hid (by rw [hv1]; repeat' (first | with_reducible exact Blk.new_at _ _ _ (by simp) | with_reducible refine Blk.alloc ?_ _ | with_reducible refine Blk.drew ?_ | with_reducible refine Blk.far ?_ (by simp; omega) _))
    have lY : w.heap.size + 1 < v1.heap.size := KY.out.lt
    have DX := Lib.hid (HX.out.ex Ev1.out)
    have DY := Lib.hid (HY.out.ex Ev1.out)
    clear hv1
    refine (C1.out _ DX.out DY.out).mono ?_; rintro r w1 ⟨rfl, hb1⟩
    have Y1 : Hid (Chg 0 0 v1 w1) := Lib.hid (Chg.of_ex hb1)
    have s1 : v1.heap.size ≤ w1.heap.size := Y1.out.size
    have Ew1 : Hid (Ex w w1) := Lib.hid (Ev1.out.chg Y1.out (by omega))
    clear hb1
    replace KX := Lib.hid (KX.out.chg Y1.out (by omega))
    replace KY := Lib.hid (KY.out.chg Y1.out (by omega))
    replace DX := Lib.hid (HX.out.ex Ew1.out)
    replace DY := Lib.hid (HY.out.ex Ew1.out)
    obtain ⟨qX0, qX1, qX2, qX3, qX4, qX5, qX6, qX7, qX8⟩ := KX.out.c9
    have jX := KX.out.lt
    obtain ⟨qY0, qY1, qY2, qY3, qY4, qY5, qY6, qY7, qY8⟩ := KY.out.c9
    have jY := KY.out.lt
    go_wp2_with fail
    refine name_calls ?_; intro v2 hv2
    have X2 : Hid (Chg (0) (0) w1 v2) := Lib.hid (by rw [hv2]; repeat' (first | with_reducible exact Chg.refl _ _ _ | with_reducible refine Chg.alloc ?_ _ | with_reducible refine Chg.drew ?_ | with_reducible refine Chg.set ?_ (by omega) _))
    have t2 : w1.heap.size ≤ v2.heap.size := X2.out.size
    have Ev2 : Hid (Ex w v2) := Lib.hid (Ew1.out.chg X2.out (by omega))
    clear qX0 qX1 qX2 qX3 qX4 qX5 qX6 qX7 qX8 jX
    clear qY0 qY1 qY2 qY3 qY4 qY5 qY6 qY7 qY8 jY
    replace KX := Lib.hid (KX.out.chg X2.out (by omega))
    replace KY := Lib.hid (KY.out.chg X2.out (by omega))
    replace DX := Lib.hid (HX.out.ex Ev2.out)
    replace DY := Lib.hid (HY.out.ex Ev2.out)
    clear hv2
    refine (C2.out _ DX.out DY.out).mono ?_; rintro r w2 ⟨rfl, hb2⟩
    have Y2 : Hid (Chg 0 0 v2 w2) := Lib.hid (Chg.of_ex hb2)
    have s2 : v2.heap.size ≤ w2.heap.size := Y2.out.size
    have Ew2 : Hid (Ex w w2) := Lib.hid (Ev2.out.chg Y2.out (by omega))
    clear hb2
    replace KX := Lib.hid (KX.out.chg Y2.out (by omega))
    replace KY := Lib.hid (KY.out.chg Y2.out (by omega))
    replace DX := Lib.hid (HX.out.ex Ew2.out)
    replace DY := Lib.hid (HY.out.ex Ew2.out)
    obtain ⟨qX0, qX1, qX2, qX3, qX4, qX5, qX6, qX7, qX8⟩ := KX.out.c9
    have jX := KX.out.lt
    obtain ⟨qY0, qY1, qY2, qY3, qY4, qY5, qY6, qY7, qY8⟩ := KY.out.c9
    have jY := KY.out.lt
    go_wp2_with fail
    refine name_calls ?_; intro v3 hv3
    have X3 : Hid (Chg (0) (0) w2 v3) := Lib.hid (by rw [hv3]; repeat' (first | with_reducible exact Chg.refl _ _ _ | with_reducible refine Chg.alloc ?_ _ | with_reducible refine Chg.drew ?_ | with_reducible refine Chg.set ?_ (by omega) _))
    have t3 : w2.heap.size ≤ v3.heap.size := X3.out.size
    have Ev3 : Hid (Ex w v3) := Lib.hid (Ew2.out.chg X3.out (by omega))
    clear qX0 qX1 qX2 qX3 qX4 qX5 qX6 qX7 qX8 jX
    clear qY0 qY1 qY2 qY3 qY4 qY5 qY6 qY7 qY8 jY
    replace KX := Lib.hid (KX.out.chg X3.out (by omega))
    replace KY := Lib.hid (KY.out.chg X3.out (by omega))
    replace DX := Lib.hid (HX.out.ex Ev3.out)
    replace DY := Lib.hid (HY.out.ex Ev3.out)
    clear hv3
    refine (C3.out _ DX.out DY.out).mono ?_; rintro r w3 ⟨rfl, hb3⟩
    have Y3 : Hid (Chg 0 0 v3 w3) := Lib.hid (Chg.of_ex hb3)
    have s3 : v3.heap.size ≤ w3.heap.size := Y3.out.size
    have Ew3 : Hid (Ex w w3) := Lib.hid (Ev3.out.chg Y3.out (by omega))
    clear hb3
    replace KX := Lib.hid (KX.out.chg Y3.out (by omega))
    replace KY := Lib.hid (KY.out.chg Y3.out (by omega))
    replace DX := Lib.hid (HX.out.ex Ew3.out)
    replace DY := Lib.hid (HY.out.ex Ew3.out)
    obtain ⟨qX0, qX1, qX2, qX3, qX4, qX5, qX6, qX7, qX8⟩ := KX.out.c9
    have jX := KX.out.lt
    obtain ⟨qY0, qY1, qY2, qY3, qY4, qY5, qY6, qY7, qY8⟩ := KY.out.c9
    have jY := KY.out.lt
    go_wp2
    go_ret
    exact ⟨rfl, Ew3.out⟩
  rw [h3] at C3
  have e : eqB x y = (x.space == y.space) := by rw [Bool.eq_iff_iff, eqB_true, HE.out, beq_iff_eq]; exact ⟨fun h => h.2.2.2, fun h => ⟨eqB_true.1 h1, eqB_true.1 h2, eqB_true.1 h3, h⟩⟩
  rw [e]
  clear e h1 h2 h3
  go_enter Tryd.func7, Tryd.ntmps7
  go_wp2_with fail
  refine name_calls ?_; intro v1 hv1
  have X1 : Hid (Chg (0) (0) w v1) := Lib.hid (by rw [hv1]; repeat' (first | with_reducible exact Chg.refl _ _ _ | with_reducible refine Chg.alloc ?_ _ | with_reducible refine Chg.drew ?_ | with_reducible refine Chg.set ?_ (by omega) _))
  have t1 : w.heap.size ≤ v1.heap.size := X1.out.size
  have Ev1 : Hid (Ex w v1) := Lib.hid ((Ex.refl w).chg X1.out (by omega))
  have KX : Hid (Blk v1 (w.heap.size) 34 [.slice a.b x.table.buckets.length a.bc, .slice a.f x.table.frames.length a.fc, .slice a.l x.cache.lines.length a.lc, .int .i64 x.cache.hand, .int .i64 x.tags.count, .int .i64 x.tags.next, .int .i64 x.tags.round, .slice a.o x.tags.owns.length a.oc, .int .i64 x.space]) := Lib.hid (by rw [hv1]; repeat' (first | with_reducible exact Blk.new_at _ _ _ (by simp) | with_reducible refine Blk.alloc ?_ _ | with_reducible refine Blk.drew ?_ | with_reducible refine Blk.far ?_ (by simp; omega) _))
  have lX : w.heap.size < v1.heap.size := KX.out.lt
  have KY : Hid (Blk v1 (w.heap.size + 1) 34 [.slice b.b y.table.buckets.length b.bc, .slice b.f y.table.frames.length b.fc, .slice b.l y.cache.lines.length b.lc, .int .i64 y.cache.hand, .int .i64 y.tags.count, .int .i64 y.tags.next, .int .i64 y.tags.round, .slice b.o y.tags.owns.length b.oc, .int .i64 y.space]) := Lib.hid (by rw [hv1]; repeat' (first | with_reducible exact Blk.new_at _ _ _ (by simp) | with_reducible refine Blk.alloc ?_ _ | with_reducible refine Blk.drew ?_ | with_reducible refine Blk.far ?_ (by simp; omega) _))
  have lY : w.heap.size + 1 < v1.heap.size := KY.out.lt
  have DX := Lib.hid (HX.out.ex Ev1.out)
  have DY := Lib.hid (HY.out.ex Ev1.out)
  clear hv1
  refine (C1.out _ DX.out DY.out).mono ?_; rintro r w1 ⟨rfl, hb1⟩
  have Y1 : Hid (Chg 0 0 v1 w1) := Lib.hid (Chg.of_ex hb1)
  have s1 : v1.heap.size ≤ w1.heap.size := Y1.out.size
  have Ew1 : Hid (Ex w w1) := Lib.hid (Ev1.out.chg Y1.out (by omega))
  clear hb1
  replace KX := Lib.hid (KX.out.chg Y1.out (by omega))
  replace KY := Lib.hid (KY.out.chg Y1.out (by omega))
  replace DX := Lib.hid (HX.out.ex Ew1.out)
  replace DY := Lib.hid (HY.out.ex Ew1.out)
  obtain ⟨qX0, qX1, qX2, qX3, qX4, qX5, qX6, qX7, qX8⟩ := KX.out.c9
  have jX := KX.out.lt
  obtain ⟨qY0, qY1, qY2, qY3, qY4, qY5, qY6, qY7, qY8⟩ := KY.out.c9
  have jY := KY.out.lt
  go_wp2_with fail
  refine name_calls ?_; intro v2 hv2
  have X2 : Hid (Chg (0) (0) w1 v2) := Lib.hid (by rw [hv2]; repeat' (first | with_reducible exact Chg.refl _ _ _ | with_reducible refine Chg.alloc ?_ _ | with_reducible refine Chg.drew ?_ | with_reducible refine Chg.set ?_ (by omega) _))
  have t2 : w1.heap.size ≤ v2.heap.size := X2.out.size
  have Ev2 : Hid (Ex w v2) := Lib.hid (Ew1.out.chg X2.out (by omega))
  clear qX0 qX1 qX2 qX3 qX4 qX5 qX6 qX7 qX8 jX
  clear qY0 qY1 qY2 qY3 qY4 qY5 qY6 qY7 qY8 jY
  replace KX := Lib.hid (KX.out.chg X2.out (by omega))
  replace KY := Lib.hid (KY.out.chg X2.out (by omega))
  replace DX := Lib.hid (HX.out.ex Ev2.out)
  replace DY := Lib.hid (HY.out.ex Ev2.out)
  clear hv2
  refine (C2.out _ DX.out DY.out).mono ?_; rintro r w2 ⟨rfl, hb2⟩
  have Y2 : Hid (Chg 0 0 v2 w2) := Lib.hid (Chg.of_ex hb2)
  have s2 : v2.heap.size ≤ w2.heap.size := Y2.out.size
  have Ew2 : Hid (Ex w w2) := Lib.hid (Ev2.out.chg Y2.out (by omega))
  clear hb2
  replace KX := Lib.hid (KX.out.chg Y2.out (by omega))
  replace KY := Lib.hid (KY.out.chg Y2.out (by omega))
  replace DX := Lib.hid (HX.out.ex Ew2.out)
  replace DY := Lib.hid (HY.out.ex Ew2.out)
  obtain ⟨qX0, qX1, qX2, qX3, qX4, qX5, qX6, qX7, qX8⟩ := KX.out.c9
  have jX := KX.out.lt
  obtain ⟨qY0, qY1, qY2, qY3, qY4, qY5, qY6, qY7, qY8⟩ := KY.out.c9
  have jY := KY.out.lt
  go_wp2_with fail
  refine name_calls ?_; intro v3 hv3
  have X3 : Hid (Chg (0) (0) w2 v3) := Lib.hid (by rw [hv3]; repeat' (first | with_reducible exact Chg.refl _ _ _ | with_reducible refine Chg.alloc ?_ _ | with_reducible refine Chg.drew ?_ | with_reducible refine Chg.set ?_ (by omega) _))
  have t3 : w2.heap.size ≤ v3.heap.size := X3.out.size
  have Ev3 : Hid (Ex w v3) := Lib.hid (Ew2.out.chg X3.out (by omega))
  clear qX0 qX1 qX2 qX3 qX4 qX5 qX6 qX7 qX8 jX
  clear qY0 qY1 qY2 qY3 qY4 qY5 qY6 qY7 qY8 jY
  replace KX := Lib.hid (KX.out.chg X3.out (by omega))
  replace KY := Lib.hid (KY.out.chg X3.out (by omega))
  replace DX := Lib.hid (HX.out.ex Ev3.out)
  replace DY := Lib.hid (HY.out.ex Ev3.out)
  clear hv3
  refine (C3.out _ DX.out DY.out).mono ?_; rintro r w3 ⟨rfl, hb3⟩
  have Y3 : Hid (Chg 0 0 v3 w3) := Lib.hid (Chg.of_ex hb3)
  have s3 : v3.heap.size ≤ w3.heap.size := Y3.out.size
  have Ew3 : Hid (Ex w w3) := Lib.hid (Ev3.out.chg Y3.out (by omega))
  clear hb3
  replace KX := Lib.hid (KX.out.chg Y3.out (by omega))
  replace KY := Lib.hid (KY.out.chg Y3.out (by omega))
  replace DX := Lib.hid (HX.out.ex Ew3.out)
  replace DY := Lib.hid (HY.out.ex Ew3.out)
  obtain ⟨qX0, qX1, qX2, qX3, qX4, qX5, qX6, qX7, qX8⟩ := KX.out.c9
  have jX := KX.out.lt
  obtain ⟨qY0, qY1, qY2, qY3, qY4, qY5, qY6, qY7, qY8⟩ := KY.out.c9
  have jY := KY.out.lt
  go_wp2
  go_ret
  exact ⟨rfl, Ew3.out⟩

set_option maxHeartbeats 2000000 in
theorem machSameS_c (x y : MachD) (a b : MA) (w : World) (hx : HasM w x a) (hy : HasM w y b) (hf : FewM x) (hg : FewM y) :
    Calls Tryd.prog 8 #[.agg #[.slice a.b x.table.buckets.length a.bc, .slice a.f x.table.frames.length a.fc, .slice a.l x.cache.lines.length a.lc, .int .i64 x.cache.hand, .int .i64 x.tags.count, .int .i64 x.tags.next, .int .i64 x.tags.round, .slice a.o x.tags.owns.length a.oc, .int .i64 x.space], .agg #[.slice b.b y.table.buckets.length b.bc, .slice b.f y.table.frames.length b.fc, .slice b.l y.cache.lines.length b.lc, .int .i64 y.cache.hand, .int .i64 y.tags.count, .int .i64 y.tags.next, .int .i64 y.tags.round, .slice b.o y.tags.owns.length b.oc, .int .i64 y.space]] w fun r w' => r = .returned (.bool (eqB x y)) ∧ Ex w w' := by
  have C1 := Lib.hid (fun w (h1 : HasM w x a) (h2 : HasM w y b) => tableSameS_c x.table y.table a.b a.bc a.f a.fc b.b b.bc b.f b.fc w h1.b h1.f h2.b h2.f hf.b hf.f hg.b hg.f)
  have C2 := Lib.hid (fun w (h1 : HasM w x a) (h2 : HasM w y b) => cacheSameS_c x.cache y.cache a.l b.l a.lc b.lc w h1.l h2.l hf.l hg.l)
  have C3 := Lib.hid (fun w (h1 : HasM w x a) (h2 : HasM w y b) => tagsSameS_c x.tags y.tags a.o b.o a.oc b.oc w h1.o h2.o hf.o hg.o)
  have HX := Lib.hid hx
  have HY := Lib.hid hy
  have HE := Lib.hid (mach_eq x y)
  clear hx hy hf hg
  cases h1 : eqB x.table y.table
  · rw [h1] at C1
    have e : eqB x y = false := by rw [eqB_false, Ne, HE.out]; intro h; have := eqB_false.1 h1; exact this h.1
    rw [e]
    clear e h1
    go_enter Tryd.func8, Tryd.ntmps8
    go_wp2_with fail
    refine name_calls ?_; intro v1 hv1
    have X1 : Hid (Chg (0) (0) w v1) := Lib.hid (by rw [hv1]; repeat' (first | with_reducible exact Chg.refl _ _ _ | with_reducible refine Chg.alloc ?_ _ | with_reducible refine Chg.drew ?_ | with_reducible refine Chg.set ?_ (by omega) _))
    have t1 : w.heap.size ≤ v1.heap.size := X1.out.size
    have Ev1 : Hid (Ex w v1) := Lib.hid ((Ex.refl w).chg X1.out (by omega))
    have KX : Hid (Blk v1 (w.heap.size) 34 [.slice a.b x.table.buckets.length a.bc, .slice a.f x.table.frames.length a.fc, .slice a.l x.cache.lines.length a.lc, .int .i64 x.cache.hand, .int .i64 x.tags.count, .int .i64 x.tags.next, .int .i64 x.tags.round, .slice a.o x.tags.owns.length a.oc, .int .i64 x.space]) := Lib.hid (by rw [hv1]; repeat' (first | with_reducible exact Blk.new_at _ _ _ (by simp) | with_reducible refine Blk.alloc ?_ _ | with_reducible refine Blk.drew ?_ | with_reducible refine Blk.far ?_ (by simp; omega) _))
    have lX : w.heap.size < v1.heap.size := KX.out.lt
    have KY : Hid (Blk v1 (w.heap.size + 1) 34 [.slice b.b y.table.buckets.length b.bc, .slice b.f y.table.frames.length b.fc, .slice b.l y.cache.lines.length b.lc, .int .i64 y.cache.hand, .int .i64 y.tags.count, .int .i64 y.tags.next, .int .i64 y.tags.round, .slice b.o y.tags.owns.length b.oc, .int .i64 y.space]) := Lib.hid (by rw [hv1]; repeat' (first | with_reducible exact Blk.new_at _ _ _ (by simp) | with_reducible refine Blk.alloc ?_ _ | with_reducible refine Blk.drew ?_ | with_reducible refine Blk.far ?_ (by simp; omega) _))
    have lY : w.heap.size + 1 < v1.heap.size := KY.out.lt
    have DX := Lib.hid (HX.out.ex Ev1.out)
    have DY := Lib.hid (HY.out.ex Ev1.out)
    clear hv1
    refine (C1.out _ DX.out DY.out).mono ?_; rintro r w1 ⟨rfl, hb1⟩
    have Y1 : Hid (Chg 0 0 v1 w1) := Lib.hid (Chg.of_ex hb1)
    have s1 : v1.heap.size ≤ w1.heap.size := Y1.out.size
    have Ew1 : Hid (Ex w w1) := Lib.hid (Ev1.out.chg Y1.out (by omega))
    clear hb1
    replace KX := Lib.hid (KX.out.chg Y1.out (by omega))
    replace KY := Lib.hid (KY.out.chg Y1.out (by omega))
    replace DX := Lib.hid (HX.out.ex Ew1.out)
    replace DY := Lib.hid (HY.out.ex Ew1.out)
    obtain ⟨qX0, qX1, qX2, qX3, qX4, qX5, qX6, qX7, qX8⟩ := KX.out.c9
    have jX := KX.out.lt
    obtain ⟨qY0, qY1, qY2, qY3, qY4, qY5, qY6, qY7, qY8⟩ := KY.out.c9
    have jY := KY.out.lt
    go_wp2
    go_ret
    exact ⟨rfl, Ew1.out⟩
  rw [h1] at C1
  cases h2 : eqB x.cache y.cache
  · rw [h2] at C2
    have e : eqB x y = false := by rw [eqB_false, Ne, HE.out]; intro h; have := eqB_false.1 h2; exact this h.2.1
    rw [e]
    clear e h2
    go_enter Tryd.func8, Tryd.ntmps8
    go_wp2_with fail
    refine name_calls ?_; intro v1 hv1
    have X1 : Hid (Chg (0) (0) w v1) := Lib.hid (by rw [hv1]; repeat' (first | with_reducible exact Chg.refl _ _ _ | with_reducible refine Chg.alloc ?_ _ | with_reducible refine Chg.drew ?_ | with_reducible refine Chg.set ?_ (by omega) _))
    have t1 : w.heap.size ≤ v1.heap.size := X1.out.size
    have Ev1 : Hid (Ex w v1) := Lib.hid ((Ex.refl w).chg X1.out (by omega))
    have KX : Hid (Blk v1 (w.heap.size) 34 [.slice a.b x.table.buckets.length a.bc, .slice a.f x.table.frames.length a.fc, .slice a.l x.cache.lines.length a.lc, .int .i64 x.cache.hand, .int .i64 x.tags.count, .int .i64 x.tags.next, .int .i64 x.tags.round, .slice a.o x.tags.owns.length a.oc, .int .i64 x.space]) := Lib.hid (by rw [hv1]; repeat' (first | with_reducible exact Blk.new_at _ _ _ (by simp) | with_reducible refine Blk.alloc ?_ _ | with_reducible refine Blk.drew ?_ | with_reducible refine Blk.far ?_ (by simp; omega) _))
    have lX : w.heap.size < v1.heap.size := KX.out.lt
    have KY : Hid (Blk v1 (w.heap.size + 1) 34 [.slice b.b y.table.buckets.length b.bc, .slice b.f y.table.frames.length b.fc, .slice b.l y.cache.lines.length b.lc, .int .i64 y.cache.hand, .int .i64 y.tags.count, .int .i64 y.tags.next, .int .i64 y.tags.round, .slice b.o y.tags.owns.length b.oc, .int .i64 y.space]) := Lib.hid (by rw [hv1]; repeat' (first | with_reducible exact Blk.new_at _ _ _ (by simp) | with_reducible refine Blk.alloc ?_ _ | with_reducible refine Blk.drew ?_ | with_reducible refine Blk.far ?_ (by simp; omega) _))
    have lY : w.heap.size + 1 < v1.heap.size := KY.out.lt
    have DX := Lib.hid (HX.out.ex Ev1.out)
    have DY := Lib.hid (HY.out.ex Ev1.out)
    clear hv1
    refine (C1.out _ DX.out DY.out).mono ?_; rintro r w1 ⟨rfl, hb1⟩
    have Y1 : Hid (Chg 0 0 v1 w1) := Lib.hid (Chg.of_ex hb1)
    have s1 : v1.heap.size ≤ w1.heap.size := Y1.out.size
    have Ew1 : Hid (Ex w w1) := Lib.hid (Ev1.out.chg Y1.out (by omega))
    clear hb1
    replace KX := Lib.hid (KX.out.chg Y1.out (by omega))
    replace KY := Lib.hid (KY.out.chg Y1.out (by omega))
    replace DX := Lib.hid (HX.out.ex Ew1.out)
    replace DY := Lib.hid (HY.out.ex Ew1.out)
    obtain ⟨qX0, qX1, qX2, qX3, qX4, qX5, qX6, qX7, qX8⟩ := KX.out.c9
    have jX := KX.out.lt
    obtain ⟨qY0, qY1, qY2, qY3, qY4, qY5, qY6, qY7, qY8⟩ := KY.out.c9
    have jY := KY.out.lt
    go_wp2_with fail
    refine name_calls ?_; intro v2 hv2
    have X2 : Hid (Chg (0) (0) w1 v2) := Lib.hid (by rw [hv2]; repeat' (first | with_reducible exact Chg.refl _ _ _ | with_reducible refine Chg.alloc ?_ _ | with_reducible refine Chg.drew ?_ | with_reducible refine Chg.set ?_ (by omega) _))
    have t2 : w1.heap.size ≤ v2.heap.size := X2.out.size
    have Ev2 : Hid (Ex w v2) := Lib.hid (Ew1.out.chg X2.out (by omega))
    clear qX0 qX1 qX2 qX3 qX4 qX5 qX6 qX7 qX8 jX
    clear qY0 qY1 qY2 qY3 qY4 qY5 qY6 qY7 qY8 jY
    replace KX := Lib.hid (KX.out.chg X2.out (by omega))
    replace KY := Lib.hid (KY.out.chg X2.out (by omega))
    replace DX := Lib.hid (HX.out.ex Ev2.out)
    replace DY := Lib.hid (HY.out.ex Ev2.out)
    clear hv2
    refine (C2.out _ DX.out DY.out).mono ?_; rintro r w2 ⟨rfl, hb2⟩
    have Y2 : Hid (Chg 0 0 v2 w2) := Lib.hid (Chg.of_ex hb2)
    have s2 : v2.heap.size ≤ w2.heap.size := Y2.out.size
    have Ew2 : Hid (Ex w w2) := Lib.hid (Ev2.out.chg Y2.out (by omega))
    clear hb2
    replace KX := Lib.hid (KX.out.chg Y2.out (by omega))
    replace KY := Lib.hid (KY.out.chg Y2.out (by omega))
    replace DX := Lib.hid (HX.out.ex Ew2.out)
    replace DY := Lib.hid (HY.out.ex Ew2.out)
    obtain ⟨qX0, qX1, qX2, qX3, qX4, qX5, qX6, qX7, qX8⟩ := KX.out.c9
    have jX := KX.out.lt
    obtain ⟨qY0, qY1, qY2, qY3, qY4, qY5, qY6, qY7, qY8⟩ := KY.out.c9
    have jY := KY.out.lt
    go_wp2
    go_ret
    exact ⟨rfl, Ew2.out⟩
  rw [h2] at C2
  cases h3 : eqB x.tags y.tags
  · rw [h3] at C3
    have e : eqB x y = false := by rw [eqB_false, Ne, HE.out]; intro h; have := eqB_false.1 h3; exact this h.2.2.1
    rw [e]
    clear e h3
    go_enter Tryd.func8, Tryd.ntmps8
    go_wp2_with fail
    refine name_calls ?_; intro v1 hv1
    have X1 : Hid (Chg (0) (0) w v1) := Lib.hid (by rw [hv1]; repeat' (first | with_reducible exact Chg.refl _ _ _ | with_reducible refine Chg.alloc ?_ _ | with_reducible refine Chg.drew ?_ | with_reducible refine Chg.set ?_ (by omega) _))
    have t1 : w.heap.size ≤ v1.heap.size := X1.out.size
    have Ev1 : Hid (Ex w v1) := Lib.hid ((Ex.refl w).chg X1.out (by omega))
    have KX : Hid (Blk v1 (w.heap.size) 34 [.slice a.b x.table.buckets.length a.bc, .slice a.f x.table.frames.length a.fc, .slice a.l x.cache.lines.length a.lc, .int .i64 x.cache.hand, .int .i64 x.tags.count, .int .i64 x.tags.next, .int .i64 x.tags.round, .slice a.o x.tags.owns.length a.oc, .int .i64 x.space]) := Lib.hid (by rw [hv1]; repeat' (first | with_reducible exact Blk.new_at _ _ _ (by simp) | with_reducible refine Blk.alloc ?_ _ | with_reducible refine Blk.drew ?_ | with_reducible refine Blk.far ?_ (by simp; omega) _))
    have lX : w.heap.size < v1.heap.size := KX.out.lt
    have KY : Hid (Blk v1 (w.heap.size + 1) 34 [.slice b.b y.table.buckets.length b.bc, .slice b.f y.table.frames.length b.fc, .slice b.l y.cache.lines.length b.lc, .int .i64 y.cache.hand, .int .i64 y.tags.count, .int .i64 y.tags.next, .int .i64 y.tags.round, .slice b.o y.tags.owns.length b.oc, .int .i64 y.space]) := Lib.hid (by rw [hv1]; repeat' (first | with_reducible exact Blk.new_at _ _ _ (by simp) | with_reducible refine Blk.alloc ?_ _ | with_reducible refine Blk.drew ?_ | with_reducible refine Blk.far ?_ (by simp; omega) _))
    have lY : w.heap.size + 1 < v1.heap.size := KY.out.lt
    have DX := Lib.hid (HX.out.ex Ev1.out)
    have DY := Lib.hid (HY.out.ex Ev1.out)
    clear hv1
    refine (C1.out _ DX.out DY.out).mono ?_; rintro r w1 ⟨rfl, hb1⟩
    have Y1 : Hid (Chg 0 0 v1 w1) := Lib.hid (Chg.of_ex hb1)
    have s1 : v1.heap.size ≤ w1.heap.size := Y1.out.size
    have Ew1 : Hid (Ex w w1) := Lib.hid (Ev1.out.chg Y1.out (by omega))
    clear hb1
    replace KX := Lib.hid (KX.out.chg Y1.out (by omega))
    replace KY := Lib.hid (KY.out.chg Y1.out (by omega))
    replace DX := Lib.hid (HX.out.ex Ew1.out)
    replace DY := Lib.hid (HY.out.ex Ew1.out)
    obtain ⟨qX0, qX1, qX2, qX3, qX4, qX5, qX6, qX7, qX8⟩ := KX.out.c9
    have jX := KX.out.lt
    obtain ⟨qY0, qY1, qY2, qY3, qY4, qY5, qY6, qY7, qY8⟩ := KY.out.c9
    have jY := KY.out.lt
    go_wp2_with fail
    refine name_calls ?_; intro v2 hv2
    have X2 : Hid (Chg (0) (0) w1 v2) := Lib.hid (by rw [hv2]; repeat' (first | with_reducible exact Chg.refl _ _ _ | with_reducible refine Chg.alloc ?_ _ | with_reducible refine Chg.drew ?_ | with_reducible refine Chg.set ?_ (by omega) _))
    have t2 : w1.heap.size ≤ v2.heap.size := X2.out.size
    have Ev2 : Hid (Ex w v2) := Lib.hid (Ew1.out.chg X2.out (by omega))
    clear qX0 qX1 qX2 qX3 qX4 qX5 qX6 qX7 qX8 jX
    clear qY0 qY1 qY2 qY3 qY4 qY5 qY6 qY7 qY8 jY
    replace KX := Lib.hid (KX.out.chg X2.out (by omega))
    replace KY := Lib.hid (KY.out.chg X2.out (by omega))
    replace DX := Lib.hid (HX.out.ex Ev2.out)
    replace DY := Lib.hid (HY.out.ex Ev2.out)
    clear hv2
    refine (C2.out _ DX.out DY.out).mono ?_; rintro r w2 ⟨rfl, hb2⟩
    have Y2 : Hid (Chg 0 0 v2 w2) := Lib.hid (Chg.of_ex hb2)
    have s2 : v2.heap.size ≤ w2.heap.size := Y2.out.size
    have Ew2 : Hid (Ex w w2) := Lib.hid (Ev2.out.chg Y2.out (by omega))
    clear hb2
    replace KX := Lib.hid (KX.out.chg Y2.out (by omega))
    replace KY := Lib.hid (KY.out.chg Y2.out (by omega))
    replace DX := Lib.hid (HX.out.ex Ew2.out)
    replace DY := Lib.hid (HY.out.ex Ew2.out)
    obtain ⟨qX0, qX1, qX2, qX3, qX4, qX5, qX6, qX7, qX8⟩ := KX.out.c9
    have jX := KX.out.lt
    obtain ⟨qY0, qY1, qY2, qY3, qY4, qY5, qY6, qY7, qY8⟩ := KY.out.c9
    have jY := KY.out.lt
    go_wp2_with fail
    refine name_calls ?_; intro v3 hv3
    have X3 : Hid (Chg (0) (0) w2 v3) := Lib.hid (by rw [hv3]; repeat' (first | with_reducible exact Chg.refl _ _ _ | with_reducible refine Chg.alloc ?_ _ | with_reducible refine Chg.drew ?_ | with_reducible refine Chg.set ?_ (by omega) _))
    have t3 : w2.heap.size ≤ v3.heap.size := X3.out.size
    have Ev3 : Hid (Ex w v3) := Lib.hid (Ew2.out.chg X3.out (by omega))
    clear qX0 qX1 qX2 qX3 qX4 qX5 qX6 qX7 qX8 jX
    clear qY0 qY1 qY2 qY3 qY4 qY5 qY6 qY7 qY8 jY
    replace KX := Lib.hid (KX.out.chg X3.out (by omega))
    replace KY := Lib.hid (KY.out.chg X3.out (by omega))
    replace DX := Lib.hid (HX.out.ex Ev3.out)
    replace DY := Lib.hid (HY.out.ex Ev3.out)
    clear hv3
    refine (C3.out _ DX.out DY.out).mono ?_; rintro r w3 ⟨rfl, hb3⟩
    have Y3 : Hid (Chg 0 0 v3 w3) := Lib.hid (Chg.of_ex hb3)
    have s3 : v3.heap.size ≤ w3.heap.size := Y3.out.size
    have Ew3 : Hid (Ex w w3) := Lib.hid (Ev3.out.chg Y3.out (by omega))
    clear hb3
    replace KX := Lib.hid (KX.out.chg Y3.out (by omega))
    replace KY := Lib.hid (KY.out.chg Y3.out (by omega))
    replace DX := Lib.hid (HX.out.ex Ew3.out)
    replace DY := Lib.hid (HY.out.ex Ew3.out)
    obtain ⟨qX0, qX1, qX2, qX3, qX4, qX5, qX6, qX7, qX8⟩ := KX.out.c9
    have jX := KX.out.lt
    obtain ⟨qY0, qY1, qY2, qY3, qY4, qY5, qY6, qY7, qY8⟩ := KY.out.c9
    have jY := KY.out.lt
    go_wp2
    go_ret
    exact ⟨rfl, Ew3.out⟩
  rw [h3] at C3
  have e : eqB x y = (x.space == y.space) := by rw [Bool.eq_iff_iff, eqB_true, HE.out, beq_iff_eq]; exact ⟨fun h => h.2.2.2, fun h => ⟨eqB_true.1 h1, eqB_true.1 h2, eqB_true.1 h3, h⟩⟩
  rw [e]
  clear e h1 h2 h3
  go_enter Tryd.func8, Tryd.ntmps8
  go_wp2_with fail
  refine name_calls ?_; intro v1 hv1
  have X1 : Hid (Chg (0) (0) w v1) := Lib.hid (by rw [hv1]; repeat' (first | with_reducible exact Chg.refl _ _ _ | with_reducible refine Chg.alloc ?_ _ | with_reducible refine Chg.drew ?_ | with_reducible refine Chg.set ?_ (by omega) _))
  have t1 : w.heap.size ≤ v1.heap.size := X1.out.size
  have Ev1 : Hid (Ex w v1) := Lib.hid ((Ex.refl w).chg X1.out (by omega))
  have KX : Hid (Blk v1 (w.heap.size) 34 [.slice a.b x.table.buckets.length a.bc, .slice a.f x.table.frames.length a.fc, .slice a.l x.cache.lines.length a.lc, .int .i64 x.cache.hand, .int .i64 x.tags.count, .int .i64 x.tags.next, .int .i64 x.tags.round, .slice a.o x.tags.owns.length a.oc, .int .i64 x.space]) := Lib.hid (by rw [hv1]; repeat' (first | with_reducible exact Blk.new_at _ _ _ (by simp) | with_reducible refine Blk.alloc ?_ _ | with_reducible refine Blk.drew ?_ | with_reducible refine Blk.far ?_ (by simp; omega) _))
  have lX : w.heap.size < v1.heap.size := KX.out.lt
  have KY : Hid (Blk v1 (w.heap.size + 1) 34 [.slice b.b y.table.buckets.length b.bc, .slice b.f y.table.frames.length b.fc, .slice b.l y.cache.lines.length b.lc, .int .i64 y.cache.hand, .int .i64 y.tags.count, .int .i64 y.tags.next, .int .i64 y.tags.round, .slice b.o y.tags.owns.length b.oc, .int .i64 y.space]) := Lib.hid (by rw [hv1]; repeat' (first | with_reducible exact Blk.new_at _ _ _ (by simp) | with_reducible refine Blk.alloc ?_ _ | with_reducible refine Blk.drew ?_ | with_reducible refine Blk.far ?_ (by simp; omega) _))
  have lY : w.heap.size + 1 < v1.heap.size := KY.out.lt
  have DX := Lib.hid (HX.out.ex Ev1.out)
  have DY := Lib.hid (HY.out.ex Ev1.out)
  clear hv1
  refine (C1.out _ DX.out DY.out).mono ?_; rintro r w1 ⟨rfl, hb1⟩
  have Y1 : Hid (Chg 0 0 v1 w1) := Lib.hid (Chg.of_ex hb1)
  have s1 : v1.heap.size ≤ w1.heap.size := Y1.out.size
  have Ew1 : Hid (Ex w w1) := Lib.hid (Ev1.out.chg Y1.out (by omega))
  clear hb1
  replace KX := Lib.hid (KX.out.chg Y1.out (by omega))
  replace KY := Lib.hid (KY.out.chg Y1.out (by omega))
  replace DX := Lib.hid (HX.out.ex Ew1.out)
  replace DY := Lib.hid (HY.out.ex Ew1.out)
  obtain ⟨qX0, qX1, qX2, qX3, qX4, qX5, qX6, qX7, qX8⟩ := KX.out.c9
  have jX := KX.out.lt
  obtain ⟨qY0, qY1, qY2, qY3, qY4, qY5, qY6, qY7, qY8⟩ := KY.out.c9
  have jY := KY.out.lt
  go_wp2_with fail
  refine name_calls ?_; intro v2 hv2
  have X2 : Hid (Chg (0) (0) w1 v2) := Lib.hid (by rw [hv2]; repeat' (first | with_reducible exact Chg.refl _ _ _ | with_reducible refine Chg.alloc ?_ _ | with_reducible refine Chg.drew ?_ | with_reducible refine Chg.set ?_ (by omega) _))
  have t2 : w1.heap.size ≤ v2.heap.size := X2.out.size
  have Ev2 : Hid (Ex w v2) := Lib.hid (Ew1.out.chg X2.out (by omega))
  clear qX0 qX1 qX2 qX3 qX4 qX5 qX6 qX7 qX8 jX
  clear qY0 qY1 qY2 qY3 qY4 qY5 qY6 qY7 qY8 jY
  replace KX := Lib.hid (KX.out.chg X2.out (by omega))
  replace KY := Lib.hid (KY.out.chg X2.out (by omega))
  replace DX := Lib.hid (HX.out.ex Ev2.out)
  replace DY := Lib.hid (HY.out.ex Ev2.out)
  clear hv2
  refine (C2.out _ DX.out DY.out).mono ?_; rintro r w2 ⟨rfl, hb2⟩
  have Y2 : Hid (Chg 0 0 v2 w2) := Lib.hid (Chg.of_ex hb2)
  have s2 : v2.heap.size ≤ w2.heap.size := Y2.out.size
  have Ew2 : Hid (Ex w w2) := Lib.hid (Ev2.out.chg Y2.out (by omega))
  clear hb2
  replace KX := Lib.hid (KX.out.chg Y2.out (by omega))
  replace KY := Lib.hid (KY.out.chg Y2.out (by omega))
  replace DX := Lib.hid (HX.out.ex Ew2.out)
  replace DY := Lib.hid (HY.out.ex Ew2.out)
  obtain ⟨qX0, qX1, qX2, qX3, qX4, qX5, qX6, qX7, qX8⟩ := KX.out.c9
  have jX := KX.out.lt
  obtain ⟨qY0, qY1, qY2, qY3, qY4, qY5, qY6, qY7, qY8⟩ := KY.out.c9
  have jY := KY.out.lt
  go_wp2_with fail
  refine name_calls ?_; intro v3 hv3
  have X3 : Hid (Chg (0) (0) w2 v3) := Lib.hid (by rw [hv3]; repeat' (first | with_reducible exact Chg.refl _ _ _ | with_reducible refine Chg.alloc ?_ _ | with_reducible refine Chg.drew ?_ | with_reducible refine Chg.set ?_ (by omega) _))
  have t3 : w2.heap.size ≤ v3.heap.size := X3.out.size
  have Ev3 : Hid (Ex w v3) := Lib.hid (Ew2.out.chg X3.out (by omega))
  clear qX0 qX1 qX2 qX3 qX4 qX5 qX6 qX7 qX8 jX
  clear qY0 qY1 qY2 qY3 qY4 qY5 qY6 qY7 qY8 jY
  replace KX := Lib.hid (KX.out.chg X3.out (by omega))
  replace KY := Lib.hid (KY.out.chg X3.out (by omega))
  replace DX := Lib.hid (HX.out.ex Ev3.out)
  replace DY := Lib.hid (HY.out.ex Ev3.out)
  clear hv3
  refine (C3.out _ DX.out DY.out).mono ?_; rintro r w3 ⟨rfl, hb3⟩
  have Y3 : Hid (Chg 0 0 v3 w3) := Lib.hid (Chg.of_ex hb3)
  have s3 : v3.heap.size ≤ w3.heap.size := Y3.out.size
  have Ew3 : Hid (Ex w w3) := Lib.hid (Ev3.out.chg Y3.out (by omega))
  clear hb3
  replace KX := Lib.hid (KX.out.chg Y3.out (by omega))
  replace KY := Lib.hid (KY.out.chg Y3.out (by omega))
  replace DX := Lib.hid (HX.out.ex Ew3.out)
  replace DY := Lib.hid (HY.out.ex Ew3.out)
  obtain ⟨qX0, qX1, qX2, qX3, qX4, qX5, qX6, qX7, qX8⟩ := KX.out.c9
  have jX := KX.out.lt
  obtain ⟨qY0, qY1, qY2, qY3, qY4, qY5, qY6, qY7, qY8⟩ := KY.out.c9
  have jY := KY.out.lt
  go_wp2
  go_ret
  exact ⟨rfl, Ew3.out⟩

end Go.Proofs.YtmipkeabfglfaaaDoor

/- Contracts of the small functions over Bool: comparing, copying, counting, marking. Written by a program of mine from one pattern. -/
namespace Go.Proofs.YtmipkeabfglfaaaDoor
open Go.ChangeShapes Go.WideShapes Go.ChangeAt Go.RowKit
open Rec (sz cs)
set_option linter.unusedVariables false
set_option maxRecDepth 100000

end Go.Proofs.YtmipkeabfglfaaaDoor

/- Contracts over whole memories. -/
namespace Go.Proofs.YtmipkeabfglfaaaDoor
open Go.ChangeShapes Go.WideShapes Go.ChangeAt Go.RowKit
open Rec (sz cs)
set_option linter.unusedVariables false
set_option maxRecDepth 100000

/-- A memory's slices read as its lists. -/
structure HasE (w : World) (e : MemD) (a : MA) (K : Option Addr) : Prop where
  m : HasM w e.mach a
  k : Rd w K e.marks
theorem HasE.ex {w w' : World} {m : MemD} {a : MA} {K : Option Addr} (h : HasE w m a K) (k : Ex w w') : HasE w' m a K := ⟨h.m.ex k, h.k.ex k⟩
theorem HasE.drew {w : World} {m : MemD} {a : MA} {K : Option Addr} (h : HasE w m a K) : HasE w.drew m a K := ⟨h.m.drew, h.k⟩
structure FewE (e : MemD) : Prop where
  m : FewM e.mach
  k : e.marks.length ≤ 1048576
structure LenE (e : MemD) : Prop where
  m : LenM e.mach
  k : e.marks.length ≤ maxLen
structure CapE (e : MemD) (a : MA) (kc : Nat) : Prop where
  m : CapM e.mach a
  k : e.marks.length ≤ kc
/-- A memory's slices are the call's own. -/
structure FrE (w : World) (B : Nat) (e : MemD) (a : MA) (K : Option Addr) (kc : Nat) : Prop where
  m : FrM w B e.mach a
  k : Fr 4 w B K kc e.marks
theorem FrE.has {w : World} {B : Nat} {m : MemD} {a : MA} {K : Option Addr} {k : Nat} (h : FrE w B m a K k) : HasE w m a K := ⟨h.m.has, h.k.rd⟩
theorem FrE.cap {w : World} {B : Nat} {m : MemD} {a : MA} {K : Option Addr} {k : Nat} (h : FrE w B m a K k) : CapE m a k := ⟨h.m.cap, h.k.le⟩
theorem FrE.ex {w w' : World} {B : Nat} {m : MemD} {a : MA} {K : Option Addr} {k : Nat} (h : FrE w B m a K k) (e : Ex w w') : FrE w' B m a K k := ⟨h.m.ex e, h.k.ex e⟩

end Go.Proofs.YtmipkeabfglfaaaDoor
/- The law FnMachineSame: the walk. -/
namespace Go.Proofs.YtmipkeabfglfaaaDoor
open Go.ChangeShapes Go.WideShapes Go.ChangeAt Go.RowKit
open Rec (sz cs)
set_option linter.unusedVariables false
set_option maxRecDepth 100000

set_option maxHeartbeats 16000000 in
theorem walk_FnMachineSame (A : Option Addr) (n c : Nat) (bs : List ByteD) (w : World) (hr : Rd w A bs) (hc : Bytes bs ∧ bs.length = n ∧ n ≤ c ∧ c ≤ maxLen) (hv : FreeV w) :
    Calls Tryd.prog 3 #[.slice A n c] w fun r w' => r = .returned (.bool true) ∧ Ex w w' := by
  have HV := Lib.hid hv
  clear hv
  obtain ⟨hb, rfl, hnc, hcm⟩ := hc
  by_cases hbig : 1048576 < bs.length
  · have hbig' : (1048576 : Int) < (bs.length : Int) := by omega
    unfold maxLen at hcm
    generalize bs.length = n at *
    go_enter Tryd.func3, Tryd.ntmps3
    go_wp2
    go_ret
    exact ⟨rfl, Ex.refl _⟩
  have hsm : ¬ (1048576 : Int) < (bs.length : Int) := by omega
  have C0 := Lib.hid (fun w' (h : Ex w w') => drawMachineSame_c A c bs w' (hr.ex h) hb (by omega) hnc hcm)
  have hcm' := hcm
  unfold maxLen at hcm'
  generalize bs.length = n at *
  clear hr hb hcm
  go_enter Tryd.func3, Tryd.ntmps3
  go_wp2_with fail
  refine name_calls ?_; intro v0 hv0
  have X0 : Hid (Chg (0) (0) w v0) := Lib.hid (by rw [hv0]; repeat' (first | with_reducible exact Chg.refl _ _ _ | with_reducible refine Chg.alloc ?_ _ | with_reducible refine Chg.drew ?_ | with_reducible refine Chg.set ?_ (by omega) _))
  have t0 : w.heap.size ≤ v0.heap.size := X0.out.size
  have Ev0 : Hid (Ex w v0) := Lib.hid ((Ex.refl w).chg X0.out (by omega))
  clear hv0
  refine (C0.out _ Ev0.out).mono ?_; rintro r w0 ⟨t, u, a, b, rfl, hl0, hu0, ⟨hfa, hfb, hfc, hfd⟩, ⟨hfe, hff, hfg, hfh⟩, hb0⟩
  have Y0 : Hid (Chg 0 0 v0 w0) := Lib.hid (Chg.of_ex hb0)
  have s0 : v0.heap.size ≤ w0.heap.size := Y0.out.size
  have Ew0 : Hid (Ex w w0) := Lib.hid (Ev0.out.chg Y0.out (by omega))
  clear hb0
  have HFA := Lib.hid hfa; clear hfa
  have WHFA := Lib.hid HFA.out.row
  have HFB := Lib.hid hfb; clear hfb
  have WHFB := Lib.hid HFB.out.row
  have HFC := Lib.hid hfc; clear hfc
  have WHFC := Lib.hid HFC.out.row
  have HFD := Lib.hid hfd; clear hfd
  have WHFD := Lib.hid HFD.out.row
  have HFE := Lib.hid hfe; clear hfe
  have WHFE := Lib.hid HFE.out.row
  have HFF := Lib.hid hff; clear hff
  have WHFF := Lib.hid HFF.out.row
  have HFG := Lib.hid hfg; clear hfg
  have WHFG := Lib.hid HFG.out.row
  have HFH := Lib.hid hfh; clear hfh
  have WHFH := Lib.hid HFH.out.row
  have hft := hl0.few (by omega)
  have hfu := hu0.few (by omega)
  have RA0 : Hid (∀ w', Ex w0 w' → HasM w' t a) := Lib.hid (fun w' h => ⟨HFA.out.rd.ex h, HFB.out.rd.ex h, HFC.out.rd.ex h, HFD.out.rd.ex h⟩)
  have RB0 : Hid (∀ w', Ex w0 w' → HasM w' u b) := Lib.hid (fun w' h => ⟨HFE.out.rd.ex h, HFF.out.rd.ex h, HFG.out.rd.ex h, HFH.out.rd.ex h⟩)
  have HCA : Hid (CapM t a) := Lib.hid ⟨HFA.out.le, HFB.out.le, HFC.out.le, HFD.out.le⟩
  have HCB : Hid (CapM u b) := Lib.hid ⟨HFE.out.le, HFF.out.le, HFG.out.le, HFH.out.le⟩
  have CS0 := fun w' (h1 : HasM w' t a) (h2 : HasM w' u b) => machSameI_c t u a b w' h1 h2 hft hfu
  have CS1 := fun w' (h1 : HasM w' t a) (h2 : HasM w' u b) => machSameS_c t u a b w' h1 h2 hft hfu
  have CS2 := fun w' (h1 : HasM w' u b) (h2 : HasM w' t a) => machSameI_c u t b a w' h1 h2 hfu hft
  have CS3 := fun w' (h1 : HasM w' t a) (h2 : HasM w' t a) => machSameI_c t t a a w' h1 h2 hft hft
  have CV1 := Lib.hid (fun w' (h : HasM w' t a) (hv : FreeV w') => machI_c t a w' h hft HCA.out hv)
  have CV2 := Lib.hid (fun w' (h : HasM w' u b) (hv : FreeV w') => machI_c u b w' h hfu HCB.out hv)
  have hsy : eqB u t = eqB t u := by rw [Bool.eq_iff_iff, eqB_true, eqB_true]; exact eq_comm
  have HVV : Hid (eqB t u = true → machV u = machV t) := Lib.hid (fun h => by rw [eqB_true.1 h])
  rw [hsy] at CS2
  rw [eqB_self] at CS3
  clear HFA WHFA
  clear HFB WHFB
  clear HFC WHFC
  clear HFD WHFD
  clear HFE WHFE
  clear HFF WHFF
  clear HFG WHFG
  clear HFH WHFH
  clear hsy hl0 hu0 hft hfu C0
  generalize eqB t u = same at CS0 CS1 CS2 HVV
  replace CS0 := Lib.hid CS0
  replace CS1 := Lib.hid CS1
  replace CS2 := Lib.hid CS2
  replace CS3 := Lib.hid CS3
  go_wp2_with fail
  refine name_calls ?_; intro v1 hv1
  have X1 : Hid (Chg (0) (0) w0 v1) := Lib.hid (by rw [hv1]; repeat' (first | with_reducible exact Chg.refl _ _ _ | with_reducible refine Chg.alloc ?_ _ | with_reducible refine Chg.drew ?_ | with_reducible refine Chg.set ?_ (by omega) _))
  have t1 : w0.heap.size ≤ v1.heap.size := X1.out.size
  have Ev1 : Hid (Ex w v1) := Lib.hid (Ew0.out.chg X1.out (by omega))
  have KX : Hid (Blk v1 (w0.heap.size) 34 [.slice a.b t.table.buckets.length a.bc, .slice a.f t.table.frames.length a.fc, .slice a.l t.cache.lines.length a.lc, .int .i64 t.cache.hand, .int .i64 t.tags.count, .int .i64 t.tags.next, .int .i64 t.tags.round, .slice a.o t.tags.owns.length a.oc, .int .i64 t.space]) := Lib.hid (by rw [hv1]; exact (Blk.new _ _ _).alloc _)
  have lX : w0.heap.size < v1.heap.size := KX.out.lt
  have KD : Hid (Blk v1 (w0.heap.size + 1) 34 [.slice b.b u.table.buckets.length b.bc, .slice b.f u.table.frames.length b.fc, .slice b.l u.cache.lines.length b.lc, .int .i64 u.cache.hand, .int .i64 u.tags.count, .int .i64 u.tags.next, .int .i64 u.tags.round, .slice b.o u.tags.owns.length b.oc, .int .i64 u.space]) := Lib.hid (by rw [hv1]; exact Blk.new_at _ _ _ (by simp))
  have lD : w0.heap.size + 1 < v1.heap.size := KD.out.lt
  clear hv1
  refine (CS0.out _ (RA0.out _ X1.out.ex_) (RB0.out _ X1.out.ex_)).mono ?_; rintro r w1 ⟨rfl, hb1⟩
  have Y1 : Hid (Chg 0 0 v1 w1) := Lib.hid (Chg.of_ex hb1)
  have s1 : v1.heap.size ≤ w1.heap.size := Y1.out.size
  have Ew1 : Hid (Ex w w1) := Lib.hid (Ev1.out.chg Y1.out (by omega))
  clear hb1
  replace KX := Lib.hid (KX.out.chg Y1.out (by omega))
  replace KD := Lib.hid (KD.out.chg Y1.out (by omega))
  obtain ⟨qX0, qX1, qX2, qX3, qX4, qX5, qX6, qX7, qX8⟩ := KX.out.c9
  have jX := KX.out.lt
  obtain ⟨qD0, qD1, qD2, qD3, qD4, qD5, qD6, qD7, qD8⟩ := KD.out.c9
  have jD := KD.out.lt
  obtain ⟨gX, hgX⟩ : ∃ gX, gX = w0.heap.size := ⟨_, rfl⟩
  obtain ⟨gD, hgD⟩ : ∃ gD, gD = w0.heap.size + 1 := ⟨_, rfl⟩
  have EX1 : Hid (Ex w0 w1) := Lib.hid (X1.out.ex_.trans Y1.out.ex_)
  have RA : Hid (∀ w', Ex w1 w' → HasM w' t a) := Lib.hid (fun w' h => RA0.out _ (EX1.out.trans h))
  have RB : Hid (∀ w', Ex w1 w' → HasM w' u b) := Lib.hid (fun w' h => RB0.out _ (EX1.out.trans h))
  have HV1 : Hid (FreeV w1) := Lib.hid (HV.out.ex Ew1.out)
  rw [← hgX] at KX
  rw [← hgD] at KD
  try rw [← hgD]
  try rw [← hgX]
  have FK : Hid (∀ w', Ex w1 w' → (w'.cell? ⟨gX, 0, none⟩ = some (.slice a.b t.table.buckets.length a.bc) ∧ w'.cell? ⟨gX, 1, none⟩ = some (.slice a.f t.table.frames.length a.fc) ∧ w'.cell? ⟨gX, 2, none⟩ = some (.slice a.l t.cache.lines.length a.lc) ∧ w'.cell? ⟨gX, 3, none⟩ = some (.int .i64 t.cache.hand) ∧ w'.cell? ⟨gX, 4, none⟩ = some (.int .i64 t.tags.count) ∧ w'.cell? ⟨gX, 5, none⟩ = some (.int .i64 t.tags.next) ∧ w'.cell? ⟨gX, 6, none⟩ = some (.int .i64 t.tags.round) ∧ w'.cell? ⟨gX, 7, none⟩ = some (.slice a.o t.tags.owns.length a.oc) ∧ w'.cell? ⟨gX, 8, none⟩ = some (.int .i64 t.space) ∧ w'.cell? ⟨gD, 0, none⟩ = some (.slice b.b u.table.buckets.length b.bc) ∧ w'.cell? ⟨gD, 1, none⟩ = some (.slice b.f u.table.frames.length b.fc) ∧ w'.cell? ⟨gD, 2, none⟩ = some (.slice b.l u.cache.lines.length b.lc) ∧ w'.cell? ⟨gD, 3, none⟩ = some (.int .i64 u.cache.hand) ∧ w'.cell? ⟨gD, 4, none⟩ = some (.int .i64 u.tags.count) ∧ w'.cell? ⟨gD, 5, none⟩ = some (.int .i64 u.tags.next) ∧ w'.cell? ⟨gD, 6, none⟩ = some (.int .i64 u.tags.round) ∧ w'.cell? ⟨gD, 7, none⟩ = some (.slice b.o u.tags.owns.length b.oc) ∧ w'.cell? ⟨gD, 8, none⟩ = some (.int .i64 u.space))) := Lib.hid (fun w' h => by
    obtain ⟨p0, p1, p2, p3, p4, p5, p6, p7, p8⟩ := (KX.out.ex h).c9
    obtain ⟨q0, q1, q2, q3, q4, q5, q6, q7, q8⟩ := (KD.out.ex h).c9
    exact ⟨p0, p1, p2, p3, p4, p5, p6, p7, p8, q0, q1, q2, q3, q4, q5, q6, q7, q8⟩)
  have CE1 : Hid (∀ (args : Array Value) (w : World), (callFunc 8 args).run Tryd.prog w = .ok (.enter 8 args) w) := Lib.hid (enters Tryd.func8 (by kernel_rfl) (by kernel_rfl))
  have CE2 : Hid (∀ (args : Array Value) (w : World), (callFunc 7 args).run Tryd.prog w = .ok (.enter 7 args) w) := Lib.hid (enters Tryd.func7 (by kernel_rfl) (by kernel_rfl))
  have CE3 : Hid (∀ (args : Array Value) (w : World), (callFunc 9 args).run Tryd.prog w = .ok (.enter 9 args) w) := Lib.hid (enters Tryd.func9 (by kernel_rfl) (by kernel_rfl))
  clear hgX hgD RA0 RB0 HCA HCB CS0 X1 Y1 EX1 t1 s1 qX0 qX1 qX2 qX3 qX4 qX5 qX6 qX7 qX8 jX qD0 qD1 qD2 qD3 qD4 qD5 qD6 qD7 qD8 jD KX KD
  cases same
  · clear HVV CV1 CV2
    go_wp2_with fail
    refine wp_region_held_drew (S := (fun w' => (w'.cell? ⟨gX, 0, none⟩ = some (.slice a.b t.table.buckets.length a.bc) ∧ w'.cell? ⟨gX, 1, none⟩ = some (.slice a.f t.table.frames.length a.fc) ∧ w'.cell? ⟨gX, 2, none⟩ = some (.slice a.l t.cache.lines.length a.lc) ∧ w'.cell? ⟨gX, 3, none⟩ = some (.int .i64 t.cache.hand) ∧ w'.cell? ⟨gX, 4, none⟩ = some (.int .i64 t.tags.count) ∧ w'.cell? ⟨gX, 5, none⟩ = some (.int .i64 t.tags.next) ∧ w'.cell? ⟨gX, 6, none⟩ = some (.int .i64 t.tags.round) ∧ w'.cell? ⟨gX, 7, none⟩ = some (.slice a.o t.tags.owns.length a.oc) ∧ w'.cell? ⟨gX, 8, none⟩ = some (.int .i64 t.space) ∧ w'.cell? ⟨gD, 0, none⟩ = some (.slice b.b u.table.buckets.length b.bc) ∧ w'.cell? ⟨gD, 1, none⟩ = some (.slice b.f u.table.frames.length b.fc) ∧ w'.cell? ⟨gD, 2, none⟩ = some (.slice b.l u.cache.lines.length b.lc) ∧ w'.cell? ⟨gD, 3, none⟩ = some (.int .i64 u.cache.hand) ∧ w'.cell? ⟨gD, 4, none⟩ = some (.int .i64 u.tags.count) ∧ w'.cell? ⟨gD, 5, none⟩ = some (.int .i64 u.tags.next) ∧ w'.cell? ⟨gD, 6, none⟩ = some (.int .i64 u.tags.round) ∧ w'.cell? ⟨gD, 7, none⟩ = some (.slice b.o u.tags.owns.length b.oc) ∧ w'.cell? ⟨gD, 8, none⟩ = some (.int .i64 u.space)))) (by kernel_rfl) ?r0_hS0 (fun hHeld => ?_)
    case r0_hS0 => exact FK.out _ (Ex.refl _).drew
    refine tk 0 ?_; refine tk 1 ?_; refine tk 2 ?_
    refine wpAnyH_ready (rs := [3]) (by kernel_rfl) (by simp) ?_
    refine AllReadyH.cons (o := ?r0_o3) ?r0_ho3 (fun K hK => ?_) AllReadyH.nil
    case r0_ho3 => (conv => lhs; whnf; arg 1; whnf)
    refine step_call_gu rfl CE1.out _ _ rfl #[.agg #[.slice a.b t.table.buckets.length a.bc, .slice a.f t.table.frames.length a.fc, .slice a.l t.cache.lines.length a.lc, .int .i64 t.cache.hand, .int .i64 t.tags.count, .int .i64 t.tags.next, .int .i64 t.tags.round, .slice a.o t.tags.owns.length a.oc, .int .i64 t.space], .agg #[.slice b.b u.table.buckets.length b.bc, .slice b.f u.table.frames.length b.fc, .slice b.l u.cache.lines.length b.lc, .int .i64 u.cache.hand, .int .i64 u.tags.count, .int .i64 u.tags.next, .int .i64 u.tags.round, .slice b.o u.tags.owns.length b.oc, .int .i64 u.space]] rfl (CS1.out _ (RA.out _ (Ex.refl _).drew) (RB.out _ (Ex.refl _).drew)) ?_; rintro r wp ⟨rfl, hp⟩; refine ⟨_, rfl, ?_⟩; have hxp := Ex.trans (Ex.refl _).drew hp
    refine hK.out _ _ ?r0_hS3 (fun hHeld3 => ?_)
    case r0_hS3 => exact FK.out _ hxp
    clear hK K hHeld
    try simp only [Act.put, List.setIfInBounds_toArray, List.set_cons_zero, List.set_cons_succ]
    refine tk 4 ?_; refine tk 5 ?_; refine tk 6 ?_; refine tk 7 ?_; refine tk 8 ?_
    refine wpAnyH_ready (rs := [9]) (by kernel_rfl) (by simp) ?_
    refine AllReadyH.cons (o := ?r0_o9) ?r0_ho9 (fun K hK => ?_) AllReadyH.nil
    case r0_ho9 => (conv => lhs; whnf; arg 1; whnf)
    refine step_call_gu rfl CE2.out _ _ rfl #[.agg #[.slice b.b u.table.buckets.length b.bc, .slice b.f u.table.frames.length b.fc, .slice b.l u.cache.lines.length b.lc, .int .i64 u.cache.hand, .int .i64 u.tags.count, .int .i64 u.tags.next, .int .i64 u.tags.round, .slice b.o u.tags.owns.length b.oc, .int .i64 u.space], .agg #[.slice a.b t.table.buckets.length a.bc, .slice a.f t.table.frames.length a.fc, .slice a.l t.cache.lines.length a.lc, .int .i64 t.cache.hand, .int .i64 t.tags.count, .int .i64 t.tags.next, .int .i64 t.tags.round, .slice a.o t.tags.owns.length a.oc, .int .i64 t.space]] rfl (CS2.out _ (RB.out _ hxp) (RA.out _ hxp)) ?_; rintro r wq ⟨rfl, hq⟩; refine ⟨_, rfl, ?_⟩; have hxq := Ex.trans hxp hq
    refine hK.out _ _ ?r0_hS9 (fun hHeld9 => ?_)
    case r0_hS9 => exact FK.out _ hxq
    clear hK K hHeld3
    try simp only [Act.put, List.setIfInBounds_toArray, List.set_cons_zero, List.set_cons_succ]
    refine tk 10 ?_; refine tk 11 ?_; refine tk 12 ?_; refine tk 13 ?_; refine tk 14 ?_
    refine wpAnyH_ready (rs := [15]) (by kernel_rfl) (by simp) ?_
    refine AllReadyH.cons (o := ?r0_o15) ?r0_ho15 (fun K hK => ?_) AllReadyH.nil
    case r0_ho15 => (conv => lhs; whnf; arg 1; whnf)
    refine step_call_gu rfl CE2.out _ _ rfl #[.agg #[.slice a.b t.table.buckets.length a.bc, .slice a.f t.table.frames.length a.fc, .slice a.l t.cache.lines.length a.lc, .int .i64 t.cache.hand, .int .i64 t.tags.count, .int .i64 t.tags.next, .int .i64 t.tags.round, .slice a.o t.tags.owns.length a.oc, .int .i64 t.space], .agg #[.slice a.b t.table.buckets.length a.bc, .slice a.f t.table.frames.length a.fc, .slice a.l t.cache.lines.length a.lc, .int .i64 t.cache.hand, .int .i64 t.tags.count, .int .i64 t.tags.next, .int .i64 t.tags.round, .slice a.o t.tags.owns.length a.oc, .int .i64 t.space]] rfl (CS3.out _ (RA.out _ hxq) (RA.out _ hxq)) ?_; rintro r ws ⟨rfl, hs⟩; refine ⟨_, rfl, ?_⟩; have hxs := Ex.trans hxq hs
    refine hK.out _ _ ?r0_hS15 (fun hHeld15 => ?_)
    case r0_hS15 => exact FK.out _ hxs
    clear hK K hHeld9
    try simp only [Act.put, List.setIfInBounds_toArray, List.set_cons_zero, List.set_cons_succ]
    refine tk 16 ?_; refine tk 17 ?_; refine tk 18 ?_; refine tk 19 ?_; refine tk 20 ?_; refine tn 21 ?_; refine tn 22 ?_; refine tn 23 ?_; refine tn 24 ?_; refine tn 25 ?_; refine tk 26 ?_; refine tk 27 ?_; refine tk 28 ?_
    refine wpAnyH_done (by kernel_rfl) ?_ _
    go_wp2
    go_ret
    exact ⟨rfl, Ew1.out.trans hxs⟩
  have hvv := HVV.out rfl
  rw [hvv] at CV2
  clear hvv HVV
  generalize machV t = vt at CV1 CV2
  cases vt
  all_goals
    go_wp2_with fail
    refine wp_region_held_drew (S := (fun w' => (w'.cell? ⟨gX, 0, none⟩ = some (.slice a.b t.table.buckets.length a.bc) ∧ w'.cell? ⟨gX, 1, none⟩ = some (.slice a.f t.table.frames.length a.fc) ∧ w'.cell? ⟨gX, 2, none⟩ = some (.slice a.l t.cache.lines.length a.lc) ∧ w'.cell? ⟨gX, 3, none⟩ = some (.int .i64 t.cache.hand) ∧ w'.cell? ⟨gX, 4, none⟩ = some (.int .i64 t.tags.count) ∧ w'.cell? ⟨gX, 5, none⟩ = some (.int .i64 t.tags.next) ∧ w'.cell? ⟨gX, 6, none⟩ = some (.int .i64 t.tags.round) ∧ w'.cell? ⟨gX, 7, none⟩ = some (.slice a.o t.tags.owns.length a.oc) ∧ w'.cell? ⟨gX, 8, none⟩ = some (.int .i64 t.space) ∧ w'.cell? ⟨gD, 0, none⟩ = some (.slice b.b u.table.buckets.length b.bc) ∧ w'.cell? ⟨gD, 1, none⟩ = some (.slice b.f u.table.frames.length b.fc) ∧ w'.cell? ⟨gD, 2, none⟩ = some (.slice b.l u.cache.lines.length b.lc) ∧ w'.cell? ⟨gD, 3, none⟩ = some (.int .i64 u.cache.hand) ∧ w'.cell? ⟨gD, 4, none⟩ = some (.int .i64 u.tags.count) ∧ w'.cell? ⟨gD, 5, none⟩ = some (.int .i64 u.tags.next) ∧ w'.cell? ⟨gD, 6, none⟩ = some (.int .i64 u.tags.round) ∧ w'.cell? ⟨gD, 7, none⟩ = some (.slice b.o u.tags.owns.length b.oc) ∧ w'.cell? ⟨gD, 8, none⟩ = some (.int .i64 u.space)))) (by kernel_rfl) ?r1_hS0 (fun hHeld => ?_)
    case r1_hS0 => exact FK.out _ (Ex.refl _).drew
    refine tk 0 ?_; refine tk 1 ?_; refine tk 2 ?_
    refine wpAnyH_ready (rs := [3]) (by kernel_rfl) (by simp) ?_
    refine AllReadyH.cons (o := ?r1_o3) ?r1_ho3 (fun K hK => ?_) AllReadyH.nil
    case r1_ho3 => (conv => lhs; whnf; arg 1; whnf)
    refine step_call_gu rfl CE1.out _ _ rfl #[.agg #[.slice a.b t.table.buckets.length a.bc, .slice a.f t.table.frames.length a.fc, .slice a.l t.cache.lines.length a.lc, .int .i64 t.cache.hand, .int .i64 t.tags.count, .int .i64 t.tags.next, .int .i64 t.tags.round, .slice a.o t.tags.owns.length a.oc, .int .i64 t.space], .agg #[.slice b.b u.table.buckets.length b.bc, .slice b.f u.table.frames.length b.fc, .slice b.l u.cache.lines.length b.lc, .int .i64 u.cache.hand, .int .i64 u.tags.count, .int .i64 u.tags.next, .int .i64 u.tags.round, .slice b.o u.tags.owns.length b.oc, .int .i64 u.space]] rfl (CS1.out _ (RA.out _ (Ex.refl _).drew) (RB.out _ (Ex.refl _).drew)) ?_; rintro r wp ⟨rfl, hp⟩; refine ⟨_, rfl, ?_⟩; have hxp := Ex.trans (Ex.refl _).drew hp
    refine hK.out _ _ ?r1_hS3 (fun hHeld3 => ?_)
    case r1_hS3 => exact FK.out _ hxp
    clear hK K hHeld
    try simp only [Act.put, List.setIfInBounds_toArray, List.set_cons_zero, List.set_cons_succ]
    refine tk 4 ?_; refine tk 5 ?_; refine tk 6 ?_; refine tk 7 ?_; refine tk 8 ?_
    refine wpAnyH_ready (rs := [9]) (by kernel_rfl) (by simp) ?_
    refine AllReadyH.cons (o := ?r1_o9) ?r1_ho9 (fun K hK => ?_) AllReadyH.nil
    case r1_ho9 => (conv => lhs; whnf; arg 1; whnf)
    refine step_call_gu rfl CE2.out _ _ rfl #[.agg #[.slice b.b u.table.buckets.length b.bc, .slice b.f u.table.frames.length b.fc, .slice b.l u.cache.lines.length b.lc, .int .i64 u.cache.hand, .int .i64 u.tags.count, .int .i64 u.tags.next, .int .i64 u.tags.round, .slice b.o u.tags.owns.length b.oc, .int .i64 u.space], .agg #[.slice a.b t.table.buckets.length a.bc, .slice a.f t.table.frames.length a.fc, .slice a.l t.cache.lines.length a.lc, .int .i64 t.cache.hand, .int .i64 t.tags.count, .int .i64 t.tags.next, .int .i64 t.tags.round, .slice a.o t.tags.owns.length a.oc, .int .i64 t.space]] rfl (CS2.out _ (RB.out _ hxp) (RA.out _ hxp)) ?_; rintro r wq ⟨rfl, hq⟩; refine ⟨_, rfl, ?_⟩; have hxq := Ex.trans hxp hq
    refine hK.out _ _ ?r1_hS9 (fun hHeld9 => ?_)
    case r1_hS9 => exact FK.out _ hxq
    clear hK K hHeld3
    try simp only [Act.put, List.setIfInBounds_toArray, List.set_cons_zero, List.set_cons_succ]
    refine tk 10 ?_; refine tk 11 ?_; refine tk 12 ?_; refine tk 13 ?_; refine tk 14 ?_
    refine wpAnyH_ready (rs := [15]) (by kernel_rfl) (by simp) ?_
    refine AllReadyH.cons (o := ?r1_o15) ?r1_ho15 (fun K hK => ?_) AllReadyH.nil
    case r1_ho15 => (conv => lhs; whnf; arg 1; whnf)
    refine step_call_gu rfl CE2.out _ _ rfl #[.agg #[.slice a.b t.table.buckets.length a.bc, .slice a.f t.table.frames.length a.fc, .slice a.l t.cache.lines.length a.lc, .int .i64 t.cache.hand, .int .i64 t.tags.count, .int .i64 t.tags.next, .int .i64 t.tags.round, .slice a.o t.tags.owns.length a.oc, .int .i64 t.space], .agg #[.slice a.b t.table.buckets.length a.bc, .slice a.f t.table.frames.length a.fc, .slice a.l t.cache.lines.length a.lc, .int .i64 t.cache.hand, .int .i64 t.tags.count, .int .i64 t.tags.next, .int .i64 t.tags.round, .slice a.o t.tags.owns.length a.oc, .int .i64 t.space]] rfl (CS3.out _ (RA.out _ hxq) (RA.out _ hxq)) ?_; rintro r ws ⟨rfl, hs⟩; refine ⟨_, rfl, ?_⟩; have hxs := Ex.trans hxq hs
    refine hK.out _ _ ?r1_hS15 (fun hHeld15 => ?_)
    case r1_hS15 => exact FK.out _ hxs
    clear hK K hHeld9
    try simp only [Act.put, List.setIfInBounds_toArray, List.set_cons_zero, List.set_cons_succ]
    refine tk 16 ?_; refine tk 17 ?_; refine tk 18 ?_; refine tk 19 ?_; refine tk 20 ?_; refine tk 21 ?_; refine tk 23 ?_
    refine wpAnyH_ready (rs := [22]) (by kernel_rfl) (by simp) ?_
    refine AllReadyH.cons (o := ?r1_o22) ?r1_ho22 (fun K hK => ?_) AllReadyH.nil
    case r1_ho22 => (conv => lhs; whnf; arg 1; whnf)
    refine step_call_gu rfl CE3.out _ _ rfl #[.agg #[.slice a.b t.table.buckets.length a.bc, .slice a.f t.table.frames.length a.fc, .slice a.l t.cache.lines.length a.lc, .int .i64 t.cache.hand, .int .i64 t.tags.count, .int .i64 t.tags.next, .int .i64 t.tags.round, .slice a.o t.tags.owns.length a.oc, .int .i64 t.space]] rfl (CV1.out _ (RA.out _ hxs) (HV1.out.ex hxs)) ?_; rintro r wx ⟨rfl, hx⟩; refine ⟨_, rfl, ?_⟩; have hxx := Ex.trans hxs hx
    refine hK.out _ _ ?r1_hS22 (fun hHeld22 => ?_)
    case r1_hS22 => exact FK.out _ hxx
    clear hK K hHeld15
    try simp only [Act.put, List.setIfInBounds_toArray, List.set_cons_zero, List.set_cons_succ]
    refine wpAnyH_ready (rs := [24]) (by kernel_rfl) (by simp) ?_
    refine AllReadyH.cons (o := ?r1_o24) ?r1_ho24 (fun K hK => ?_) AllReadyH.nil
    case r1_ho24 => (conv => lhs; whnf; arg 1; whnf)
    refine step_call_gu rfl CE3.out _ _ rfl #[.agg #[.slice b.b u.table.buckets.length b.bc, .slice b.f u.table.frames.length b.fc, .slice b.l u.cache.lines.length b.lc, .int .i64 u.cache.hand, .int .i64 u.tags.count, .int .i64 u.tags.next, .int .i64 u.tags.round, .slice b.o u.tags.owns.length b.oc, .int .i64 u.space]] rfl (CV2.out _ (RB.out _ hxx) (HV1.out.ex hxx)) ?_; rintro r wz ⟨rfl, hz⟩; refine ⟨_, rfl, ?_⟩; have hxz := Ex.trans hxx hz
    refine hK.out _ _ ?r1_hS24 (fun hHeld24 => ?_)
    case r1_hS24 => exact FK.out _ hxz
    clear hK K hHeld22
    try simp only [Act.put, List.setIfInBounds_toArray, List.set_cons_zero, List.set_cons_succ]
    refine tk 25 ?_; refine tk 26 ?_; refine tk 27 ?_; refine tk 28 ?_
    refine wpAnyH_done (by kernel_rfl) ?_ _
    go_wp2
    go_ret
    exact ⟨rfl, Ew1.out.trans hxz⟩
end Go.Proofs.YtmipkeabfglfaaaDoor
/- Whatever the code, the law FnMachineSame returns true, and its argument and the listed variable read as before; the variable starts as the program lays it (tied). -/
namespace Go.Proofs.YtmipkeabfglfaaaDoor
open Go.ChangeShapes Go.WideShapes Go.ChangeAt Go.WideMaps Go.WideElems Go.RowKit
set_option linter.unusedVariables false

set_option maxRecDepth 100000 in
theorem lifted_FnMachineSame (os : Os) (started : os.Started) (H : Type) (enc : TypeId × Value → H) :
    ReturnsInHanded {} Tryd.checked os 3 .any (fun w args => (Rows.fnMachineSameSpec.pre enc Tryd.prog Tryd.f3 [] false w args ∧ laidMetH Tryd.prog laidL w) ∧ sizedMet enc Tryd.prog Tryd.f3 (OpenSpec.ofChange Rows.fnMachineSameSpec) false w args)
      (Rows.fnMachineSameSpec.post enc Tryd.prog Tryd.f3 false true false false) := by
  refine returnsInHanded_of_change_and (C := Tryd.checked) (X := fun w _ => laidMetH Tryd.prog laidL w) (fun _ _ _ hh h => h.of_heap hh) ownRow started (by kernel_rfl) Tryd.func3
    (ChangeSpec.witness_shaped (enc := enc) (C := Tryd.checked) (os := os) (X := fun w _ => laidMetH Tryd.prog laidL w) false (World.doorLaid Tryd.prog 14 os) #[.slice none 0 0] 8 rfl (World.shaped_of_RefB (by kernel_rfl) (by kernel_rfl)) (by kernel_rfl) (by kernel_rfl) (by kernel_rfl) (door_met os _)) ?_
  intro W base args ds gs before hval0 hW _ _ hL _
  have hFV := free_of_laid hL
  have hval : ∀ (j : Nat) t v, Tryd.f3.params[j]? = some t → args[j]? = some v → Value.okWide Tryd.prog W .any base t v := hval0
  have hW' := hW
  obtain ⟨p, q, hA0, hV, rfl, hfz, hnd⟩ := hW
  have hA : DataW.TrodAll enc Tryd.prog W 0 (fun _ => true) true Tryd.f3.params.toList args.toList ds p := hA0
  rw [Tryd.params3] at hA hval
  obtain ⟨v0, vs0, d0, ds0, p0, q0, hargs, rfl, rfl, h0, r0⟩ := trodAll_cons hA
  obtain ⟨rfl, rfl, rfl⟩ := trodAll_nil r0
  obtain rfl : args = #[v0] := by cases args; simp_all
  obtain ⟨g9, t9, cs9, fuel9, d9, p9, rfl, -, -, -, -, -⟩ := trodVars_one (show DataW.TrodVars enc Tryd.prog W (fun _ => true) ["loop.example/invertedpages/impl.free"] gs q from hV)
  have k0 := h0
  have lt0 : ∀ x ∈ p0, x.block < W.heap.size := by obtain ⟨m, hm⟩ := k0; exact DataW.trod_lt m _ _ _ hm
  obtain ⟨A0, n0, c0, xs0, rfl, hr0, hc0⟩ := open_bytes (hval 0 22 v0 rfl rfl) h0
  clear hA0 hval0
  refine (walk_FnMachineSame A0 n0 c0 xs0 W hr0 hc0 hFV).mono fun e W' ⟨he, bel⟩ => ?_
  subst he
  exact ⟨_, rfl, _, _, _, [], _, _, hW', trodAll_mk1 (shut_bool Tryd.underlying4 _), (trodAll_cons_mk (Below.trod laidOutRow (by kernel_rfl) (of_decide_eq_true (by kernel_rfl)) k0 bel lt0) trodAll_mk0), Below.trodVars laidOutRow bel (by kernel_rfl) hV, Below.frame bel _, fun h => by cases h⟩

theorem name_FnMachineSame : Tryd.checked.prog.funcNamed Rows.fnMachineSameRow.func = some 3 := by kernel_rfl
theorem closed_FnMachineSame : joinedFacts Tryd.checked.prog 3 Tryd.f3 Rows.fnMachineSameSpec Rows.fnMachineSameRow = true := by
  simp only [joinedFacts, Bool.and_eq_true]
  refine ⟨⟨⟨⟨⟨⟨⟨⟨⟨⟨⟨⟨⟨⟨⟨⟨⟨⟨⟨⟨⟨⟨⟨⟨⟨⟨⟨⟨⟨⟨⟨?_, laidOutRow⟩, progMaps⟩, ?_⟩, ?_⟩, ?_⟩, ?_⟩, ?_⟩, ?_⟩, ?_⟩, ?_⟩, ?_⟩, ?_⟩, ?_⟩, ?_⟩, ?_⟩, ?_⟩, ?_⟩, ?_⟩, ?_⟩, ?_⟩, ?_⟩, ?_⟩, ?_⟩, progHeard⟩, progEnter⟩, (beq_iff_eq.2 progFinal.symm)⟩, (beq_iff_eq.2 progMake)⟩, ?_⟩, ?_⟩, ?_⟩, ?_⟩
  all_goals as_aux_lemma => kernel_rfl
theorem over_FnMachineSame : Rows.fnMachineSameRow.holds Tryd.pinned (OpenSpec.ofChange Rows.fnMachineSameSpec) :=
  OpenClaim.holds_of_wide 3 Tryd.f3 rfl rfl rfl rfl rfl rfl rfl ⟨rfl, rfl, rfl, rfl, rfl⟩ rfl rfl rfl rfl rfl name_FnMachineSame Tryd.func3 closed_FnMachineSame
    (of_decide_eq_true (by kernel_rfl)) (by unfold Func.isWrapper; first | (rw [if_pos (by decide +kernel)]; kernel_rfl) | (rw [if_neg (by decide +kernel)]; exact ⟨rfl, rfl⟩))
    (fun os started H enc _ => lifted_FnMachineSame os started H enc)

theorem FnMachineSame_proved : Rows.FnMachineSameCardSaid :=
  Claim7.holds_tied_plain_at .later [] [.data] true (true, "eb4041b2c36005855f9e566c05de5086646da593e3d0f80153a47b9da118316d") false
    over_FnMachineSame (fun _ h => by cases h) (by kernel_rfl) (fun _ h => by cases h) fnMachineSame_row_tie rfl ⟨rfl, rfl⟩ (by kernel_rfl) rfl
    (fun f fn hf hfn => by
      obtain rfl : f = 3 := Option.some.inj (name_FnMachineSame.symm.trans hf) |>.symm
      obtain rfl : fn = Tryd.f3 := (Option.some.inj (Tryd.func3.symm.trans hfn)).symm
      exact ⟨by kernel_rfl, fun j t ht => by
        rw [Tryd.params3] at ht
        have hm : t ∈ [22] := by have := Array.mem_of_getElem? ht; simpa using this
        have hall : ([22].all fun u => !Tryd.prog.wantsStandIn u) = true := by kernel_rfl
        exact (show Tryd.prog.wantsStandIn t = false by simpa using List.all_eq_true.1 hall t hm)⟩)
    (by kernel_rfl)
#print axioms FnMachineSame_proved
end Go.Proofs.YtmipkeabfglfaaaDoor
