/- Joined: Ue. -/
import Derived.Deep.DeepCutAuto
import Derived.Test.YtbdlpbladpppjaaGreatDoorK17
import Derived.Test.YtbdlpbladpppjaaGreatDoorK11
import Derived.Test.YtbdlpbladpppjaaGreatDoorK10
import Derived.Test.YtbdlpbladpppjaaGreatDoorK3
namespace Go.Proofs.YtbdlpbladpppjaaGreatDoor
open Go.ChangeShapes Go.WideShapes Go.ChangeAt Go.RowKit
open Rec (sz cs)
set_option linter.unusedVariables false
set_option maxRecDepth 100000

/-- What l7Bring hands back: a memory that has the page, or none. -/
def Brought (x : MemD) (page : Int) (w : World) (e : Ending) (w' : World) : Prop := ∃ (q : MemD) (ok : Bool) (a : MA) (K : Option Addr) (kc : Nat), e = .returned (.tuple #[.agg #[.slice a.b q.mach.table.buckets.length a.bc, .slice a.f q.mach.table.frames.length a.fc, .slice a.l q.mach.cache.lines.length a.lc, .int .i64 q.mach.cache.hand, .int .i64 q.mach.tags.count, .int .i64 q.mach.tags.next, .int .i64 q.mach.tags.round, .slice a.o q.mach.tags.owns.length a.oc, .int .i64 q.mach.space, .slice K q.marks.length kc, .int .i64 q.hand], .bool ok]) ∧ (ok = true → MemOk q ∧ 0 ≤ findF q.mach.table (keyFor q.mach.space page)) ∧ FrE w' w.heap.size q a K kc ∧ Ex w w'
/-- Where a machine has been made and lies in a box, to be put into the memory in box gO. -/
def BrCut (w : World) (gO : Nat) (q : MemD) (aq : MA) (K : Option Addr) (k : Nat) (qm : MachD) (s t : Value) (wx : World) : Prop := ∃ (gM : Nat) (am : MA), s = .pointer (some ⟨gM, 0, none⟩) ∧ t = .bool true ∧ Blk wx gM 34 [.slice am.b qm.table.buckets.length am.bc, .slice am.f qm.table.frames.length am.fc, .slice am.l qm.cache.lines.length am.lc, .int .i64 qm.cache.hand, .int .i64 qm.tags.count, .int .i64 qm.tags.next, .int .i64 qm.tags.round, .slice am.o qm.tags.owns.length am.oc, .int .i64 qm.space] ∧ Blk wx gO 37 [.slice aq.b q.mach.table.buckets.length aq.bc, .slice aq.f q.mach.table.frames.length aq.fc, .slice aq.l q.mach.cache.lines.length aq.lc, .int .i64 q.mach.cache.hand, .int .i64 q.mach.tags.count, .int .i64 q.mach.tags.next, .int .i64 q.mach.tags.round, .slice aq.o q.mach.tags.owns.length aq.oc, .int .i64 q.mach.space, .slice K q.marks.length k, .int .i64 q.hand] ∧ FrM wx w.heap.size qm am ∧ Fr 4 wx w.heap.size K k q.marks ∧ Ex w wx ∧ Blk wx (w.heap.size + 1) 37 [.slice none 0 0, .slice none 0 0, .slice none 0 0, .int .i64 0, .int .i64 0, .int .i64 0, .int .i64 0, .slice none 0 0, .int .i64 0, .slice none 0 0, .int .i64 0] ∧ gO < gM
theorem name_code {P : Program} {c : Code} {Q : Exit → Act → World → Prop} {a : Act} {w : World} (h : ∀ v, v = w → Code.wp P c Q a v) : Code.wp P c Q a w := h w rfl
theorem Blk.put9b {w : World} {g : Nat} {t : TypeId} {a0 a1 a2 a3 a4 a5 a6 a7 a8 a9 a10 b0 b1 b2 b3 b4 b5 b6 b7 b8 : Value} (h : Blk w g t [a0, a1, a2, a3, a4, a5, a6, a7, a8, a9, a10]) :
  Blk (((((((((w.setCell ⟨g, 0, none⟩ b0).setCell ⟨g, 1, none⟩ b1).setCell ⟨g, 2, none⟩ b2).setCell ⟨g, 3, none⟩ b3).setCell ⟨g, 4, none⟩ b4).setCell ⟨g, 5, none⟩ b5).setCell ⟨g, 6, none⟩ b6).setCell ⟨g, 7, none⟩ b7).setCell ⟨g, 8, none⟩ b8) g t [b0, b1, b2, b3, b4, b5, b6, b7, b8, a9, a10] :=
 ((((((((h.set 0 b0).set 1 b1).set 2 b2).set 3 b3).set 4 b4).set 5 b5).set 6 b6).set 7 b7).set 8 b8
def noMem : MemD := ⟨noMach, [], 0⟩
theorem firstFree {t : TableD} : freeF_ t = -1 ∨ ∃ (i : Nat) (f : FrameD), freeF_ t = (i : Int) ∧ t.frames[i]? = some f ∧ f.used = false := by
 rcases firstOf_cases (fun f : FrameD => !f.used) t.frames with ⟨h, _⟩ | ⟨k, f, h, hf, hu, _⟩
 ·exact .inl h
 ·exact .inr ⟨k, f, h, hf, by simpa using hu⟩

set_option maxHeartbeats 16000000 in
theorem bringS_c (x : MemD) (a : MA) (K : Option Addr) (kc : Nat) (page rights : Int) (w : World) (h : MemOk x) (hx : HasE w x a K) (hc : CapE x a kc) (hk : CapX a) (hkk : kc ≤ maxLen) (hp : 0 ≤ page ∧ page < 256) (hr : 0 ≤ rights ∧ rights < 8) (hn : findF x.mach.table (keyFor x.mach.space page) < 0) :
  Calls Tryz.prog 97 #[.agg #[.slice a.b x.mach.table.buckets.length a.bc, .slice a.f x.mach.table.frames.length a.fc, .slice a.l x.mach.cache.lines.length a.lc, .int .i64 x.mach.cache.hand, .int .i64 x.mach.tags.count, .int .i64 x.mach.tags.next, .int .i64 x.mach.tags.round, .slice a.o x.mach.tags.owns.length a.oc, .int .i64 x.mach.space, .slice K x.marks.length kc, .int .i64 x.hand], .int .i64 page, .int .i64 rights] w (Brought x page w) := by
 have hka := keyFor_again x.mach.space page
 have hko := keyFor_keyOk h.1 hp
 have C1 := zq (fun w' (e1 : Ex w w') => l7Copy_c x a K kc w' (hx.ex e1) h.fewE hc hk hkk)
 have C2 := zq (fun w' (e1 : Ex w w') => l7Free_c x.mach.table a.b a.bc a.f a.fc w' (hx.m.f.ex e1) h.1.fewM.f)
 have CKF := zq (fun w' => keyForS_c x.mach.space page w')
 obtain ⟨ky, hky⟩ : ∃ ky, ky = keyFor x.mach.space page := ⟨_, rfl⟩
 have HKY := zq hky
 rw [← hky] at hka hko CKF hn
 unfold MemIs at C1
 have CE0 : Hid (∀ (args : Array Value) (w : World), (callFunc 80 args).run Tryz.prog w = .ok (.enter 80 args) w) := zq (enters Tryz.func80 (by kernel_rfl) (by kernel_rfl))
 have CE1 : Hid (∀ (args : Array Value) (w : World), (callFunc 90 args).run Tryz.prog w = .ok (.enter 90 args) w) := zq (enters Tryz.func90 (by kernel_rfl) (by kernel_rfl))
 rcases firstFree (t := x.mach.table) with hfr | ⟨i, f, hfr, hf, hu⟩
 rotate_left
 · -- a frame is free
  obtain ⟨p1, p2, p3, p4, p5⟩ := h.put (rt := rights) hko hka hr hf hu hn
  obtain ⟨qm, hqm⟩ : ∃ qm, putM x.mach ky i rights = (qm, true) := ⟨_, by rw [← p1]⟩
  have CPP := zq (fun (aq : MA) w' (h1 : HasM w' x.mach aq) (h2 : CapM x.mach aq) (h3 : CapX aq) => putS_c x.mach aq ky i rights w' h.1 h1 h2 h3 hko hka hr (getElem?_lt hf))
  rw [hqm] at CPP p2 p3 p4
  unfold MachOr at CPP
  dsimp only at CPP p2 p3 p4
  have HFIN : Hid (MemOk ⟨qm, x.marks, x.hand⟩ ∧ 0 ≤ findF qm.table (keyFor qm.space page)) := zq ⟨p2, by rw [p4, ← hky, p3]; omega⟩
  rw [hfr] at C2
  clear hfr hf hu hqm p1 p2 p3 p4 p5 hx hc hk hkk h hky hn hp hr hka hko
  go_enter Tryz.func97, Tryz.ntmps97
  go_wp2_with fail
  refine name_calls ?_; intro v1 hv1
  have X1 : Hid (Chg (0) (0) w v1) := zx hv1
  have t1 := X1.out.size
  have Ev1 := zq ((Ex.refl w).chg X1.out (by omega))
  have KX : Hid (Blk v1 (w.heap.size) 37 [.slice a.b x.mach.table.buckets.length a.bc, .slice a.f x.mach.table.frames.length a.fc, .slice a.l x.mach.cache.lines.length a.lc, .int .i64 x.mach.cache.hand, .int .i64 x.mach.tags.count, .int .i64 x.mach.tags.next, .int .i64 x.mach.tags.round, .slice a.o x.mach.tags.owns.length a.oc, .int .i64 x.mach.space, .slice K x.marks.length kc, .int .i64 x.hand]) := zk hv1
  have lX : w.heap.size < v1.heap.size := KX.out.lt
  have KR : Hid (Blk v1 (w.heap.size + 1) 37 [.slice none 0 0, .slice none 0 0, .slice none 0 0, .int .i64 0, .int .i64 0, .int .i64 0, .int .i64 0, .slice none 0 0, .int .i64 0, .slice none 0 0, .int .i64 0]) := zk hv1
  have lR : w.heap.size + 1 < v1.heap.size := KR.out.lt
  clear hv1
  refine (C1.out _ Ev1.out).mono ?_; rintro r w1 ⟨aq, Kq, kq, rfl, hhf1, hb1⟩
  have Y1 := zq (Chg.of_ex hb1)
  have s1 := Y1.out.size
  have Ew1 := zq (Ev1.out.chg Y1.out (by omega))
  clear hb1
  replace KX := zq (KX.out.chg Y1.out (by omega))
  replace KR := zq (KR.out.chg Y1.out (by omega))
  have HHF1 := zq hhf1; clear hhf1
  obtain ⟨qX0, qX1, qX2, qX3, qX4, qX5, qX6, qX7, qX8, qX9, qX10⟩ := KX.out.c11
  have jX := KX.out.lt
  obtain ⟨qR0, qR1, qR2, qR3, qR4, qR5, qR6, qR7, qR8, qR9, qR10⟩ := KR.out.c11
  have jR := KR.out.lt
  go_wp2_with fail
  refine name_calls ?_; intro v2 hv2
  have X2 : Hid (Chg (0) (0) w1 v2) := zx hv2
  have t2 := X2.out.size
  have Ev2 := zq (Ew1.out.chg X2.out (by omega))
  clear qX0 qX1 qX2 qX3 qX4 qX5 qX6 qX7 qX8 qX9 qX10 jX
  clear qR0 qR1 qR2 qR3 qR4 qR5 qR6 qR7 qR8 qR9 qR10 jR
  replace KX := zq (KX.out.chg X2.out (by omega))
  replace KR := zq (KR.out.chg X2.out (by omega))
  have KO : Hid (Blk v2 (w1.heap.size) 37 [.slice aq.b x.mach.table.buckets.length aq.bc, .slice aq.f x.mach.table.frames.length aq.fc, .slice aq.l x.mach.cache.lines.length aq.lc, .int .i64 x.mach.cache.hand, .int .i64 x.mach.tags.count, .int .i64 x.mach.tags.next, .int .i64 x.mach.tags.round, .slice aq.o x.mach.tags.owns.length aq.oc, .int .i64 x.mach.space, .slice Kq x.marks.length kq, .int .i64 x.hand]) := zk hv2
  have lO : w1.heap.size < v2.heap.size := KO.out.lt
  clear hv2
  refine (C2.out _ Ev2.out).mono ?_; rintro r w2 ⟨rfl, hb2⟩
  have Y2 := zq (Chg.of_ex hb2)
  have s2 := Y2.out.size
  have Ew2 := zq (Ev2.out.chg Y2.out (by omega))
  clear hb2
  replace KX := zq (KX.out.chg Y2.out (by omega))
  replace KR := zq (KR.out.chg Y2.out (by omega))
  replace KO := zq (KO.out.chg Y2.out (by omega))
  obtain ⟨qX0, qX1, qX2, qX3, qX4, qX5, qX6, qX7, qX8, qX9, qX10⟩ := KX.out.c11
  have jX := KX.out.lt
  obtain ⟨qR0, qR1, qR2, qR3, qR4, qR5, qR6, qR7, qR8, qR9, qR10⟩ := KR.out.c11
  have jR := KR.out.lt
  obtain ⟨qO0, qO1, qO2, qO3, qO4, qO5, qO6, qO7, qO8, qO9, qO10⟩ := KO.out.c11
  have jO := KO.out.lt
  have HEX := zq Ew2.out
  have E12 : Ex w1 w2 := X2.out.ex_.trans Y2.out.ex_
  have HFM : Hid (FrM w2 w.heap.size x.mach aq) := zq (FrM.ex (FrM.mono HHF1.out.m (by omega)) E12)
  have HFK : Hid (Fr 4 w2 w.heap.size Kq kq x.marks) := zq ((HHF1.out.k.mono (by omega)).ex E12)
  have HKO : Hid (Blk w2 w1.heap.size 37 [.slice aq.b x.mach.table.buckets.length aq.bc, .slice aq.f x.mach.table.frames.length aq.fc, .slice aq.l x.mach.cache.lines.length aq.lc, .int .i64 x.mach.cache.hand, .int .i64 x.mach.tags.count, .int .i64 x.mach.tags.next, .int .i64 x.mach.tags.round, .slice aq.o x.mach.tags.owns.length aq.oc, .int .i64 x.mach.space, .slice Kq x.marks.length kq, .int .i64 x.hand]) := zq KO.out
  have HKR : Hid (Blk w2 (w.heap.size + 1) 37 [.slice none 0 0, .slice none 0 0, .slice none 0 0, .int .i64 0, .int .i64 0, .int .i64 0, .int .i64 0, .slice none 0 0, .int .i64 0, .slice none 0 0, .int .i64 0]) := zq KR.out
  have CPP := zq (fun w' (h1 : HasM w' x.mach aq) => CPP.out aq w' h1 HFM.out.cap HFM.out.capx)
  have hOR : w.heap.size + 1 < w1.heap.size := by omega
  obtain ⟨gO, hgO⟩ : ∃ gO, gO = w1.heap.size := ⟨_, rfl⟩
  rw [← hgO] at HKO hOR
  clear qX0 qX1 qX2 qX3 qX4 qX5 qX6 qX7 qX8 qX9 qX10 jX
  clear KX
  clear qR0 qR1 qR2 qR3 qR4 qR5 qR6 qR7 qR8 qR9 qR10 jR
  clear KR
  clear qO0 qO1 qO2 qO3 qO4 qO5 qO6 qO7 qO8 qO9 qO10 jO
  clear KO
  clear E12 HHF1 C1 C2
  go_wp2_with fail
  rw [← hgO]
  clear hgO
  have FKO : Hid (∀ w', Ex w2 w' → (w'.cell? ⟨gO, 0, none⟩ = some (.slice aq.b x.mach.table.buckets.length aq.bc) ∧ w'.cell? ⟨gO, 1, none⟩ = some (.slice aq.f x.mach.table.frames.length aq.fc) ∧ w'.cell? ⟨gO, 2, none⟩ = some (.slice aq.l x.mach.cache.lines.length aq.lc) ∧ w'.cell? ⟨gO, 3, none⟩ = some (.int .i64 x.mach.cache.hand) ∧ w'.cell? ⟨gO, 4, none⟩ = some (.int .i64 x.mach.tags.count) ∧ w'.cell? ⟨gO, 5, none⟩ = some (.int .i64 x.mach.tags.next) ∧ w'.cell? ⟨gO, 6, none⟩ = some (.int .i64 x.mach.tags.round) ∧ w'.cell? ⟨gO, 7, none⟩ = some (.slice aq.o x.mach.tags.owns.length aq.oc) ∧ w'.cell? ⟨gO, 8, none⟩ = some (.int .i64 x.mach.space) ∧ w'.cell? ⟨gO, 9, none⟩ = some (.slice Kq x.marks.length kq) ∧ w'.cell? ⟨gO, 10, none⟩ = some (.int .i64 x.hand))) := zq (fun w' h => (HKO.out.ex h).c11)
  have hjO : gO < w2.heap.size := HKO.out.lt
  have hjw : w.heap.size ≤ w2.heap.size := HEX.out.size
  go_cut [12, 13] (fun s12 s13 wx => BrCut w gO x aq Kq kq qm s12 s13 wx)
  case first =>
   refine wp_region_held_drew (S := (fun w' => (w'.cell? ⟨gO, 0, none⟩ = some (.slice aq.b x.mach.table.buckets.length aq.bc) ∧ w'.cell? ⟨gO, 1, none⟩ = some (.slice aq.f x.mach.table.frames.length aq.fc) ∧ w'.cell? ⟨gO, 2, none⟩ = some (.slice aq.l x.mach.cache.lines.length aq.lc) ∧ w'.cell? ⟨gO, 3, none⟩ = some (.int .i64 x.mach.cache.hand) ∧ w'.cell? ⟨gO, 4, none⟩ = some (.int .i64 x.mach.tags.count) ∧ w'.cell? ⟨gO, 5, none⟩ = some (.int .i64 x.mach.tags.next) ∧ w'.cell? ⟨gO, 6, none⟩ = some (.int .i64 x.mach.tags.round) ∧ w'.cell? ⟨gO, 7, none⟩ = some (.slice aq.o x.mach.tags.owns.length aq.oc) ∧ w'.cell? ⟨gO, 8, none⟩ = some (.int .i64 x.mach.space) ∧ w'.cell? ⟨gO, 9, none⟩ = some (.slice Kq x.marks.length kq) ∧ w'.cell? ⟨gO, 10, none⟩ = some (.int .i64 x.hand)))) (by kernel_rfl) ?r3_hS0 (fun hHeld => ?_)
   case r3_hS0 => exact FKO.out _ (Ex.refl _).drew
   refine tk 0 ?_; refine tk 1 ?_; refine tk 2 ?_; refine tk 3 ?_; refine tk 4 ?_; refine tk 5 ?_; refine tk 7 ?_; refine tk 8 ?_
   refine wpAnyH_ready (rs := [6, 13]) (by kernel_rfl) (by simp) ?_
   refine AllReadyH.cons (o := ?r3_o0) ?r3_ho0 (fun K hK => ?r3_b0) (AllReadyH.cons (o := ?r3_o1) ?r3_ho1 (fun K hK => ?r3_b1) AllReadyH.nil)
   case r3_ho0 => (conv => lhs; whnf; arg 1; whnf)
   case r3_ho1 => (conv => lhs; whnf; arg 1; whnf)
   case r3_b0 =>
    refine step_call_gu rfl CE0.out _ _ rfl #[.int .i64 x.mach.space, .int .i64 page] rfl (CKF.out _) ?_; rintro r wf0 ⟨rfl, hb0⟩; refine ⟨_, rfl, ?_⟩; have hE0 : Ex w2 wf0 := Ex.trans (by with_reducible repeat' (first | exact Ex.refl _ | exact hE1 | exact hE0 | refine Ex.alloc ?_ _ | refine Ex.drew ?_)) hb0; have hz0 := hE0.size; have hy0 := hb0.size
    refine hK.out _ _ ?r3_hS0 (fun hHeld0 => ?_)
    case r3_hS0 => exact FKO.out _ hE0
    clear hK K hHeld
    try simp only [Act.put, List.setIfInBounds_toArray, List.set_cons_zero, List.set_cons_succ]
    refine wpAnyH_ready (rs := [9, 13]) (by kernel_rfl) (by simp) ?_
    refine AllReadyH.cons (o := ?r3_o2) ?r3_ho2 (fun K hK => ?r3_b2) (AllReadyH.cons (o := ?r3_o3) ?r3_ho3 (fun K hK => ?r3_b3) AllReadyH.nil)
    case r3_ho2 => (conv => lhs; whnf; arg 1; whnf)
    case r3_ho3 => (conv => lhs; whnf; arg 1; whnf)
    case r3_b2 =>
     refine step_call_gu rfl CE1.out _ _ rfl #[.agg #[.slice aq.b x.mach.table.buckets.length aq.bc, .slice aq.f x.mach.table.frames.length aq.fc, .slice aq.l x.mach.cache.lines.length aq.lc, .int .i64 x.mach.cache.hand, .int .i64 x.mach.tags.count, .int .i64 x.mach.tags.next, .int .i64 x.mach.tags.round, .slice aq.o x.mach.tags.owns.length aq.oc, .int .i64 x.mach.space], .agg #[.int .i64 ky.space, .int .i64 ky.page], .int .i64 i, .int .i64 rights] rfl (CPP.out _ (HFM.out.has.ex (by with_reducible repeat' (first | exact Ex.refl _ | exact hE1 | exact hE0 | refine Ex.alloc ?_ _ | refine Ex.drew ?_)))) ?_; rintro r wf1 ⟨am, rfl, hfm, hb1⟩; refine ⟨_, rfl, ?_⟩; have hE1 : Ex w2 wf1 := Ex.trans (by with_reducible repeat' (first | exact Ex.refl _ | exact hE1 | exact hE0 | refine Ex.alloc ?_ _ | refine Ex.drew ?_)) hb1; have hz1 := hE1.size; have hy1 := hb1.size
     refine hK.out _ _ ?r3_hS2 (fun hHeld2 => ?_)
     case r3_hS2 => exact FKO.out _ hE1
     clear hK K hHeld0
     try simp only [Act.put, List.setIfInBounds_toArray, List.set_cons_zero, List.set_cons_succ]
     refine tk 10 ?_; refine tk 11 ?_; refine tk 12 ?_
     refine wpAnyH_ready (rs := [13]) (by kernel_rfl) (by simp) ?_
     refine AllReadyH.cons (o := ?r3_o4) ?r3_ho4 (fun K hK => ?r3_b4) AllReadyH.nil
     case r3_ho4 => (conv => lhs; whnf; arg 1; whnf)
     case' r3_b4 => skip
     go_simp
     refine hK.out _ _ ?r3_hS4 (fun hHeld4 => ?_)
     case r3_hS4 => exact FKO.out _ (by with_reducible repeat' (first | exact Ex.refl _ | exact hE1 | exact hE0 | refine Ex.alloc ?_ _ | refine Ex.drew ?_))
     clear hK K hHeld2
     try simp only [Act.put, List.setIfInBounds_toArray, List.set_cons_zero, List.set_cons_succ]
     refine wpAnyH_ready (rs := [14]) (by kernel_rfl) (by simp) ?_
     refine AllReadyH.cons (o := ?r3_o5) ?r3_ho5 (fun K hK => ?r3_b5) AllReadyH.nil
     case r3_ho5 => (conv => lhs; whnf; arg 1; whnf)
     case' r3_b5 => skip
     go_simp
     refine hK.out _ _ ?r3_hS5 (fun hHeld5 => ?_)
     case r3_hS5 => exact FKO.out _ (by with_reducible repeat' (first | exact hE1 | exact hE0 | refine Ex.alloc ?_ _ | refine Ex.put ?_ (by omega) _))
     clear hK K hHeld4
     try simp only [Act.put, List.setIfInBounds_toArray, List.set_cons_zero, List.set_cons_succ]
     refine tk 15 ?_
     refine wpAnyH_done (by kernel_rfl) ?_ _
     clear hHeld5
     have HQ1 : Hid (FrM wf1 w.heap.size qm am) := zq (FrM.mono hfm (by first | omega | (simp; omega)))
     have HQ2 : Hid (Fr 4 wf1 w.heap.size Kq kq x.marks) := zq (HFK.out.ex hE1)
     have HQ3 : Hid (Blk wf1 gO 37 [.slice aq.b x.mach.table.buckets.length aq.bc, .slice aq.f x.mach.table.frames.length aq.fc, .slice aq.l x.mach.cache.lines.length aq.lc, .int .i64 x.mach.cache.hand, .int .i64 x.mach.tags.count, .int .i64 x.mach.tags.next, .int .i64 x.mach.tags.round, .slice aq.o x.mach.tags.owns.length aq.oc, .int .i64 x.mach.space, .slice Kq x.marks.length kq, .int .i64 x.hand]) := zq (HKO.out.ex hE1)
     have HQ4 : Hid (Blk wf1 (w.heap.size + 1) 37 [.slice none 0 0, .slice none 0 0, .slice none 0 0, .int .i64 0, .int .i64 0, .int .i64 0, .int .i64 0, .slice none 0 0, .int .i64 0, .slice none 0 0, .int .i64 0]) := zq (HKR.out.ex hE1)
     have HQ5 : Hid (Ex w wf1) := zq (HEX.out.trans hE1)
     clear hfm
     go_wp2_with fail
     go_meet
     exact ⟨wf1.heap.size, am, rfl, rfl, Blk.new _ _ _, (zf HQ3.out), ⟨HQ1.out.b.alloc _, HQ1.out.f.alloc _, HQ1.out.l.alloc _, HQ1.out.o.alloc _⟩, HQ2.out.alloc _, (ze HQ5.out), (zf HQ4.out), by omega⟩
    case r3_b3 =>
     go_simp
     refine hK.out _ _ ?r3_hS3 (fun hHeld3 => ?_)
     case r3_hS3 => exact FKO.out _ (by with_reducible repeat' (first | exact Ex.refl _ | exact hE1 | exact hE0 | refine Ex.alloc ?_ _ | refine Ex.drew ?_))
     clear hK K hHeld0
     try simp only [Act.put, List.setIfInBounds_toArray, List.set_cons_zero, List.set_cons_succ]
     refine wpAnyH_ready (rs := [9]) (by kernel_rfl) (by simp) ?_
     refine AllReadyH.cons (o := ?r3_o6) ?r3_ho6 (fun K hK => ?r3_b6) AllReadyH.nil
     case r3_ho6 => (conv => lhs; whnf; arg 1; whnf)
     case' r3_b6 => skip
     refine step_call_gu rfl CE1.out _ _ rfl #[.agg #[.slice aq.b x.mach.table.buckets.length aq.bc, .slice aq.f x.mach.table.frames.length aq.fc, .slice aq.l x.mach.cache.lines.length aq.lc, .int .i64 x.mach.cache.hand, .int .i64 x.mach.tags.count, .int .i64 x.mach.tags.next, .int .i64 x.mach.tags.round, .slice aq.o x.mach.tags.owns.length aq.oc, .int .i64 x.mach.space], .agg #[.int .i64 ky.space, .int .i64 ky.page], .int .i64 i, .int .i64 rights] rfl (CPP.out _ (HFM.out.has.ex (by with_reducible repeat' (first | exact Ex.refl _ | exact hE1 | exact hE0 | refine Ex.alloc ?_ _ | refine Ex.drew ?_)))) ?_; rintro r wf1 ⟨am, rfl, hfm, hb1⟩; refine ⟨_, rfl, ?_⟩; have hE1 : Ex w2 wf1 := Ex.trans (by with_reducible repeat' (first | exact Ex.refl _ | exact hE1 | exact hE0 | refine Ex.alloc ?_ _ | refine Ex.drew ?_)) hb1; have hz1 := hE1.size; have hy1 := hb1.size; have hB1 := Blk.ex (Blk.new wf0 34 [.slice none 0 0, .slice none 0 0, .slice none 0 0, .int .i64 0, .int .i64 0, .int .i64 0, .int .i64 0, .slice none 0 0, .int .i64 0]) hb1
     refine hK.out _ _ ?r3_hS6 (fun hHeld6 => ?_)
     case r3_hS6 => exact FKO.out _ hE1
     clear hK K hHeld3
     try simp only [Act.put, List.setIfInBounds_toArray, List.set_cons_zero, List.set_cons_succ]
     refine tk 10 ?_; refine tk 11 ?_; refine tk 12 ?_
     refine wpAnyH_ready (rs := [14]) (by kernel_rfl) (by simp) ?_
     refine AllReadyH.cons (o := ?r3_o7) ?r3_ho7 (fun K hK => ?r3_b7) AllReadyH.nil
     case r3_ho7 => (conv => lhs; whnf; arg 1; whnf)
     case' r3_b7 => skip
     obtain ⟨hr0, hr1, hr2, hr3, hr4, hr5, hr6, hr7, hr8⟩ := hB1.c9; have hrf := hB1.frozen; have hrl := hB1.lt; go_simp
     refine hK.out _ _ ?r3_hS7 (fun hHeld7 => ?_)
     case r3_hS7 => exact FKO.out _ (by with_reducible repeat' (first | exact hE1 | exact hE0 | refine Ex.alloc ?_ _ | refine Ex.put ?_ (by omega) _))
     clear hK K hHeld6
     try simp only [Act.put, List.setIfInBounds_toArray, List.set_cons_zero, List.set_cons_succ]
     refine tk 15 ?_
     refine wpAnyH_done (by kernel_rfl) ?_ _
     clear hHeld7
     have HQ1 : Hid (FrM wf1 w.heap.size qm am) := zq (FrM.mono hfm (by first | omega | (simp; omega)))
     have HQ2 : Hid (Fr 4 wf1 w.heap.size Kq kq x.marks) := zq (HFK.out.ex hE1)
     have HQ3 : Hid (Blk wf1 gO 37 [.slice aq.b x.mach.table.buckets.length aq.bc, .slice aq.f x.mach.table.frames.length aq.fc, .slice aq.l x.mach.cache.lines.length aq.lc, .int .i64 x.mach.cache.hand, .int .i64 x.mach.tags.count, .int .i64 x.mach.tags.next, .int .i64 x.mach.tags.round, .slice aq.o x.mach.tags.owns.length aq.oc, .int .i64 x.mach.space, .slice Kq x.marks.length kq, .int .i64 x.hand]) := zq (HKO.out.ex hE1)
     have HQ4 : Hid (Blk wf1 (w.heap.size + 1) 37 [.slice none 0 0, .slice none 0 0, .slice none 0 0, .int .i64 0, .int .i64 0, .int .i64 0, .int .i64 0, .slice none 0 0, .int .i64 0, .slice none 0 0, .int .i64 0]) := zq (HKR.out.ex hE1)
     have HQ5 : Hid (Ex w wf1) := zq (HEX.out.trans hE1)
     have HQ6 := zq hB1
     have HRa := zq (HQ1.out.b.off HQ6.out (by decide))
     have HRb := zq (HQ1.out.f.off HQ6.out (by decide))
     have HRc := zq (HQ1.out.l.off HQ6.out (by decide))
     have HRd := zq (HQ1.out.o.off HQ6.out (by decide))
     have HRe := zq (HQ2.out.off HQ6.out (by decide))
     clear hfm
     go_wp2_with fail
     go_meet
     exact ⟨wf0.heap.size, am, rfl, rfl, Blk.put9 HQ6.out, (zf HQ3.out), ⟨(zr HQ1.out.b HRa.out), (zr HQ1.out.f HRb.out), (zr HQ1.out.l HRc.out), (zr HQ1.out.o HRd.out)⟩, (zr HQ2.out HRe.out), (ze HQ5.out), (zf HQ4.out), by omega⟩
   case r3_b1 =>
    go_simp
    refine hK.out _ _ ?r3_hS1 (fun hHeld1 => ?_)
    case r3_hS1 => exact FKO.out _ (by with_reducible repeat' (first | exact Ex.refl _ | exact hE1 | exact hE0 | refine Ex.alloc ?_ _ | refine Ex.drew ?_))
    clear hK K hHeld
    try simp only [Act.put, List.setIfInBounds_toArray, List.set_cons_zero, List.set_cons_succ]
    refine wpAnyH_ready (rs := [6]) (by kernel_rfl) (by simp) ?_
    refine AllReadyH.cons (o := ?r3_o8) ?r3_ho8 (fun K hK => ?r3_b8) AllReadyH.nil
    case r3_ho8 => (conv => lhs; whnf; arg 1; whnf)
    case' r3_b8 => skip
    refine step_call_gu rfl CE0.out _ _ rfl #[.int .i64 x.mach.space, .int .i64 page] rfl (CKF.out _) ?_; rintro r wf0 ⟨rfl, hb0⟩; refine ⟨_, rfl, ?_⟩; have hE0 : Ex w2 wf0 := Ex.trans (by with_reducible repeat' (first | exact Ex.refl _ | exact hE1 | exact hE0 | refine Ex.alloc ?_ _ | refine Ex.drew ?_)) hb0; have hz0 := hE0.size; have hy0 := hb0.size; have hB0 := Blk.ex (Blk.new w2 34 [.slice none 0 0, .slice none 0 0, .slice none 0 0, .int .i64 0, .int .i64 0, .int .i64 0, .int .i64 0, .slice none 0 0, .int .i64 0]).drew hb0
    refine hK.out _ _ ?r3_hS8 (fun hHeld8 => ?_)
    case r3_hS8 => exact FKO.out _ hE0
    clear hK K hHeld1
    try simp only [Act.put, List.setIfInBounds_toArray, List.set_cons_zero, List.set_cons_succ]
    refine wpAnyH_ready (rs := [9]) (by kernel_rfl) (by simp) ?_
    refine AllReadyH.cons (o := ?r3_o9) ?r3_ho9 (fun K hK => ?r3_b9) AllReadyH.nil
    case r3_ho9 => (conv => lhs; whnf; arg 1; whnf)
    case' r3_b9 => skip
    refine step_call_gu rfl CE1.out _ _ rfl #[.agg #[.slice aq.b x.mach.table.buckets.length aq.bc, .slice aq.f x.mach.table.frames.length aq.fc, .slice aq.l x.mach.cache.lines.length aq.lc, .int .i64 x.mach.cache.hand, .int .i64 x.mach.tags.count, .int .i64 x.mach.tags.next, .int .i64 x.mach.tags.round, .slice aq.o x.mach.tags.owns.length aq.oc, .int .i64 x.mach.space], .agg #[.int .i64 ky.space, .int .i64 ky.page], .int .i64 i, .int .i64 rights] rfl (CPP.out _ (HFM.out.has.ex (by with_reducible repeat' (first | exact Ex.refl _ | exact hE1 | exact hE0 | refine Ex.alloc ?_ _ | refine Ex.drew ?_)))) ?_; rintro r wf1 ⟨am, rfl, hfm, hb1⟩; refine ⟨_, rfl, ?_⟩; have hE1 : Ex w2 wf1 := Ex.trans (by with_reducible repeat' (first | exact Ex.refl _ | exact hE1 | exact hE0 | refine Ex.alloc ?_ _ | refine Ex.drew ?_)) hb1; have hz1 := hE1.size; have hy1 := hb1.size; have hB1 := Blk.ex hB0 hb1
    refine hK.out _ _ ?r3_hS9 (fun hHeld9 => ?_)
    case r3_hS9 => exact FKO.out _ hE1
    clear hK K hHeld8
    try simp only [Act.put, List.setIfInBounds_toArray, List.set_cons_zero, List.set_cons_succ]
    refine tk 10 ?_; refine tk 11 ?_; refine tk 12 ?_
    refine wpAnyH_ready (rs := [14]) (by kernel_rfl) (by simp) ?_
    refine AllReadyH.cons (o := ?r3_o10) ?r3_ho10 (fun K hK => ?r3_b10) AllReadyH.nil
    case r3_ho10 => (conv => lhs; whnf; arg 1; whnf)
    case' r3_b10 => skip
    obtain ⟨hr0, hr1, hr2, hr3, hr4, hr5, hr6, hr7, hr8⟩ := hB1.c9; have hrf := hB1.frozen; have hrl := hB1.lt; go_simp
    refine hK.out _ _ ?r3_hS10 (fun hHeld10 => ?_)
    case r3_hS10 => exact FKO.out _ (by with_reducible repeat' (first | exact hE1 | exact hE0 | refine Ex.alloc ?_ _ | refine Ex.put ?_ (by omega) _))
    clear hK K hHeld9
    try simp only [Act.put, List.setIfInBounds_toArray, List.set_cons_zero, List.set_cons_succ]
    refine tk 15 ?_
    refine wpAnyH_done (by kernel_rfl) ?_ _
    clear hHeld10
    have HQ1 : Hid (FrM wf1 w.heap.size qm am) := zq (FrM.mono hfm (by first | omega | (simp; omega)))
    have HQ2 : Hid (Fr 4 wf1 w.heap.size Kq kq x.marks) := zq (HFK.out.ex hE1)
    have HQ3 : Hid (Blk wf1 gO 37 [.slice aq.b x.mach.table.buckets.length aq.bc, .slice aq.f x.mach.table.frames.length aq.fc, .slice aq.l x.mach.cache.lines.length aq.lc, .int .i64 x.mach.cache.hand, .int .i64 x.mach.tags.count, .int .i64 x.mach.tags.next, .int .i64 x.mach.tags.round, .slice aq.o x.mach.tags.owns.length aq.oc, .int .i64 x.mach.space, .slice Kq x.marks.length kq, .int .i64 x.hand]) := zq (HKO.out.ex hE1)
    have HQ4 : Hid (Blk wf1 (w.heap.size + 1) 37 [.slice none 0 0, .slice none 0 0, .slice none 0 0, .int .i64 0, .int .i64 0, .int .i64 0, .int .i64 0, .slice none 0 0, .int .i64 0, .slice none 0 0, .int .i64 0]) := zq (HKR.out.ex hE1)
    have HQ5 : Hid (Ex w wf1) := zq (HEX.out.trans hE1)
    have HQ6 := zq hB1
    have HRa := zq (HQ1.out.b.off HQ6.out (by decide))
    have HRb := zq (HQ1.out.f.off HQ6.out (by decide))
    have HRc := zq (HQ1.out.l.off HQ6.out (by decide))
    have HRd := zq (HQ1.out.o.off HQ6.out (by decide))
    have HRe := zq (HQ2.out.off HQ6.out (by decide))
    clear hfm
    go_wp2_with fail
    go_meet
    exact ⟨w2.heap.size, am, rfl, rfl, Blk.put9 HQ6.out, (zf HQ3.out), ⟨(zr HQ1.out.b HRa.out), (zr HQ1.out.f HRb.out), (zr HQ1.out.l HRc.out), (zr HQ1.out.o HRd.out)⟩, (zr HQ2.out HRe.out), (ze HQ5.out), (zf HQ4.out), by omega⟩
  case rest =>
   obtain ⟨gM, am, rfl, rfl, hkm, hko, hfm, hkf, hex, hkr, hgm⟩ := hcut
   have KM := zq hkm; have KO := zq hko; have KR := zq hkr
   have FM := zq hfm; have FK := zq hkf; have EX := zq hex
   clear hkm hko hfm hkf hex hkr HKO HFM HFK HEX HKR FKO CPP CKF
   obtain ⟨m0, m1, m2, m3, m4, m5, m6, m7, m8⟩ := KM.out.c9
   have ml := KM.out.lt
   obtain ⟨o0, o1, o2, o3, o4, o5, o6, o7, o8, o9, o10⟩ := KO.out.c11
   have oz := KO.out.frozen; have ol := KO.out.lt
   obtain ⟨r0, r1, r2, r3, r4, r5, r6, r7, r8, r9, r10⟩ := KR.out.c11
   have rz := KR.out.frozen; have rl := KR.out.lt
   have hgR : ¬ gO = w.heap.size + 1 := by omega
   have hgR2 : ¬ w.heap.size + 1 = gO := by omega
   have hgM1 : ¬ gM = gO := by omega
   have hgM2 : ¬ gO = gM := by omega
   have HOa := zq (FM.out.b.off KO.out (by decide)); have HRa := zq (FM.out.b.off KR.out (by decide))
   have HOb := zq (FM.out.f.off KO.out (by decide)); have HRb := zq (FM.out.f.off KR.out (by decide))
   have HOc := zq (FM.out.l.off KO.out (by decide)); have HRc := zq (FM.out.l.off KR.out (by decide))
   have HOd := zq (FM.out.o.off KO.out (by decide)); have HRd := zq (FM.out.o.off KR.out (by decide))
   have HOe := zq (FK.out.off KO.out (by decide)); have HRe := zq (FK.out.off KR.out (by decide))
   go_wp2
   exact bodyPost_ret (v := .tuple #[.agg #[.slice am.b qm.table.buckets.length am.bc, .slice am.f qm.table.frames.length am.fc, .slice am.l qm.cache.lines.length am.lc, .int .i64 qm.cache.hand, .int .i64 qm.tags.count, .int .i64 qm.tags.next, .int .i64 qm.tags.round, .slice am.o qm.tags.owns.length am.oc, .int .i64 qm.space, .slice Kq x.marks.length kq, .int .i64 x.hand], .bool true]) (by simp [results, Tryz.results97, go_sem, *]) rfl
    ⟨⟨qm, x.marks, x.hand⟩, true, am, Kq, kq, rfl, fun _ => HFIN.out, ⟨⟨(zt FM.out.b HOa.out HRa.out), (zt FM.out.f HOb.out HRb.out), (zt FM.out.l HOc.out HRc.out), (zt FM.out.o HOd.out HRd.out)⟩, (zt FK.out HOe.out HRe.out)⟩, (ze EX.out)⟩
 · -- no frame is free: the clock chooses one
  have C3 := zq (fun w' (e1 : Ex w w') => clockS_c x a K kc w' h (hx.ex e1) hc hk hkk)
  unfold Clocked at C3
  rw [hfr] at C2
  have HH := zq h
  have HP := zq hr
  have HKO1 := zq hko; have HKA := zq hka; have HNN := zq hn
  clear hfr hx hc hk hkk h hky hn hp hr hka hko
  go_enter Tryz.func97, Tryz.ntmps97
  go_wp2_with fail
  refine name_calls ?_; intro v1 hv1
  have X1 : Hid (Chg (0) (0) w v1) := zx hv1
  have t1 := X1.out.size
  have Ev1 := zq ((Ex.refl w).chg X1.out (by omega))
  have KX : Hid (Blk v1 (w.heap.size) 37 [.slice a.b x.mach.table.buckets.length a.bc, .slice a.f x.mach.table.frames.length a.fc, .slice a.l x.mach.cache.lines.length a.lc, .int .i64 x.mach.cache.hand, .int .i64 x.mach.tags.count, .int .i64 x.mach.tags.next, .int .i64 x.mach.tags.round, .slice a.o x.mach.tags.owns.length a.oc, .int .i64 x.mach.space, .slice K x.marks.length kc, .int .i64 x.hand]) := zk hv1
  have lX : w.heap.size < v1.heap.size := KX.out.lt
  have KR : Hid (Blk v1 (w.heap.size + 1) 37 [.slice none 0 0, .slice none 0 0, .slice none 0 0, .int .i64 0, .int .i64 0, .int .i64 0, .int .i64 0, .slice none 0 0, .int .i64 0, .slice none 0 0, .int .i64 0]) := zk hv1
  have lR : w.heap.size + 1 < v1.heap.size := KR.out.lt
  clear hv1
  refine (C1.out _ Ev1.out).mono ?_; rintro r w1 ⟨a1, K1, k1, rfl, hhf1, hb1⟩
  have Y1 := zq (Chg.of_ex hb1)
  have s1 := Y1.out.size
  have Ew1 := zq (Ev1.out.chg Y1.out (by omega))
  clear hb1
  replace KX := zq (KX.out.chg Y1.out (by omega))
  replace KR := zq (KR.out.chg Y1.out (by omega))
  have HHF1 := zq hhf1; clear hhf1
  obtain ⟨qX0, qX1, qX2, qX3, qX4, qX5, qX6, qX7, qX8, qX9, qX10⟩ := KX.out.c11
  have jX := KX.out.lt
  obtain ⟨qR0, qR1, qR2, qR3, qR4, qR5, qR6, qR7, qR8, qR9, qR10⟩ := KR.out.c11
  have jR := KR.out.lt
  have zR := KR.out.frozen
  go_wp2_with fail
  refine name_calls ?_; intro v2 hv2
  have X2 : Hid (Chg (0) (0) w1 v2) := zx hv2
  have t2 := X2.out.size
  have Ev2 := zq (Ew1.out.chg X2.out (by omega))
  clear qX0 qX1 qX2 qX3 qX4 qX5 qX6 qX7 qX8 qX9 qX10 jX
  clear qR0 qR1 qR2 qR3 qR4 qR5 qR6 qR7 qR8 qR9 qR10 jR zR
  replace KX := zq (KX.out.chg X2.out (by omega))
  replace KR := zq (KR.out.chg X2.out (by omega))
  have KO : Hid (Blk v2 (w1.heap.size) 37 [.slice a1.b x.mach.table.buckets.length a1.bc, .slice a1.f x.mach.table.frames.length a1.fc, .slice a1.l x.mach.cache.lines.length a1.lc, .int .i64 x.mach.cache.hand, .int .i64 x.mach.tags.count, .int .i64 x.mach.tags.next, .int .i64 x.mach.tags.round, .slice a1.o x.mach.tags.owns.length a1.oc, .int .i64 x.mach.space, .slice K1 x.marks.length k1, .int .i64 x.hand]) := zk hv2
  have lO : w1.heap.size < v2.heap.size := KO.out.lt
  clear hv2
  refine (C2.out _ Ev2.out).mono ?_; rintro r w2 ⟨rfl, hb2⟩
  have Y2 := zq (Chg.of_ex hb2)
  have s2 := Y2.out.size
  have Ew2 := zq (Ev2.out.chg Y2.out (by omega))
  clear hb2
  replace KX := zq (KX.out.chg Y2.out (by omega))
  replace KR := zq (KR.out.chg Y2.out (by omega))
  replace KO := zq (KO.out.chg Y2.out (by omega))
  obtain ⟨qX0, qX1, qX2, qX3, qX4, qX5, qX6, qX7, qX8, qX9, qX10⟩ := KX.out.c11
  have jX := KX.out.lt
  obtain ⟨qR0, qR1, qR2, qR3, qR4, qR5, qR6, qR7, qR8, qR9, qR10⟩ := KR.out.c11
  have jR := KR.out.lt
  have zR := KR.out.frozen
  obtain ⟨qO0, qO1, qO2, qO3, qO4, qO5, qO6, qO7, qO8, qO9, qO10⟩ := KO.out.c11
  have jO := KO.out.lt
  have zO := KO.out.frozen
  go_wp2_with fail
  refine name_calls ?_; intro v3 hv3
  have X3 : Hid (Chg (0) (0) w2 v3) := zx hv3
  have t3 := X3.out.size
  have Ev3 := zq (Ew2.out.chg X3.out (by omega))
  clear qX0 qX1 qX2 qX3 qX4 qX5 qX6 qX7 qX8 qX9 qX10 jX
  clear qR0 qR1 qR2 qR3 qR4 qR5 qR6 qR7 qR8 qR9 qR10 jR zR
  clear qO0 qO1 qO2 qO3 qO4 qO5 qO6 qO7 qO8 qO9 qO10 jO zO
  replace KX := zq (KX.out.chg X3.out (by omega))
  replace KR := zq (KR.out.chg X3.out (by omega))
  replace KO := zq (KO.out.chg X3.out (by omega))
  clear hv3
  refine (C3.out _ Ev3.out).mono ?_; rintro r w3 ⟨ks, hd, at3, ⟨A3, c3, B3, d3, L3, e3, O3, g3⟩, K3, k3, rfl, hhls, hhlt, hhor, hhe3, hb3⟩
  have Y3 := zq (Chg.of_ex hb3)
  have s3 := Y3.out.size
  have Ew3 := zq (Ev3.out.chg Y3.out (by omega))
  clear hb3
  replace KX := zq (KX.out.chg Y3.out (by omega))
  replace KR := zq (KR.out.chg Y3.out (by omega))
  replace KO := zq (KO.out.chg Y3.out (by omega))
  have HHLS := zq hhls; clear hhls
  have HHLT := zq hhlt; clear hhlt
  have HHOR := zq hhor; clear hhor
  have HHE3 := zq hhe3; clear hhe3
  obtain ⟨qX0, qX1, qX2, qX3, qX4, qX5, qX6, qX7, qX8, qX9, qX10⟩ := KX.out.c11
  have jX := KX.out.lt
  obtain ⟨qR0, qR1, qR2, qR3, qR4, qR5, qR6, qR7, qR8, qR9, qR10⟩ := KR.out.c11
  have jR := KR.out.lt
  have zR := KR.out.frozen
  obtain ⟨qO0, qO1, qO2, qO3, qO4, qO5, qO6, qO7, qO8, qO9, qO10⟩ := KO.out.c11
  have jO := KO.out.lt
  have zO := KO.out.frozen
  obtain ⟨gO, hgO⟩ : ∃ gO, gO = w1.heap.size := ⟨_, rfl⟩
  rw [← hgO] at KO lO jO qO0 qO1 qO2 qO3 qO4 qO5 qO6 qO7 qO8 qO9 qO10 zO ⊢
  have hOR : w.heap.size + 1 < gO := by omega
  have hOv : gO < v3.heap.size := by omega
  have hgR : ¬ gO = w.heap.size + 1 := by omega
  have hgR2 : ¬ w.heap.size + 1 = gO := by omega
  clear hgO HHF1
  rcases HHOR.out with rfl | ⟨i, f, rfl, hf, hu⟩
  ·clear HHOR HHLS HHLT HHE3
   go_wp2
   exact bodyPost_ret (v := .tuple #[.agg #[.slice none 0 0, .slice none 0 0, .slice none 0 0, .int .i64 0, .int .i64 0, .int .i64 0, .int .i64 0, .slice none 0 0, .int .i64 0, .slice none 0 0, .int .i64 0], .bool false]) (by simp [results, Tryz.results97, go_sem, *]) rfl
    ⟨noMem, false, ⟨none, 0, none, 0, none, 0, none, 0⟩, none, 0, rfl, (fun h => by cases h), ⟨⟨Fr.none_ _ _ _ _, Fr.none_ _ _ _ _, Fr.none_ _ _ _ _, Fr.none_ _ _ _ _⟩, Fr.none_ _ _ _ _⟩, (ze Ew3.out)⟩
  have hfl := getElem?_lt hf
  have hkl : ks.length = x.mach.table.frames.length := by rw [HHLS.out.len]; exact HH.out.2.1
  have h1 : MemOk ⟨x.mach, ks, (hd : Int)⟩ := HH.out.less HHLS.out ⟨by omega, by have := HHLT.out; omega⟩
  obtain ⟨t1, t2, t3, t4, t5, t6, t7⟩ := h1.take hf hu
  try dsimp only at t3 t4 t5 t6 t7
  obtain ⟨tm, htm⟩ : ∃ tm, takeM x.mach f.key = (tm, true) := ⟨_, by rw [← t3]⟩
  rw [htm] at t4 t5 t6 t7
  try dsimp only at t4 t5 t6 t7
  have hN2 : findF tm.table ky < 0 := t7 ky HNN.out
  have hka2 : keyFor ky.space ky.page = ky := HKA.out
  obtain ⟨p1, p2, p3, p4, p5⟩ := t4.put (rt := rights) HKO1.out hka2 HP.out t5 rfl hN2
  try dsimp only at p1 p2 p3 p4 p5
  obtain ⟨qm, hqm⟩ : ∃ qm, putM tm ky i rights = (qm, true) := ⟨_, by rw [← p1]⟩
  rw [hqm] at p2 p3 p4 p5
  try dsimp only at p2 p3 p4 p5
  have HQL : Hid (tm.table.frames.length = x.mach.table.frames.length) := zq (by
   have e1 := t4.2.1
   simp only [List.length_set] at e1
   omega)
  have CPP := zq (fun (aq : MA) w' (h1 : HasM w' tm aq) (h2 : CapM tm aq) (h3 : CapX aq) => putS_c tm aq ky i rights w' t4.1 h1 h2 h3 HKO1.out hka2 HP.out (by rw [HQL.out]; exact hfl))
  rw [hqm] at CPP
  unfold MachOr at CPP
  dsimp only at CPP
  have CTK := zq (fun w' (h2 : HasM w' x.mach ⟨A3, c3, B3, d3, L3, e3, O3, g3⟩) => takeS_c x.mach ⟨A3, c3, B3, d3, L3, e3, O3, g3⟩ f.key w' HH.out.1 h2 HHE3.out.m.cap HHE3.out.m.capx t1)
  rw [htm] at CTK
  unfold MachOr at CTK
  dsimp only at CTK
  have HFIN : Hid (MemOk ⟨qm, ks.set i false, (hd : Int)⟩ ∧ 0 ≤ findF qm.table (keyFor qm.space page)) := zq ⟨p2, by rw [p4, t6, ← HKY.out, p3]; omega⟩
  have HSP : Hid (tm.space = x.mach.space) := zq t6
  have hHM := HHE3.out.m
  have hHK := HHE3.out.k
  obtain ⟨b2, rs2, rfl, hBb, hbf, hrs2⟩ := hHM.f.open_ (k := i) hfl
  obtain ⟨gK, rs3, rfl, hBk, hbk, hrs3⟩ := hHK.open_ (k := i) (show i < ks.length by omega)
  have hk3l : ks.length ≤ k3 := hHK.le
  have hk3m := hHK.cap
  obtain ⟨f0, f1, f2, f3, f4⟩ := hbf.frame hf
  have hd3p : 0 < d3 := by have := hHM.f.le; dsimp only at this; omega
  have hb2O : ¬ b2 = gO := (hHM.f.off KO.out (by decide)) b2 (rowOf_some hd3p)
  have hb2K : ¬ b2 = gK := (hHM.f.off hbk (by decide)) b2 (rowOf_some hd3p)
  have hgKO : ¬ gO = gK := by omega
  have hgKO2 : ¬ gK = gO := by omega
  have hgKR : ¬ w.heap.size + 1 = gK := by omega
  have gKl := Blk.lt hbk
  have gKz := hbk.frozen i
  obtain ⟨vK, hvK⟩ : ∃ v, ks[i]? = some v := ⟨_, List.getElem?_eq_getElem (by omega)⟩
  have gKc := hbk.bool hvK
  have hin : (i : Int) < (ks.length : Int) := by omega
  have hin2 : (i : Int) < (x.mach.table.frames.length : Int) := by omega
  have hi0 : ¬ (i : Int) < 0 := by omega
  have HKL := zq hkl; clear hkl
  have HHM := zq hHM; have HBF := zq hbf; have HBK := zq hbk; have HRS3 := zq hrs3; have HF := zq hf
  clear hHM hHK hbf hbk hrs2 hrs3 hvK hf hu h1 t1 t2 t3 t4 t5 t6 t7 htm hqm p1 p2 p3 p4 p5 hN2 hka2 HHOR HHLT HHLS HHE3 HH HP HKO1 HKA HNN f0 f1 f2 f3 f4
  go_wp2_with fail
  refine name_code ?_
  intro w8 hw8
  have HW8 := zq hw8
  clear hw8
  have HKO : Hid (Blk w8 gO 37 [.slice A3 x.mach.table.buckets.length c3, .slice (some ⟨b2, 0, none⟩) x.mach.table.frames.length d3, .slice L3 x.mach.cache.lines.length e3, .int .i64 x.mach.cache.hand, .int .i64 x.mach.tags.count, .int .i64 x.mach.tags.next, .int .i64 x.mach.tags.round, .slice O3 x.mach.tags.owns.length g3, .int .i64 x.mach.space, .slice (some ⟨gK, 0, none⟩) ks.length k3, .int .i64 hd]) := zq (by rw [HW8.out]; exact (Blk.put11 KO.out).far hgKO _)
  have HKR : Hid (Blk w8 (w.heap.size + 1) 37 [.slice none 0 0, .slice none 0 0, .slice none 0 0, .int .i64 0, .int .i64 0, .int .i64 0, .int .i64 0, .slice none 0 0, .int .i64 0, .slice none 0 0, .int .i64 0]) := zq (by rw [HW8.out]; exact (zf KR.out))
  have HBK8 : Hid (Bk 4 w8 gK (ks.set i false) rs3) := zq (by rw [HW8.out]; exact Bk.set_bool (by with_reducible repeat' (first | exact HBK.out | refine Bk.far ?_ (by first | (simp; done) | (simp; omega)) _)) false (by have := HKL.out; omega))
  have HBF8 : Hid (Bk 45 w8 b2 x.mach.table.frames rs2) := zq (by rw [HW8.out]; exact (by with_reducible repeat' (first | exact HBF.out | refine Bk.far ?_ (by first | (simp; done) | (simp; omega)) _)))
  have HOa := zq (HHM.out.b.off KO.out (by decide)); have HKa := zq (HHM.out.b.off HBK.out (by decide))
  have HOb := zq (HHM.out.f.off KO.out (by decide)); have HKb := zq (HHM.out.f.off HBK.out (by decide))
  have HOc := zq (HHM.out.l.off KO.out (by decide)); have HKc := zq (HHM.out.l.off HBK.out (by decide))
  have HOd := zq (HHM.out.o.off KO.out (by decide)); have HKd := zq (HHM.out.o.off HBK.out (by decide))
  have HFM : Hid (FrM w8 v3.heap.size x.mach ⟨A3, c3, some ⟨b2, 0, none⟩, d3, L3, e3, O3, g3⟩) := zq (by rw [HW8.out]; exact ⟨(zt HHM.out.b HOa.out HKa.out), (zt HHM.out.f HOb.out HKb.out), (zt HHM.out.l HOc.out HKc.out), (zt HHM.out.o HOd.out HKd.out)⟩)
  have HEX : Hid (Ex w w8) := zq (by rw [HW8.out]; exact (ze Ew3.out))
  have HFK : Hid (Fr 4 w8 w.heap.size (some ⟨gK, 0, none⟩) k3 (ks.set i false)) := zq (Fr.close HBK8.out (by omega) (by rw [List.length_set]; exact HRS3.out) (by rw [List.length_set]; exact hk3l) hk3m)
  clear KO KR HBK HBK8 HRS3 HHM HBF gKc gKz gKl HOa HKa HOb HKb HOc HKc HOd HKd qO0 qO1 qO2 qO3 qO4 qO5 qO6 qO7 qO8 qO9 qO10 zO jO lO qR0 qR1 qR2 qR3 qR4 qR5 qR6 qR7 qR8 qR9 qR10 zR jR C1 C2 C3
  have FK8 : Hid (∀ w', Ex w8 w' → ((w'.cell? ⟨gO, 0, none⟩ = some (.slice A3 x.mach.table.buckets.length c3) ∧ w'.cell? ⟨gO, 1, none⟩ = some (.slice (some ⟨b2, 0, none⟩) x.mach.table.frames.length d3) ∧ w'.cell? ⟨gO, 2, none⟩ = some (.slice L3 x.mach.cache.lines.length e3) ∧ w'.cell? ⟨gO, 3, none⟩ = some (.int .i64 x.mach.cache.hand) ∧ w'.cell? ⟨gO, 4, none⟩ = some (.int .i64 x.mach.tags.count) ∧ w'.cell? ⟨gO, 5, none⟩ = some (.int .i64 x.mach.tags.next) ∧ w'.cell? ⟨gO, 6, none⟩ = some (.int .i64 x.mach.tags.round) ∧ w'.cell? ⟨gO, 7, none⟩ = some (.slice O3 x.mach.tags.owns.length g3) ∧ w'.cell? ⟨gO, 8, none⟩ = some (.int .i64 x.mach.space) ∧ w'.cell? ⟨gO, 9, none⟩ = some (.slice (some ⟨gK, 0, none⟩) ks.length k3) ∧ w'.cell? ⟨gO, 10, none⟩ = some (.int .i64 hd)) ∧ w'.cell? ⟨b2, i * 5 + 1, none⟩ = some (.int .i64 f.key.space) ∧ w'.cell? ⟨b2, i * 5 + 2, none⟩ = some (.int .i64 f.key.page))) := zq (fun w' h => ⟨(HKO.out.ex h).c11, ((HBF8.out.ex h).frame HF.out).2.1, ((HBF8.out.ex h).frame HF.out).2.2.1⟩)
  have hjO : gO < w8.heap.size := HKO.out.lt
  have hjw : w.heap.size ≤ w8.heap.size := HEX.out.size
  have CET : Hid (∀ (args : Array Value) (w : World), (callFunc 94 args).run Tryz.prog w = .ok (.enter 94 args) w) := zq (enters Tryz.func94 (by kernel_rfl) (by kernel_rfl))
  go_cut [10, 11] (fun s t wx => ∃ (gM : Nat) (aq : MA), s = .pointer (some ⟨gM, 0, none⟩) ∧ t = .bool true ∧ Blk wx gM 34 [.slice aq.b tm.table.buckets.length aq.bc, .slice aq.f tm.table.frames.length aq.fc, .slice aq.l tm.cache.lines.length aq.lc, .int .i64 tm.cache.hand, .int .i64 tm.tags.count, .int .i64 tm.tags.next, .int .i64 tm.tags.round, .slice aq.o tm.tags.owns.length aq.oc, .int .i64 tm.space] ∧ Blk wx gO 37 [.slice A3 x.mach.table.buckets.length c3, .slice (some ⟨b2, 0, none⟩) x.mach.table.frames.length d3, .slice L3 x.mach.cache.lines.length e3, .int .i64 x.mach.cache.hand, .int .i64 x.mach.tags.count, .int .i64 x.mach.tags.next, .int .i64 x.mach.tags.round, .slice O3 x.mach.tags.owns.length g3, .int .i64 x.mach.space, .slice (some ⟨gK, 0, none⟩) ks.length k3, .int .i64 hd] ∧ FrM wx w.heap.size tm aq ∧ Fr 4 wx w.heap.size (some ⟨gK, 0, none⟩) k3 (ks.set i false) ∧ Ex w wx ∧ Blk wx (w.heap.size + 1) 37 [.slice none 0 0, .slice none 0 0, .slice none 0 0, .int .i64 0, .int .i64 0, .int .i64 0, .int .i64 0, .slice none 0 0, .int .i64 0, .slice none 0 0, .int .i64 0] ∧ gO < gM)
  case first =>
   refine wp_region_held_drew (S := (fun w' => ((w'.cell? ⟨gO, 0, none⟩ = some (.slice A3 x.mach.table.buckets.length c3) ∧ w'.cell? ⟨gO, 1, none⟩ = some (.slice (some ⟨b2, 0, none⟩) x.mach.table.frames.length d3) ∧ w'.cell? ⟨gO, 2, none⟩ = some (.slice L3 x.mach.cache.lines.length e3) ∧ w'.cell? ⟨gO, 3, none⟩ = some (.int .i64 x.mach.cache.hand) ∧ w'.cell? ⟨gO, 4, none⟩ = some (.int .i64 x.mach.tags.count) ∧ w'.cell? ⟨gO, 5, none⟩ = some (.int .i64 x.mach.tags.next) ∧ w'.cell? ⟨gO, 6, none⟩ = some (.int .i64 x.mach.tags.round) ∧ w'.cell? ⟨gO, 7, none⟩ = some (.slice O3 x.mach.tags.owns.length g3) ∧ w'.cell? ⟨gO, 8, none⟩ = some (.int .i64 x.mach.space) ∧ w'.cell? ⟨gO, 9, none⟩ = some (.slice (some ⟨gK, 0, none⟩) ks.length k3) ∧ w'.cell? ⟨gO, 10, none⟩ = some (.int .i64 hd)) ∧ w'.cell? ⟨b2, i * 5 + 1, none⟩ = some (.int .i64 f.key.space) ∧ w'.cell? ⟨b2, i * 5 + 2, none⟩ = some (.int .i64 f.key.page)))) (by kernel_rfl) ?r1_hS0 (fun hHeld => ?_)
   case r1_hS0 => exact FK8.out _ (Ex.refl _).drew
   refine tk 0 ?_; refine tk 1 ?_; refine tk 2 ?_; refine tk 3 ?_; refine tk 4 ?_; refine tk 5 ?_; refine tk 6 ?_; refine tk 7 ?_; refine tk 8 ?_; refine tk 9 ?_
   refine wpAnyH_ready (rs := [10, 14]) (by kernel_rfl) (by simp) ?_
   refine AllReadyH.cons (o := ?r1_o0) ?r1_ho0 (fun K hK => ?r1_b0) (AllReadyH.cons (o := ?r1_o1) ?r1_ho1 (fun K hK => ?r1_b1) AllReadyH.nil)
   case r1_ho0 => (conv => lhs; whnf; arg 1; whnf)
   case r1_ho1 => (conv => lhs; whnf; arg 1; whnf)
   case r1_b0 =>
    refine step_call_gu rfl CET.out _ _ rfl #[.agg #[.slice A3 x.mach.table.buckets.length c3, .slice (some ⟨b2, 0, none⟩) x.mach.table.frames.length d3, .slice L3 x.mach.cache.lines.length e3, .int .i64 x.mach.cache.hand, .int .i64 x.mach.tags.count, .int .i64 x.mach.tags.next, .int .i64 x.mach.tags.round, .slice O3 x.mach.tags.owns.length g3, .int .i64 x.mach.space], .agg #[.int .i64 f.key.space, .int .i64 f.key.page]] rfl (CTK.out _ (HFM.out.has.ex (by with_reducible repeat' (first | exact Ex.refl _ | exact hE0 | refine Ex.alloc ?_ _ | refine Ex.drew ?_)))) ?_; rintro r wf0 ⟨aq, rfl, hfm, hb0⟩; refine ⟨_, rfl, ?_⟩; have hE0 : Ex w8 wf0 := Ex.trans (by with_reducible repeat' (first | exact Ex.refl _ | exact hE0 | refine Ex.alloc ?_ _ | refine Ex.drew ?_)) hb0; have hz0 := hE0.size; have hy0 := hb0.size
    refine hK.out _ _ ?r1_hS0 (fun hHeld0 => ?_)
    case r1_hS0 => exact FK8.out _ hE0
    clear hK K hHeld
    try simp only [Act.put, List.setIfInBounds_toArray, List.set_cons_zero, List.set_cons_succ]
    refine tk 11 ?_; refine tk 12 ?_; refine tk 13 ?_
    refine wpAnyH_ready (rs := [14]) (by kernel_rfl) (by simp) ?_
    refine AllReadyH.cons (o := ?r1_o2) ?r1_ho2 (fun K hK => ?r1_b2) AllReadyH.nil
    case r1_ho2 => (conv => lhs; whnf; arg 1; whnf)
    case' r1_b2 => skip
    go_simp
    refine hK.out _ _ ?r1_hS2 (fun hHeld2 => ?_)
    case r1_hS2 => exact FK8.out _ (by with_reducible repeat' (first | exact Ex.refl _ | exact hE0 | refine Ex.alloc ?_ _ | refine Ex.drew ?_))
    clear hK K hHeld0
    try simp only [Act.put, List.setIfInBounds_toArray, List.set_cons_zero, List.set_cons_succ]
    refine wpAnyH_ready (rs := [15]) (by kernel_rfl) (by simp) ?_
    refine AllReadyH.cons (o := ?r1_o3) ?r1_ho3 (fun K hK => ?r1_b3) AllReadyH.nil
    case r1_ho3 => (conv => lhs; whnf; arg 1; whnf)
    case' r1_b3 => skip
    go_simp
    refine hK.out _ _ ?r1_hS3 (fun hHeld3 => ?_)
    case r1_hS3 => exact FK8.out _ (ze hE0)
    clear hK K hHeld2
    try simp only [Act.put, List.setIfInBounds_toArray, List.set_cons_zero, List.set_cons_succ]
    refine tk 16 ?_
    refine wpAnyH_done (by kernel_rfl) ?_ _
    clear hHeld3
    have HQ1 : Hid (FrM wf0 w.heap.size tm aq) := zq (FrM.mono hfm (by first | omega | (simp; omega)))
    have HQ2 : Hid (Fr 4 wf0 w.heap.size (some ⟨gK, 0, none⟩) k3 (ks.set i false)) := zq (HFK.out.ex hE0)
    have HQ3 : Hid (Blk wf0 gO 37 [.slice A3 x.mach.table.buckets.length c3, .slice (some ⟨b2, 0, none⟩) x.mach.table.frames.length d3, .slice L3 x.mach.cache.lines.length e3, .int .i64 x.mach.cache.hand, .int .i64 x.mach.tags.count, .int .i64 x.mach.tags.next, .int .i64 x.mach.tags.round, .slice O3 x.mach.tags.owns.length g3, .int .i64 x.mach.space, .slice (some ⟨gK, 0, none⟩) ks.length k3, .int .i64 hd]) := zq (HKO.out.ex hE0)
    have HQ4 : Hid (Blk wf0 (w.heap.size + 1) 37 [.slice none 0 0, .slice none 0 0, .slice none 0 0, .int .i64 0, .int .i64 0, .int .i64 0, .int .i64 0, .slice none 0 0, .int .i64 0, .slice none 0 0, .int .i64 0]) := zq (HKR.out.ex hE0)
    have HQ5 : Hid (Ex w wf0) := zq (HEX.out.trans hE0)
    clear hfm
    go_wp2_with fail
    go_meet
    exact ⟨wf0.heap.size, aq, rfl, rfl, Blk.new _ _ _, (zf HQ3.out), ⟨HQ1.out.b.alloc _, HQ1.out.f.alloc _, HQ1.out.l.alloc _, HQ1.out.o.alloc _⟩, HQ2.out.alloc _, (ze HQ5.out), (zf HQ4.out), by omega⟩
   case r1_b1 =>
    go_simp
    refine hK.out _ _ ?r1_hS1 (fun hHeld1 => ?_)
    case r1_hS1 => exact FK8.out _ (by with_reducible repeat' (first | exact Ex.refl _ | exact hE0 | refine Ex.alloc ?_ _ | refine Ex.drew ?_))
    clear hK K hHeld
    try simp only [Act.put, List.setIfInBounds_toArray, List.set_cons_zero, List.set_cons_succ]
    refine wpAnyH_ready (rs := [10]) (by kernel_rfl) (by simp) ?_
    refine AllReadyH.cons (o := ?r1_o4) ?r1_ho4 (fun K hK => ?r1_b4) AllReadyH.nil
    case r1_ho4 => (conv => lhs; whnf; arg 1; whnf)
    case' r1_b4 => skip
    refine step_call_gu rfl CET.out _ _ rfl #[.agg #[.slice A3 x.mach.table.buckets.length c3, .slice (some ⟨b2, 0, none⟩) x.mach.table.frames.length d3, .slice L3 x.mach.cache.lines.length e3, .int .i64 x.mach.cache.hand, .int .i64 x.mach.tags.count, .int .i64 x.mach.tags.next, .int .i64 x.mach.tags.round, .slice O3 x.mach.tags.owns.length g3, .int .i64 x.mach.space], .agg #[.int .i64 f.key.space, .int .i64 f.key.page]] rfl (CTK.out _ (HFM.out.has.ex (by with_reducible repeat' (first | exact Ex.refl _ | exact hE0 | refine Ex.alloc ?_ _ | refine Ex.drew ?_)))) ?_; rintro r wf0 ⟨aq, rfl, hfm, hb0⟩; refine ⟨_, rfl, ?_⟩; have hE0 : Ex w8 wf0 := Ex.trans (by with_reducible repeat' (first | exact Ex.refl _ | exact hE0 | refine Ex.alloc ?_ _ | refine Ex.drew ?_)) hb0; have hz0 := hE0.size; have hy0 := hb0.size; have hB0 := Blk.ex (Blk.new w8 34 [.slice none 0 0, .slice none 0 0, .slice none 0 0, .int .i64 0, .int .i64 0, .int .i64 0, .int .i64 0, .slice none 0 0, .int .i64 0]).drew hb0
    refine hK.out _ _ ?r1_hS4 (fun hHeld4 => ?_)
    case r1_hS4 => exact FK8.out _ hE0
    clear hK K hHeld1
    try simp only [Act.put, List.setIfInBounds_toArray, List.set_cons_zero, List.set_cons_succ]
    refine tk 11 ?_; refine tk 12 ?_; refine tk 13 ?_
    refine wpAnyH_ready (rs := [15]) (by kernel_rfl) (by simp) ?_
    refine AllReadyH.cons (o := ?r1_o5) ?r1_ho5 (fun K hK => ?r1_b5) AllReadyH.nil
    case r1_ho5 => (conv => lhs; whnf; arg 1; whnf)
    case' r1_b5 => skip
    obtain ⟨hr0, hr1, hr2, hr3, hr4, hr5, hr6, hr7, hr8⟩ := hB0.c9; have hrf := hB0.frozen; have hrl := hB0.lt; go_simp
    refine hK.out _ _ ?r1_hS5 (fun hHeld5 => ?_)
    case r1_hS5 => exact FK8.out _ (ze hE0)
    clear hK K hHeld4
    try simp only [Act.put, List.setIfInBounds_toArray, List.set_cons_zero, List.set_cons_succ]
    refine tk 16 ?_
    refine wpAnyH_done (by kernel_rfl) ?_ _
    clear hHeld5
    have HQ1 : Hid (FrM wf0 w.heap.size tm aq) := zq (FrM.mono hfm (by first | omega | (simp; omega)))
    have HQ2 : Hid (Fr 4 wf0 w.heap.size (some ⟨gK, 0, none⟩) k3 (ks.set i false)) := zq (HFK.out.ex hE0)
    have HQ3 : Hid (Blk wf0 gO 37 [.slice A3 x.mach.table.buckets.length c3, .slice (some ⟨b2, 0, none⟩) x.mach.table.frames.length d3, .slice L3 x.mach.cache.lines.length e3, .int .i64 x.mach.cache.hand, .int .i64 x.mach.tags.count, .int .i64 x.mach.tags.next, .int .i64 x.mach.tags.round, .slice O3 x.mach.tags.owns.length g3, .int .i64 x.mach.space, .slice (some ⟨gK, 0, none⟩) ks.length k3, .int .i64 hd]) := zq (HKO.out.ex hE0)
    have HQ4 : Hid (Blk wf0 (w.heap.size + 1) 37 [.slice none 0 0, .slice none 0 0, .slice none 0 0, .int .i64 0, .int .i64 0, .int .i64 0, .int .i64 0, .slice none 0 0, .int .i64 0, .slice none 0 0, .int .i64 0]) := zq (HKR.out.ex hE0)
    have HQ5 : Hid (Ex w wf0) := zq (HEX.out.trans hE0)
    have HQ6 := zq hB0
    have HRa := zq (HQ1.out.b.off HQ6.out (by decide))
    have HRb := zq (HQ1.out.f.off HQ6.out (by decide))
    have HRc := zq (HQ1.out.l.off HQ6.out (by decide))
    have HRd := zq (HQ1.out.o.off HQ6.out (by decide))
    have HRe := zq (HQ2.out.off HQ6.out (by decide))
    clear hfm
    go_wp2_with fail
    go_meet
    exact ⟨w8.heap.size, aq, rfl, rfl, Blk.put9 HQ6.out, (zf HQ3.out), ⟨(zr HQ1.out.b HRa.out), (zr HQ1.out.f HRb.out), (zr HQ1.out.l HRc.out), (zr HQ1.out.o HRd.out)⟩, (zr HQ2.out HRe.out), (ze HQ5.out), (zf HQ4.out), by omega⟩
  case rest =>
   obtain ⟨gM, aq, rfl, rfl, hkm, hko, hfm, hkf, hex, hkr, hgm⟩ := hcut
   have KM := zq hkm; have KO := zq hko; have KR := zq hkr
   have FM := zq hfm; have FK := zq hkf; have EX := zq hex
   clear hkm hko hfm hkf hex hkr HKO HFM HFK HEX HKR FK8 CTK HBF8 HF
   obtain ⟨m0, m1, m2, m3, m4, m5, m6, m7, m8⟩ := KM.out.c9
   have ml := KM.out.lt
   obtain ⟨o0, o1, o2, o3, o4, o5, o6, o7, o8, o9, o10⟩ := KO.out.c11
   have oz := KO.out.frozen; have ol := KO.out.lt
   have hgM1 : ¬ gM = gO := by omega
   have hgM2 : ¬ gO = gM := by omega
   have HOa := zq (FM.out.b.off KO.out (by decide))
   have HOb := zq (FM.out.f.off KO.out (by decide))
   have HOc := zq (FM.out.l.off KO.out (by decide))
   have HOd := zq (FM.out.o.off KO.out (by decide))
   have HOe := zq (FK.out.off KO.out (by decide))
   go_wp2_with fail
   refine name_code ?_
   intro w9 hw9
   have HW9 := zq hw9
   obtain ⟨q, hq⟩ : ∃ q : MemD, q = ⟨tm, ks.set i false, (hd : Int)⟩ := ⟨_, rfl⟩
   obtain ⟨Kq, hKq⟩ : ∃ Kq : Option Addr, Kq = some ⟨gK, 0, none⟩ := ⟨_, rfl⟩
   obtain ⟨kq, hkq⟩ : ∃ kq : Nat, kq = k3 := ⟨_, rfl⟩
   have hqt : tm = q.mach := by rw [hq]
   have HKO : Hid (Blk w9 gO 37 [.slice aq.b q.mach.table.buckets.length aq.bc, .slice aq.f q.mach.table.frames.length aq.fc, .slice aq.l q.mach.cache.lines.length aq.lc, .int .i64 q.mach.cache.hand, .int .i64 q.mach.tags.count, .int .i64 q.mach.tags.next, .int .i64 q.mach.tags.round, .slice aq.o q.mach.tags.owns.length aq.oc, .int .i64 q.mach.space, .slice Kq q.marks.length kq, .int .i64 q.hand]) := zq (by rw [HW9.out, hq, hKq, hkq]; simp only [List.length_set]; exact Blk.put9b KO.out)
   have HFM : Hid (FrM w9 w.heap.size q.mach aq) := zq (by rw [HW9.out, hq]; exact ⟨(zr FM.out.b HOa.out), (zr FM.out.f HOb.out), (zr FM.out.l HOc.out), (zr FM.out.o HOd.out)⟩)
   have HFK : Hid (Fr 4 w9 w.heap.size Kq kq q.marks) := zq (by rw [HW9.out, hq, hKq, hkq]; exact (zr FK.out HOe.out))
   have HEX : Hid (Ex w w9) := zq (by rw [HW9.out]; exact (ze EX.out))
   have HKR : Hid (Blk w9 (w.heap.size + 1) 37 [.slice none 0 0, .slice none 0 0, .slice none 0 0, .int .i64 0, .int .i64 0, .int .i64 0, .int .i64 0, .slice none 0 0, .int .i64 0, .slice none 0 0, .int .i64 0]) := zq (by rw [HW9.out]; exact (zf KR.out))
   have HFIN : Hid (MemOk ⟨qm, q.marks, q.hand⟩ ∧ 0 ≤ findF qm.table (keyFor qm.space page)) := zq (by rw [hq]; exact HFIN.out)
   have hsq : x.mach.space = q.mach.space := by rw [hq]; exact HSP.out.symm
   rw [hsq] at CKF
   rw [hqt] at CPP
   have CPP := zq (fun w' (h1 : HasM w' q.mach aq) => CPP.out aq w' h1 HFM.out.cap HFM.out.capx)
   clear KM KO KR FM FK EX m0 m1 m2 m3 m4 m5 m6 m7 m8 ml o0 o1 o2 o3 o4 o5 o6 o7 o8 o9 o10 oz ol hw9 HW9 hq hKq hkq hqt hsq HOe HOa HOb HOc HOd
   have FKO : Hid (∀ w', Ex w9 w' → (w'.cell? ⟨gO, 0, none⟩ = some (.slice aq.b q.mach.table.buckets.length aq.bc) ∧ w'.cell? ⟨gO, 1, none⟩ = some (.slice aq.f q.mach.table.frames.length aq.fc) ∧ w'.cell? ⟨gO, 2, none⟩ = some (.slice aq.l q.mach.cache.lines.length aq.lc) ∧ w'.cell? ⟨gO, 3, none⟩ = some (.int .i64 q.mach.cache.hand) ∧ w'.cell? ⟨gO, 4, none⟩ = some (.int .i64 q.mach.tags.count) ∧ w'.cell? ⟨gO, 5, none⟩ = some (.int .i64 q.mach.tags.next) ∧ w'.cell? ⟨gO, 6, none⟩ = some (.int .i64 q.mach.tags.round) ∧ w'.cell? ⟨gO, 7, none⟩ = some (.slice aq.o q.mach.tags.owns.length aq.oc) ∧ w'.cell? ⟨gO, 8, none⟩ = some (.int .i64 q.mach.space) ∧ w'.cell? ⟨gO, 9, none⟩ = some (.slice Kq q.marks.length kq) ∧ w'.cell? ⟨gO, 10, none⟩ = some (.int .i64 q.hand))) := zq (fun w' h => (HKO.out.ex h).c11)
   have hjO : gO < w9.heap.size := HKO.out.lt
   have hjw : w.heap.size ≤ w9.heap.size := HEX.out.size
   go_cut [12, 13] (fun s12 s13 wx => BrCut w gO q aq Kq kq qm s12 s13 wx)
   case first =>
    refine wp_region_held_drew (S := (fun w' => (w'.cell? ⟨gO, 0, none⟩ = some (.slice aq.b q.mach.table.buckets.length aq.bc) ∧ w'.cell? ⟨gO, 1, none⟩ = some (.slice aq.f q.mach.table.frames.length aq.fc) ∧ w'.cell? ⟨gO, 2, none⟩ = some (.slice aq.l q.mach.cache.lines.length aq.lc) ∧ w'.cell? ⟨gO, 3, none⟩ = some (.int .i64 q.mach.cache.hand) ∧ w'.cell? ⟨gO, 4, none⟩ = some (.int .i64 q.mach.tags.count) ∧ w'.cell? ⟨gO, 5, none⟩ = some (.int .i64 q.mach.tags.next) ∧ w'.cell? ⟨gO, 6, none⟩ = some (.int .i64 q.mach.tags.round) ∧ w'.cell? ⟨gO, 7, none⟩ = some (.slice aq.o q.mach.tags.owns.length aq.oc) ∧ w'.cell? ⟨gO, 8, none⟩ = some (.int .i64 q.mach.space) ∧ w'.cell? ⟨gO, 9, none⟩ = some (.slice Kq q.marks.length kq) ∧ w'.cell? ⟨gO, 10, none⟩ = some (.int .i64 q.hand)))) (by kernel_rfl) ?r2_hS0 (fun hHeld => ?_)
    case r2_hS0 => exact FKO.out _ (Ex.refl _).drew
    refine tk 0 ?_; refine tk 1 ?_; refine tk 2 ?_; refine tk 3 ?_; refine tk 4 ?_; refine tk 5 ?_; refine tk 7 ?_; refine tk 8 ?_
    refine wpAnyH_ready (rs := [6, 13]) (by kernel_rfl) (by simp) ?_
    refine AllReadyH.cons (o := ?r2_o0) ?r2_ho0 (fun K hK => ?r2_b0) (AllReadyH.cons (o := ?r2_o1) ?r2_ho1 (fun K hK => ?r2_b1) AllReadyH.nil)
    case r2_ho0 => (conv => lhs; whnf; arg 1; whnf)
    case r2_ho1 => (conv => lhs; whnf; arg 1; whnf)
    case r2_b0 =>
     refine step_call_gu rfl CE0.out _ _ rfl #[.int .i64 q.mach.space, .int .i64 page] rfl (CKF.out _) ?_; rintro r wf0 ⟨rfl, hb0⟩; refine ⟨_, rfl, ?_⟩; have hE0 : Ex w9 wf0 := Ex.trans (by with_reducible repeat' (first | exact Ex.refl _ | exact hE1 | exact hE0 | refine Ex.alloc ?_ _ | refine Ex.drew ?_)) hb0; have hz0 := hE0.size; have hy0 := hb0.size
     refine hK.out _ _ ?r2_hS0 (fun hHeld0 => ?_)
     case r2_hS0 => exact FKO.out _ hE0
     clear hK K hHeld
     try simp only [Act.put, List.setIfInBounds_toArray, List.set_cons_zero, List.set_cons_succ]
     refine wpAnyH_ready (rs := [9, 13]) (by kernel_rfl) (by simp) ?_
     refine AllReadyH.cons (o := ?r2_o2) ?r2_ho2 (fun K hK => ?r2_b2) (AllReadyH.cons (o := ?r2_o3) ?r2_ho3 (fun K hK => ?r2_b3) AllReadyH.nil)
     case r2_ho2 => (conv => lhs; whnf; arg 1; whnf)
     case r2_ho3 => (conv => lhs; whnf; arg 1; whnf)
     case r2_b2 =>
      refine step_call_gu rfl CE1.out _ _ rfl #[.agg #[.slice aq.b q.mach.table.buckets.length aq.bc, .slice aq.f q.mach.table.frames.length aq.fc, .slice aq.l q.mach.cache.lines.length aq.lc, .int .i64 q.mach.cache.hand, .int .i64 q.mach.tags.count, .int .i64 q.mach.tags.next, .int .i64 q.mach.tags.round, .slice aq.o q.mach.tags.owns.length aq.oc, .int .i64 q.mach.space], .agg #[.int .i64 ky.space, .int .i64 ky.page], .int .i64 i, .int .i64 rights] rfl (CPP.out _ (HFM.out.has.ex (by with_reducible repeat' (first | exact Ex.refl _ | exact hE1 | exact hE0 | refine Ex.alloc ?_ _ | refine Ex.drew ?_)))) ?_; rintro r wf1 ⟨am, rfl, hfm, hb1⟩; refine ⟨_, rfl, ?_⟩; have hE1 : Ex w9 wf1 := Ex.trans (by with_reducible repeat' (first | exact Ex.refl _ | exact hE1 | exact hE0 | refine Ex.alloc ?_ _ | refine Ex.drew ?_)) hb1; have hz1 := hE1.size; have hy1 := hb1.size
      refine hK.out _ _ ?r2_hS2 (fun hHeld2 => ?_)
      case r2_hS2 => exact FKO.out _ hE1
      clear hK K hHeld0
      try simp only [Act.put, List.setIfInBounds_toArray, List.set_cons_zero, List.set_cons_succ]
      refine tk 10 ?_; refine tk 11 ?_; refine tk 12 ?_
      refine wpAnyH_ready (rs := [13]) (by kernel_rfl) (by simp) ?_
      refine AllReadyH.cons (o := ?r2_o4) ?r2_ho4 (fun K hK => ?r2_b4) AllReadyH.nil
      case r2_ho4 => (conv => lhs; whnf; arg 1; whnf)
      case' r2_b4 => skip
      go_simp
      refine hK.out _ _ ?r2_hS4 (fun hHeld4 => ?_)
      case r2_hS4 => exact FKO.out _ (by with_reducible repeat' (first | exact Ex.refl _ | exact hE1 | exact hE0 | refine Ex.alloc ?_ _ | refine Ex.drew ?_))
      clear hK K hHeld2
      try simp only [Act.put, List.setIfInBounds_toArray, List.set_cons_zero, List.set_cons_succ]
      refine wpAnyH_ready (rs := [14]) (by kernel_rfl) (by simp) ?_
      refine AllReadyH.cons (o := ?r2_o5) ?r2_ho5 (fun K hK => ?r2_b5) AllReadyH.nil
      case r2_ho5 => (conv => lhs; whnf; arg 1; whnf)
      case' r2_b5 => skip
      go_simp
      refine hK.out _ _ ?r2_hS5 (fun hHeld5 => ?_)
      case r2_hS5 => exact FKO.out _ (by with_reducible repeat' (first | exact hE1 | exact hE0 | refine Ex.alloc ?_ _ | refine Ex.put ?_ (by omega) _))
      clear hK K hHeld4
      try simp only [Act.put, List.setIfInBounds_toArray, List.set_cons_zero, List.set_cons_succ]
      refine tk 15 ?_
      refine wpAnyH_done (by kernel_rfl) ?_ _
      clear hHeld5
      have HQ1 : Hid (FrM wf1 w.heap.size qm am) := zq (FrM.mono hfm (by first | omega | (simp; omega)))
      have HQ2 : Hid (Fr 4 wf1 w.heap.size Kq kq q.marks) := zq (HFK.out.ex hE1)
      have HQ3 : Hid (Blk wf1 gO 37 [.slice aq.b q.mach.table.buckets.length aq.bc, .slice aq.f q.mach.table.frames.length aq.fc, .slice aq.l q.mach.cache.lines.length aq.lc, .int .i64 q.mach.cache.hand, .int .i64 q.mach.tags.count, .int .i64 q.mach.tags.next, .int .i64 q.mach.tags.round, .slice aq.o q.mach.tags.owns.length aq.oc, .int .i64 q.mach.space, .slice Kq q.marks.length kq, .int .i64 q.hand]) := zq (HKO.out.ex hE1)
      have HQ4 : Hid (Blk wf1 (w.heap.size + 1) 37 [.slice none 0 0, .slice none 0 0, .slice none 0 0, .int .i64 0, .int .i64 0, .int .i64 0, .int .i64 0, .slice none 0 0, .int .i64 0, .slice none 0 0, .int .i64 0]) := zq (HKR.out.ex hE1)
      have HQ5 : Hid (Ex w wf1) := zq (HEX.out.trans hE1)
      clear hfm
      go_wp2_with fail
      go_meet
      exact ⟨wf1.heap.size, am, rfl, rfl, Blk.new _ _ _, (zf HQ3.out), ⟨HQ1.out.b.alloc _, HQ1.out.f.alloc _, HQ1.out.l.alloc _, HQ1.out.o.alloc _⟩, HQ2.out.alloc _, (ze HQ5.out), (zf HQ4.out), by omega⟩
     case r2_b3 =>
      go_simp
      refine hK.out _ _ ?r2_hS3 (fun hHeld3 => ?_)
      case r2_hS3 => exact FKO.out _ (by with_reducible repeat' (first | exact Ex.refl _ | exact hE1 | exact hE0 | refine Ex.alloc ?_ _ | refine Ex.drew ?_))
      clear hK K hHeld0
      try simp only [Act.put, List.setIfInBounds_toArray, List.set_cons_zero, List.set_cons_succ]
      refine wpAnyH_ready (rs := [9]) (by kernel_rfl) (by simp) ?_
      refine AllReadyH.cons (o := ?r2_o6) ?r2_ho6 (fun K hK => ?r2_b6) AllReadyH.nil
      case r2_ho6 => (conv => lhs; whnf; arg 1; whnf)
      case' r2_b6 => skip
      refine step_call_gu rfl CE1.out _ _ rfl #[.agg #[.slice aq.b q.mach.table.buckets.length aq.bc, .slice aq.f q.mach.table.frames.length aq.fc, .slice aq.l q.mach.cache.lines.length aq.lc, .int .i64 q.mach.cache.hand, .int .i64 q.mach.tags.count, .int .i64 q.mach.tags.next, .int .i64 q.mach.tags.round, .slice aq.o q.mach.tags.owns.length aq.oc, .int .i64 q.mach.space], .agg #[.int .i64 ky.space, .int .i64 ky.page], .int .i64 i, .int .i64 rights] rfl (CPP.out _ (HFM.out.has.ex (by with_reducible repeat' (first | exact Ex.refl _ | exact hE1 | exact hE0 | refine Ex.alloc ?_ _ | refine Ex.drew ?_)))) ?_; rintro r wf1 ⟨am, rfl, hfm, hb1⟩; refine ⟨_, rfl, ?_⟩; have hE1 : Ex w9 wf1 := Ex.trans (by with_reducible repeat' (first | exact Ex.refl _ | exact hE1 | exact hE0 | refine Ex.alloc ?_ _ | refine Ex.drew ?_)) hb1; have hz1 := hE1.size; have hy1 := hb1.size; have hB1 := Blk.ex (Blk.new wf0 34 [.slice none 0 0, .slice none 0 0, .slice none 0 0, .int .i64 0, .int .i64 0, .int .i64 0, .int .i64 0, .slice none 0 0, .int .i64 0]) hb1
      refine hK.out _ _ ?r2_hS6 (fun hHeld6 => ?_)
      case r2_hS6 => exact FKO.out _ hE1
      clear hK K hHeld3
      try simp only [Act.put, List.setIfInBounds_toArray, List.set_cons_zero, List.set_cons_succ]
      refine tk 10 ?_; refine tk 11 ?_; refine tk 12 ?_
      refine wpAnyH_ready (rs := [14]) (by kernel_rfl) (by simp) ?_
      refine AllReadyH.cons (o := ?r2_o7) ?r2_ho7 (fun K hK => ?r2_b7) AllReadyH.nil
      case r2_ho7 => (conv => lhs; whnf; arg 1; whnf)
      case' r2_b7 => skip
      obtain ⟨hr0, hr1, hr2, hr3, hr4, hr5, hr6, hr7, hr8⟩ := hB1.c9; have hrf := hB1.frozen; have hrl := hB1.lt; go_simp
      refine hK.out _ _ ?r2_hS7 (fun hHeld7 => ?_)
      case r2_hS7 => exact FKO.out _ (by with_reducible repeat' (first | exact hE1 | exact hE0 | refine Ex.alloc ?_ _ | refine Ex.put ?_ (by omega) _))
      clear hK K hHeld6
      try simp only [Act.put, List.setIfInBounds_toArray, List.set_cons_zero, List.set_cons_succ]
      refine tk 15 ?_
      refine wpAnyH_done (by kernel_rfl) ?_ _
      clear hHeld7
      have HQ1 : Hid (FrM wf1 w.heap.size qm am) := zq (FrM.mono hfm (by first | omega | (simp; omega)))
      have HQ2 : Hid (Fr 4 wf1 w.heap.size Kq kq q.marks) := zq (HFK.out.ex hE1)
      have HQ3 : Hid (Blk wf1 gO 37 [.slice aq.b q.mach.table.buckets.length aq.bc, .slice aq.f q.mach.table.frames.length aq.fc, .slice aq.l q.mach.cache.lines.length aq.lc, .int .i64 q.mach.cache.hand, .int .i64 q.mach.tags.count, .int .i64 q.mach.tags.next, .int .i64 q.mach.tags.round, .slice aq.o q.mach.tags.owns.length aq.oc, .int .i64 q.mach.space, .slice Kq q.marks.length kq, .int .i64 q.hand]) := zq (HKO.out.ex hE1)
      have HQ4 : Hid (Blk wf1 (w.heap.size + 1) 37 [.slice none 0 0, .slice none 0 0, .slice none 0 0, .int .i64 0, .int .i64 0, .int .i64 0, .int .i64 0, .slice none 0 0, .int .i64 0, .slice none 0 0, .int .i64 0]) := zq (HKR.out.ex hE1)
      have HQ5 : Hid (Ex w wf1) := zq (HEX.out.trans hE1)
      have HQ6 := zq hB1
      have HRa := zq (HQ1.out.b.off HQ6.out (by decide))
      have HRb := zq (HQ1.out.f.off HQ6.out (by decide))
      have HRc := zq (HQ1.out.l.off HQ6.out (by decide))
      have HRd := zq (HQ1.out.o.off HQ6.out (by decide))
      have HRe := zq (HQ2.out.off HQ6.out (by decide))
      clear hfm
      go_wp2_with fail
      go_meet
      exact ⟨wf0.heap.size, am, rfl, rfl, Blk.put9 HQ6.out, (zf HQ3.out), ⟨(zr HQ1.out.b HRa.out), (zr HQ1.out.f HRb.out), (zr HQ1.out.l HRc.out), (zr HQ1.out.o HRd.out)⟩, (zr HQ2.out HRe.out), (ze HQ5.out), (zf HQ4.out), by omega⟩
    case r2_b1 =>
     go_simp
     refine hK.out _ _ ?r2_hS1 (fun hHeld1 => ?_)
     case r2_hS1 => exact FKO.out _ (by with_reducible repeat' (first | exact Ex.refl _ | exact hE1 | exact hE0 | refine Ex.alloc ?_ _ | refine Ex.drew ?_))
     clear hK K hHeld
     try simp only [Act.put, List.setIfInBounds_toArray, List.set_cons_zero, List.set_cons_succ]
     refine wpAnyH_ready (rs := [6]) (by kernel_rfl) (by simp) ?_
     refine AllReadyH.cons (o := ?r2_o8) ?r2_ho8 (fun K hK => ?r2_b8) AllReadyH.nil
     case r2_ho8 => (conv => lhs; whnf; arg 1; whnf)
     case' r2_b8 => skip
     refine step_call_gu rfl CE0.out _ _ rfl #[.int .i64 q.mach.space, .int .i64 page] rfl (CKF.out _) ?_; rintro r wf0 ⟨rfl, hb0⟩; refine ⟨_, rfl, ?_⟩; have hE0 : Ex w9 wf0 := Ex.trans (by with_reducible repeat' (first | exact Ex.refl _ | exact hE1 | exact hE0 | refine Ex.alloc ?_ _ | refine Ex.drew ?_)) hb0; have hz0 := hE0.size; have hy0 := hb0.size; have hB0 := Blk.ex (Blk.new w9 34 [.slice none 0 0, .slice none 0 0, .slice none 0 0, .int .i64 0, .int .i64 0, .int .i64 0, .int .i64 0, .slice none 0 0, .int .i64 0]).drew hb0
     refine hK.out _ _ ?r2_hS8 (fun hHeld8 => ?_)
     case r2_hS8 => exact FKO.out _ hE0
     clear hK K hHeld1
     try simp only [Act.put, List.setIfInBounds_toArray, List.set_cons_zero, List.set_cons_succ]
     refine wpAnyH_ready (rs := [9]) (by kernel_rfl) (by simp) ?_
     refine AllReadyH.cons (o := ?r2_o9) ?r2_ho9 (fun K hK => ?r2_b9) AllReadyH.nil
     case r2_ho9 => (conv => lhs; whnf; arg 1; whnf)
     case' r2_b9 => skip
     refine step_call_gu rfl CE1.out _ _ rfl #[.agg #[.slice aq.b q.mach.table.buckets.length aq.bc, .slice aq.f q.mach.table.frames.length aq.fc, .slice aq.l q.mach.cache.lines.length aq.lc, .int .i64 q.mach.cache.hand, .int .i64 q.mach.tags.count, .int .i64 q.mach.tags.next, .int .i64 q.mach.tags.round, .slice aq.o q.mach.tags.owns.length aq.oc, .int .i64 q.mach.space], .agg #[.int .i64 ky.space, .int .i64 ky.page], .int .i64 i, .int .i64 rights] rfl (CPP.out _ (HFM.out.has.ex (by with_reducible repeat' (first | exact Ex.refl _ | exact hE1 | exact hE0 | refine Ex.alloc ?_ _ | refine Ex.drew ?_)))) ?_; rintro r wf1 ⟨am, rfl, hfm, hb1⟩; refine ⟨_, rfl, ?_⟩; have hE1 : Ex w9 wf1 := Ex.trans (by with_reducible repeat' (first | exact Ex.refl _ | exact hE1 | exact hE0 | refine Ex.alloc ?_ _ | refine Ex.drew ?_)) hb1; have hz1 := hE1.size; have hy1 := hb1.size; have hB1 := Blk.ex hB0 hb1
     refine hK.out _ _ ?r2_hS9 (fun hHeld9 => ?_)
     case r2_hS9 => exact FKO.out _ hE1
     clear hK K hHeld8
     try simp only [Act.put, List.setIfInBounds_toArray, List.set_cons_zero, List.set_cons_succ]
     refine tk 10 ?_; refine tk 11 ?_; refine tk 12 ?_
     refine wpAnyH_ready (rs := [14]) (by kernel_rfl) (by simp) ?_
     refine AllReadyH.cons (o := ?r2_o10) ?r2_ho10 (fun K hK => ?r2_b10) AllReadyH.nil
     case r2_ho10 => (conv => lhs; whnf; arg 1; whnf)
     case' r2_b10 => skip
     obtain ⟨hr0, hr1, hr2, hr3, hr4, hr5, hr6, hr7, hr8⟩ := hB1.c9; have hrf := hB1.frozen; have hrl := hB1.lt; go_simp
     refine hK.out _ _ ?r2_hS10 (fun hHeld10 => ?_)
     case r2_hS10 => exact FKO.out _ (by with_reducible repeat' (first | exact hE1 | exact hE0 | refine Ex.alloc ?_ _ | refine Ex.put ?_ (by omega) _))
     clear hK K hHeld9
     try simp only [Act.put, List.setIfInBounds_toArray, List.set_cons_zero, List.set_cons_succ]
     refine tk 15 ?_
     refine wpAnyH_done (by kernel_rfl) ?_ _
     clear hHeld10
     have HQ1 : Hid (FrM wf1 w.heap.size qm am) := zq (FrM.mono hfm (by first | omega | (simp; omega)))
     have HQ2 : Hid (Fr 4 wf1 w.heap.size Kq kq q.marks) := zq (HFK.out.ex hE1)
     have HQ3 : Hid (Blk wf1 gO 37 [.slice aq.b q.mach.table.buckets.length aq.bc, .slice aq.f q.mach.table.frames.length aq.fc, .slice aq.l q.mach.cache.lines.length aq.lc, .int .i64 q.mach.cache.hand, .int .i64 q.mach.tags.count, .int .i64 q.mach.tags.next, .int .i64 q.mach.tags.round, .slice aq.o q.mach.tags.owns.length aq.oc, .int .i64 q.mach.space, .slice Kq q.marks.length kq, .int .i64 q.hand]) := zq (HKO.out.ex hE1)
     have HQ4 : Hid (Blk wf1 (w.heap.size + 1) 37 [.slice none 0 0, .slice none 0 0, .slice none 0 0, .int .i64 0, .int .i64 0, .int .i64 0, .int .i64 0, .slice none 0 0, .int .i64 0, .slice none 0 0, .int .i64 0]) := zq (HKR.out.ex hE1)
     have HQ5 : Hid (Ex w wf1) := zq (HEX.out.trans hE1)
     have HQ6 := zq hB1
     have HRa := zq (HQ1.out.b.off HQ6.out (by decide))
     have HRb := zq (HQ1.out.f.off HQ6.out (by decide))
     have HRc := zq (HQ1.out.l.off HQ6.out (by decide))
     have HRd := zq (HQ1.out.o.off HQ6.out (by decide))
     have HRe := zq (HQ2.out.off HQ6.out (by decide))
     clear hfm
     go_wp2_with fail
     go_meet
     exact ⟨w9.heap.size, am, rfl, rfl, Blk.put9 HQ6.out, (zf HQ3.out), ⟨(zr HQ1.out.b HRa.out), (zr HQ1.out.f HRb.out), (zr HQ1.out.l HRc.out), (zr HQ1.out.o HRd.out)⟩, (zr HQ2.out HRe.out), (ze HQ5.out), (zf HQ4.out), by omega⟩
   case rest =>
    obtain ⟨gM, am, rfl, rfl, hkm, hko, hfm, hkf, hex, hkr, hgm⟩ := hcut
    have KM := zq hkm; have KO := zq hko; have KR := zq hkr
    have FM := zq hfm; have FK := zq hkf; have EX := zq hex
    clear hkm hko hfm hkf hex hkr HKO HFM HFK HEX HKR FKO CPP CKF
    obtain ⟨m0, m1, m2, m3, m4, m5, m6, m7, m8⟩ := KM.out.c9
    have ml := KM.out.lt
    obtain ⟨o0, o1, o2, o3, o4, o5, o6, o7, o8, o9, o10⟩ := KO.out.c11
    have oz := KO.out.frozen; have ol := KO.out.lt
    obtain ⟨r0, r1, r2, r3, r4, r5, r6, r7, r8, r9, r10⟩ := KR.out.c11
    have rz := KR.out.frozen; have rl := KR.out.lt
    have hgR : ¬ gO = w.heap.size + 1 := by omega
    have hgR2 : ¬ w.heap.size + 1 = gO := by omega
    have hgM1 : ¬ gM = gO := by omega
    have hgM2 : ¬ gO = gM := by omega
    have HOa := zq (FM.out.b.off KO.out (by decide)); have HRa := zq (FM.out.b.off KR.out (by decide))
    have HOb := zq (FM.out.f.off KO.out (by decide)); have HRb := zq (FM.out.f.off KR.out (by decide))
    have HOc := zq (FM.out.l.off KO.out (by decide)); have HRc := zq (FM.out.l.off KR.out (by decide))
    have HOd := zq (FM.out.o.off KO.out (by decide)); have HRd := zq (FM.out.o.off KR.out (by decide))
    have HOe := zq (FK.out.off KO.out (by decide)); have HRe := zq (FK.out.off KR.out (by decide))
    go_wp2
    exact bodyPost_ret (v := .tuple #[.agg #[.slice am.b qm.table.buckets.length am.bc, .slice am.f qm.table.frames.length am.fc, .slice am.l qm.cache.lines.length am.lc, .int .i64 qm.cache.hand, .int .i64 qm.tags.count, .int .i64 qm.tags.next, .int .i64 qm.tags.round, .slice am.o qm.tags.owns.length am.oc, .int .i64 qm.space, .slice Kq q.marks.length kq, .int .i64 q.hand], .bool true]) (by simp [results, Tryz.results97, go_sem, *]) rfl
     ⟨⟨qm, q.marks, q.hand⟩, true, am, Kq, kq, rfl, fun _ => HFIN.out, ⟨⟨(zt FM.out.b HOa.out HRa.out), (zt FM.out.f HOb.out HRb.out), (zt FM.out.l HOc.out HRc.out), (zt FM.out.o HOd.out HRd.out)⟩, (zt FK.out HOe.out HRe.out)⟩, (ze EX.out)⟩
end Go.Proofs.YtbdlpbladpppjaaGreatDoor
