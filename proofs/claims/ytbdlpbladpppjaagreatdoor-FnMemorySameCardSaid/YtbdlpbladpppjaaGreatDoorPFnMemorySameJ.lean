/- Whatever the code, the law FnMemorySame returns true, and its argument and the listed variable read as before; the variable starts as the program lays it (tied). -/
import Derived.LaidMore
import Derived.Stop.Joined
import Derived.OpenVars
import Derived.Test.YtbdlpbladpppjaaGreatDoorCards
import Derived.Test.YtbdlpbladpppjaaGreatDoorTie
import Derived.SevenTiedAt
import Derived.Test.YtbdlpbladpppjaaGreatDoorK21
import Derived.Test.YtbdlpbladpppjaaGreatDoorK16
import Derived.Test.YtbdlpbladpppjaaGreatDoorK3
import Derived.Test.YtbdlpbladpppjaaGreatDoorK2
import Derived.Test.YtbdlpbladpppjaaGreatDoorK1
import Derived.Test.YtbdlpbladpppjaaGreatDoorK10
namespace Go.Proofs.YtbdlpbladpppjaaGreatDoor
open Go.ChangeShapes Go.WideShapes Go.ChangeAt Go.RowKit
open Rec (sz cs)
set_option linter.unusedVariables false
set_option maxRecDepth 100000

set_option maxHeartbeats 16000000 in
theorem walk_FnMemorySame (A : Option Addr) (n c : Nat) (bs : List ByteD) (w : World) (hr : Rd w A bs) (hc : Bytes bs ∧ bs.length = n ∧ n ≤ c ∧ c ≤ maxLen) (hv : FreeV w) :
  Calls Tryz.prog 4 #[.slice A n c] w fun r w' => r = .returned (.bool true) ∧ Ex w w' := by
 have HV := zq hv
 clear hv
 obtain ⟨hb, rfl, hnc, hcm⟩ := hc
 by_cases hbig : 1048576 < bs.length
 ·have hbig' : (1048576 : Int) < (bs.length : Int) := by omega
  unfold maxLen at hcm
  generalize bs.length = n at *
  go_enter Tryz.func4, Tryz.ntmps4
  go_wp2
  go_ret
  exact ⟨rfl, Ex.refl _⟩
 have hsm : ¬ (1048576 : Int) < (bs.length : Int) := by omega
 have C0 := zq (fun w' (h : Ex w w') => drawMemorySame_c A c bs w' (hr.ex h) hb (by omega) hnc hcm)
 have hcm' := hcm
 unfold maxLen at hcm'
 generalize bs.length = n at *
 clear hr hb hcm
 go_enter Tryz.func4, Tryz.ntmps4
 go_wp2_with fail
 refine name_calls ?_; intro v0 hv0
 have X0 : Hid (Chg (0) (0) w v0) := zx hv0
 have t0 := X0.out.size
 have Ev0 := zq ((Ex.refl w).chg X0.out (by omega))
 clear hv0
 refine (C0.out _ Ev0.out).mono ?_; rintro r w0 ⟨t, u, a, Ka, ka, b, Kb, kb, rfl, hl0, hu0, hhea, hheb, hb0⟩
 have Y0 := zq (Chg.of_ex hb0)
 have s0 := Y0.out.size
 have Ew0 := zq (Ev0.out.chg Y0.out (by omega))
 clear hb0
 have HHEA := zq hhea; clear hhea
 have HHEB := zq hheb; clear hheb
 have hft := hl0.fewE (by omega)
 have hfu := hu0.fewE (by omega)
 have RA0 : Hid (∀ w', Ex w0 w' → HasE w' t a Ka) := zq (fun w' h => HHEA.out.has.ex h)
 have RB0 : Hid (∀ w', Ex w0 w' → HasE w' u b Kb) := zq (fun w' h => HHEB.out.has.ex h)
 have HCA : Hid (CapE t a ka) := zq HHEA.out.cap
 have HCB : Hid (CapE u b kb) := zq HHEB.out.cap
 have CS0 := fun w' (h1 : HasE w' t a Ka) (h2 : HasE w' u b Kb) => memSameI_c t u a b Ka Kb ka kb w' h1 h2 hft hfu
 have CS1 := fun w' (h1 : HasE w' t a Ka) (h2 : HasE w' u b Kb) => memSameS_c t u a b Ka Kb ka kb w' h1 h2 hft hfu
 have CS2 := fun w' (h1 : HasE w' u b Kb) (h2 : HasE w' t a Ka) => memSameI_c u t b a Kb Ka kb ka w' h1 h2 hfu hft
 have CS3 := fun w' (h1 : HasE w' t a Ka) (h2 : HasE w' t a Ka) => memSameI_c t t a a Ka Ka ka ka w' h1 h2 hft hft
 have CV1 := zq (fun w' (h : HasE w' t a Ka) (hv : FreeV w') => memI_c t a Ka ka w' h hft HCA.out hv)
 have CV2 := zq (fun w' (h : HasE w' u b Kb) (hv : FreeV w') => memI_c u b Kb kb w' h hfu HCB.out hv)
 have hsy : eqB u t = eqB t u := by rw [Bool.eq_iff_iff, eqB_true, eqB_true]; exact eq_comm
 have HVV : Hid (eqB t u = true → memV u = memV t) := zq (fun h => by rw [eqB_true.1 h])
 rw [hsy] at CS2
 rw [eqB_self] at CS3
 clear hsy hl0 hu0 hft hfu C0 HHEA HHEB
 generalize eqB t u = same at CS0 CS1 CS2 HVV
 replace CS0 := zq CS0
 replace CS1 := zq CS1
 replace CS2 := zq CS2
 replace CS3 := zq CS3
 go_wp2_with fail
 refine name_calls ?_; intro v1 hv1
 have X1 : Hid (Chg (0) (0) w0 v1) := zx hv1
 have t1 := X1.out.size
 have Ev1 := zq (Ew0.out.chg X1.out (by omega))
 have KX : Hid (Blk v1 (w0.heap.size) 37 [.slice a.b t.mach.table.buckets.length a.bc, .slice a.f t.mach.table.frames.length a.fc, .slice a.l t.mach.cache.lines.length a.lc, .int .i64 t.mach.cache.hand, .int .i64 t.mach.tags.count, .int .i64 t.mach.tags.next, .int .i64 t.mach.tags.round, .slice a.o t.mach.tags.owns.length a.oc, .int .i64 t.mach.space, .slice Ka t.marks.length ka, .int .i64 t.hand]) := zq (by rw [hv1]; exact (Blk.new _ _ _).alloc _)
 have lX : w0.heap.size < v1.heap.size := KX.out.lt
 have KD : Hid (Blk v1 (w0.heap.size + 1) 37 [.slice b.b u.mach.table.buckets.length b.bc, .slice b.f u.mach.table.frames.length b.fc, .slice b.l u.mach.cache.lines.length b.lc, .int .i64 u.mach.cache.hand, .int .i64 u.mach.tags.count, .int .i64 u.mach.tags.next, .int .i64 u.mach.tags.round, .slice b.o u.mach.tags.owns.length b.oc, .int .i64 u.mach.space, .slice Kb u.marks.length kb, .int .i64 u.hand]) := zq (by rw [hv1]; exact Blk.new_at _ _ _ (by simp))
 have lD : w0.heap.size + 1 < v1.heap.size := KD.out.lt
 clear hv1
 refine (CS0.out _ (RA0.out _ X1.out.ex_) (RB0.out _ X1.out.ex_)).mono ?_; rintro r w1 ⟨rfl, hb1⟩
 have Y1 := zq (Chg.of_ex hb1)
 have s1 := Y1.out.size
 have Ew1 := zq (Ev1.out.chg Y1.out (by omega))
 clear hb1
 replace KX := zq (KX.out.chg Y1.out (by omega))
 replace KD := zq (KD.out.chg Y1.out (by omega))
 obtain ⟨qX0, qX1, qX2, qX3, qX4, qX5, qX6, qX7, qX8, qX9, qX10⟩ := KX.out.c11
 have jX := KX.out.lt
 obtain ⟨qD0, qD1, qD2, qD3, qD4, qD5, qD6, qD7, qD8, qD9, qD10⟩ := KD.out.c11
 have jD := KD.out.lt
 obtain ⟨gX, hgX⟩ : ∃ gX, gX = w0.heap.size := ⟨_, rfl⟩
 obtain ⟨gD, hgD⟩ : ∃ gD, gD = w0.heap.size + 1 := ⟨_, rfl⟩
 have EX1 : Hid (Ex w0 w1) := zq (X1.out.ex_.trans Y1.out.ex_)
 have RA : Hid (∀ w', Ex w1 w' → HasE w' t a Ka) := zq (fun w' h => RA0.out _ (EX1.out.trans h))
 have RB : Hid (∀ w', Ex w1 w' → HasE w' u b Kb) := zq (fun w' h => RB0.out _ (EX1.out.trans h))
 have HV1 : Hid (FreeV w1) := zq (HV.out.ex Ew1.out)
 rw [← hgX] at KX
 rw [← hgD] at KD
 try rw [← hgD]
 try rw [← hgX]
 have FK : Hid (∀ w', Ex w1 w' → (w'.cell? ⟨gX, 0, none⟩ = some (.slice a.b t.mach.table.buckets.length a.bc) ∧ w'.cell? ⟨gX, 1, none⟩ = some (.slice a.f t.mach.table.frames.length a.fc) ∧ w'.cell? ⟨gX, 2, none⟩ = some (.slice a.l t.mach.cache.lines.length a.lc) ∧ w'.cell? ⟨gX, 3, none⟩ = some (.int .i64 t.mach.cache.hand) ∧ w'.cell? ⟨gX, 4, none⟩ = some (.int .i64 t.mach.tags.count) ∧ w'.cell? ⟨gX, 5, none⟩ = some (.int .i64 t.mach.tags.next) ∧ w'.cell? ⟨gX, 6, none⟩ = some (.int .i64 t.mach.tags.round) ∧ w'.cell? ⟨gX, 7, none⟩ = some (.slice a.o t.mach.tags.owns.length a.oc) ∧ w'.cell? ⟨gX, 8, none⟩ = some (.int .i64 t.mach.space) ∧ w'.cell? ⟨gX, 9, none⟩ = some (.slice Ka t.marks.length ka) ∧ w'.cell? ⟨gX, 10, none⟩ = some (.int .i64 t.hand) ∧ w'.cell? ⟨gD, 0, none⟩ = some (.slice b.b u.mach.table.buckets.length b.bc) ∧ w'.cell? ⟨gD, 1, none⟩ = some (.slice b.f u.mach.table.frames.length b.fc) ∧ w'.cell? ⟨gD, 2, none⟩ = some (.slice b.l u.mach.cache.lines.length b.lc) ∧ w'.cell? ⟨gD, 3, none⟩ = some (.int .i64 u.mach.cache.hand) ∧ w'.cell? ⟨gD, 4, none⟩ = some (.int .i64 u.mach.tags.count) ∧ w'.cell? ⟨gD, 5, none⟩ = some (.int .i64 u.mach.tags.next) ∧ w'.cell? ⟨gD, 6, none⟩ = some (.int .i64 u.mach.tags.round) ∧ w'.cell? ⟨gD, 7, none⟩ = some (.slice b.o u.mach.tags.owns.length b.oc) ∧ w'.cell? ⟨gD, 8, none⟩ = some (.int .i64 u.mach.space) ∧ w'.cell? ⟨gD, 9, none⟩ = some (.slice Kb u.marks.length kb) ∧ w'.cell? ⟨gD, 10, none⟩ = some (.int .i64 u.hand))) := zq (fun w' h => by
  obtain ⟨p0, p1, p2, p3, p4, p5, p6, p7, p8, p9, p10⟩ := (KX.out.ex h).c11
  obtain ⟨q0, q1, q2, q3, q4, q5, q6, q7, q8, q9, q10⟩ := (KD.out.ex h).c11
  exact ⟨p0, p1, p2, p3, p4, p5, p6, p7, p8, p9, p10, q0, q1, q2, q3, q4, q5, q6, q7, q8, q9, q10⟩)
 have CE1 : Hid (∀ (args : Array Value) (w : World), (callFunc 11 args).run Tryz.prog w = .ok (.enter 11 args) w) := zq (enters Tryz.func11 (by kernel_rfl) (by kernel_rfl))
 have CE2 : Hid (∀ (args : Array Value) (w : World), (callFunc 10 args).run Tryz.prog w = .ok (.enter 10 args) w) := zq (enters Tryz.func10 (by kernel_rfl) (by kernel_rfl))
 have CE3 : Hid (∀ (args : Array Value) (w : World), (callFunc 8 args).run Tryz.prog w = .ok (.enter 8 args) w) := zq (enters Tryz.func8 (by kernel_rfl) (by kernel_rfl))
 clear hgX hgD RA0 RB0 HCA HCB CS0 X1 Y1 EX1 t1 s1 qX0 qX1 qX2 qX3 qX4 qX5 qX6 qX7 qX8 qX9 qX10 jX qD0 qD1 qD2 qD3 qD4 qD5 qD6 qD7 qD8 qD9 qD10 jD KX KD
 cases same
 ·clear HVV CV1 CV2
  go_wp2_with fail
  refine wp_region_held_drew (S := (fun w' => (w'.cell? ⟨gX, 0, none⟩ = some (.slice a.b t.mach.table.buckets.length a.bc) ∧ w'.cell? ⟨gX, 1, none⟩ = some (.slice a.f t.mach.table.frames.length a.fc) ∧ w'.cell? ⟨gX, 2, none⟩ = some (.slice a.l t.mach.cache.lines.length a.lc) ∧ w'.cell? ⟨gX, 3, none⟩ = some (.int .i64 t.mach.cache.hand) ∧ w'.cell? ⟨gX, 4, none⟩ = some (.int .i64 t.mach.tags.count) ∧ w'.cell? ⟨gX, 5, none⟩ = some (.int .i64 t.mach.tags.next) ∧ w'.cell? ⟨gX, 6, none⟩ = some (.int .i64 t.mach.tags.round) ∧ w'.cell? ⟨gX, 7, none⟩ = some (.slice a.o t.mach.tags.owns.length a.oc) ∧ w'.cell? ⟨gX, 8, none⟩ = some (.int .i64 t.mach.space) ∧ w'.cell? ⟨gX, 9, none⟩ = some (.slice Ka t.marks.length ka) ∧ w'.cell? ⟨gX, 10, none⟩ = some (.int .i64 t.hand) ∧ w'.cell? ⟨gD, 0, none⟩ = some (.slice b.b u.mach.table.buckets.length b.bc) ∧ w'.cell? ⟨gD, 1, none⟩ = some (.slice b.f u.mach.table.frames.length b.fc) ∧ w'.cell? ⟨gD, 2, none⟩ = some (.slice b.l u.mach.cache.lines.length b.lc) ∧ w'.cell? ⟨gD, 3, none⟩ = some (.int .i64 u.mach.cache.hand) ∧ w'.cell? ⟨gD, 4, none⟩ = some (.int .i64 u.mach.tags.count) ∧ w'.cell? ⟨gD, 5, none⟩ = some (.int .i64 u.mach.tags.next) ∧ w'.cell? ⟨gD, 6, none⟩ = some (.int .i64 u.mach.tags.round) ∧ w'.cell? ⟨gD, 7, none⟩ = some (.slice b.o u.mach.tags.owns.length b.oc) ∧ w'.cell? ⟨gD, 8, none⟩ = some (.int .i64 u.mach.space) ∧ w'.cell? ⟨gD, 9, none⟩ = some (.slice Kb u.marks.length kb) ∧ w'.cell? ⟨gD, 10, none⟩ = some (.int .i64 u.hand)))) (by kernel_rfl) ?r1_hS0 (fun hHeld => ?_)
  case r1_hS0 => exact FK.out _ (Ex.refl _).drew
  refine tk 0 ?_; refine tk 1 ?_; refine tk 2 ?_
  refine wpAnyH_ready (rs := [3]) (by kernel_rfl) (by simp) ?_
  refine AllReadyH.cons (o := ?r1_o3) ?r1_ho3 (fun K hK => ?_) AllReadyH.nil
  case r1_ho3 => (conv => lhs; whnf; arg 1; whnf)
  refine step_call_gu rfl CE1.out _ _ rfl #[.agg #[.slice a.b t.mach.table.buckets.length a.bc, .slice a.f t.mach.table.frames.length a.fc, .slice a.l t.mach.cache.lines.length a.lc, .int .i64 t.mach.cache.hand, .int .i64 t.mach.tags.count, .int .i64 t.mach.tags.next, .int .i64 t.mach.tags.round, .slice a.o t.mach.tags.owns.length a.oc, .int .i64 t.mach.space, .slice Ka t.marks.length ka, .int .i64 t.hand], .agg #[.slice b.b u.mach.table.buckets.length b.bc, .slice b.f u.mach.table.frames.length b.fc, .slice b.l u.mach.cache.lines.length b.lc, .int .i64 u.mach.cache.hand, .int .i64 u.mach.tags.count, .int .i64 u.mach.tags.next, .int .i64 u.mach.tags.round, .slice b.o u.mach.tags.owns.length b.oc, .int .i64 u.mach.space, .slice Kb u.marks.length kb, .int .i64 u.hand]] rfl (CS1.out _ (RA.out _ (Ex.refl _).drew) (RB.out _ (Ex.refl _).drew)) ?_; rintro r wp ⟨rfl, hp⟩; refine ⟨_, rfl, ?_⟩; have hxp := Ex.trans (Ex.refl _).drew hp
  refine hK.out _ _ ?r1_hS3 (fun hHeld3 => ?_)
  case r1_hS3 => exact FK.out _ hxp
  clear hK K hHeld
  try simp only [Act.put, List.setIfInBounds_toArray, List.set_cons_zero, List.set_cons_succ]
  refine tk 4 ?_; refine tk 5 ?_; refine tk 6 ?_; refine tk 7 ?_; refine tk 8 ?_
  refine wpAnyH_ready (rs := [9]) (by kernel_rfl) (by simp) ?_
  refine AllReadyH.cons (o := ?r1_o9) ?r1_ho9 (fun K hK => ?_) AllReadyH.nil
  case r1_ho9 => (conv => lhs; whnf; arg 1; whnf)
  refine step_call_gu rfl CE2.out _ _ rfl #[.agg #[.slice b.b u.mach.table.buckets.length b.bc, .slice b.f u.mach.table.frames.length b.fc, .slice b.l u.mach.cache.lines.length b.lc, .int .i64 u.mach.cache.hand, .int .i64 u.mach.tags.count, .int .i64 u.mach.tags.next, .int .i64 u.mach.tags.round, .slice b.o u.mach.tags.owns.length b.oc, .int .i64 u.mach.space, .slice Kb u.marks.length kb, .int .i64 u.hand], .agg #[.slice a.b t.mach.table.buckets.length a.bc, .slice a.f t.mach.table.frames.length a.fc, .slice a.l t.mach.cache.lines.length a.lc, .int .i64 t.mach.cache.hand, .int .i64 t.mach.tags.count, .int .i64 t.mach.tags.next, .int .i64 t.mach.tags.round, .slice a.o t.mach.tags.owns.length a.oc, .int .i64 t.mach.space, .slice Ka t.marks.length ka, .int .i64 t.hand]] rfl (CS2.out _ (RB.out _ hxp) (RA.out _ hxp)) ?_; rintro r wq ⟨rfl, hq⟩; refine ⟨_, rfl, ?_⟩; have hxq := Ex.trans hxp hq
  refine hK.out _ _ ?r1_hS9 (fun hHeld9 => ?_)
  case r1_hS9 => exact FK.out _ hxq
  clear hK K hHeld3
  try simp only [Act.put, List.setIfInBounds_toArray, List.set_cons_zero, List.set_cons_succ]
  refine tk 10 ?_; refine tk 11 ?_; refine tk 12 ?_; refine tk 13 ?_; refine tk 14 ?_
  refine wpAnyH_ready (rs := [15]) (by kernel_rfl) (by simp) ?_
  refine AllReadyH.cons (o := ?r1_o15) ?r1_ho15 (fun K hK => ?_) AllReadyH.nil
  case r1_ho15 => (conv => lhs; whnf; arg 1; whnf)
  refine step_call_gu rfl CE2.out _ _ rfl #[.agg #[.slice a.b t.mach.table.buckets.length a.bc, .slice a.f t.mach.table.frames.length a.fc, .slice a.l t.mach.cache.lines.length a.lc, .int .i64 t.mach.cache.hand, .int .i64 t.mach.tags.count, .int .i64 t.mach.tags.next, .int .i64 t.mach.tags.round, .slice a.o t.mach.tags.owns.length a.oc, .int .i64 t.mach.space, .slice Ka t.marks.length ka, .int .i64 t.hand], .agg #[.slice a.b t.mach.table.buckets.length a.bc, .slice a.f t.mach.table.frames.length a.fc, .slice a.l t.mach.cache.lines.length a.lc, .int .i64 t.mach.cache.hand, .int .i64 t.mach.tags.count, .int .i64 t.mach.tags.next, .int .i64 t.mach.tags.round, .slice a.o t.mach.tags.owns.length a.oc, .int .i64 t.mach.space, .slice Ka t.marks.length ka, .int .i64 t.hand]] rfl (CS3.out _ (RA.out _ hxq) (RA.out _ hxq)) ?_; rintro r ws ⟨rfl, hs⟩; refine ⟨_, rfl, ?_⟩; have hxs := Ex.trans hxq hs
  refine hK.out _ _ ?r1_hS15 (fun hHeld15 => ?_)
  case r1_hS15 => exact FK.out _ hxs
  clear hK K hHeld9
  try simp only [Act.put, List.setIfInBounds_toArray, List.set_cons_zero, List.set_cons_succ]
  refine tk 16 ?_; refine tk 17 ?_; refine tk 18 ?_; refine tk 19 ?_; refine tk 20 ?_; refine tn 21 ?_; refine tn 22 ?_; refine tn 23 ?_; refine tn 24 ?_; refine tn 25 ?_; refine tk 26 ?_; refine tk 27 ?_; refine tk 28 ?_
  refine wpAnyH_done (by kernel_rfl) ?_ _
  go_wp2
  go_ret
  exact ⟨rfl, Ew1.out.trans hxs⟩
 have hvv := HVV.out rfl
 rw [hvv] at CV2
 clear hvv HVV
 generalize memV t = vt at CV1 CV2
 cases vt
 all_goals
  go_wp2_with fail
  refine wp_region_held_drew (S := (fun w' => (w'.cell? ⟨gX, 0, none⟩ = some (.slice a.b t.mach.table.buckets.length a.bc) ∧ w'.cell? ⟨gX, 1, none⟩ = some (.slice a.f t.mach.table.frames.length a.fc) ∧ w'.cell? ⟨gX, 2, none⟩ = some (.slice a.l t.mach.cache.lines.length a.lc) ∧ w'.cell? ⟨gX, 3, none⟩ = some (.int .i64 t.mach.cache.hand) ∧ w'.cell? ⟨gX, 4, none⟩ = some (.int .i64 t.mach.tags.count) ∧ w'.cell? ⟨gX, 5, none⟩ = some (.int .i64 t.mach.tags.next) ∧ w'.cell? ⟨gX, 6, none⟩ = some (.int .i64 t.mach.tags.round) ∧ w'.cell? ⟨gX, 7, none⟩ = some (.slice a.o t.mach.tags.owns.length a.oc) ∧ w'.cell? ⟨gX, 8, none⟩ = some (.int .i64 t.mach.space) ∧ w'.cell? ⟨gX, 9, none⟩ = some (.slice Ka t.marks.length ka) ∧ w'.cell? ⟨gX, 10, none⟩ = some (.int .i64 t.hand) ∧ w'.cell? ⟨gD, 0, none⟩ = some (.slice b.b u.mach.table.buckets.length b.bc) ∧ w'.cell? ⟨gD, 1, none⟩ = some (.slice b.f u.mach.table.frames.length b.fc) ∧ w'.cell? ⟨gD, 2, none⟩ = some (.slice b.l u.mach.cache.lines.length b.lc) ∧ w'.cell? ⟨gD, 3, none⟩ = some (.int .i64 u.mach.cache.hand) ∧ w'.cell? ⟨gD, 4, none⟩ = some (.int .i64 u.mach.tags.count) ∧ w'.cell? ⟨gD, 5, none⟩ = some (.int .i64 u.mach.tags.next) ∧ w'.cell? ⟨gD, 6, none⟩ = some (.int .i64 u.mach.tags.round) ∧ w'.cell? ⟨gD, 7, none⟩ = some (.slice b.o u.mach.tags.owns.length b.oc) ∧ w'.cell? ⟨gD, 8, none⟩ = some (.int .i64 u.mach.space) ∧ w'.cell? ⟨gD, 9, none⟩ = some (.slice Kb u.marks.length kb) ∧ w'.cell? ⟨gD, 10, none⟩ = some (.int .i64 u.hand)))) (by kernel_rfl) ?r2_hS0 (fun hHeld => ?_)
  case r2_hS0 => exact FK.out _ (Ex.refl _).drew
  refine tk 0 ?_; refine tk 1 ?_; refine tk 2 ?_
  refine wpAnyH_ready (rs := [3]) (by kernel_rfl) (by simp) ?_
  refine AllReadyH.cons (o := ?r2_o3) ?r2_ho3 (fun K hK => ?_) AllReadyH.nil
  case r2_ho3 => (conv => lhs; whnf; arg 1; whnf)
  refine step_call_gu rfl CE1.out _ _ rfl #[.agg #[.slice a.b t.mach.table.buckets.length a.bc, .slice a.f t.mach.table.frames.length a.fc, .slice a.l t.mach.cache.lines.length a.lc, .int .i64 t.mach.cache.hand, .int .i64 t.mach.tags.count, .int .i64 t.mach.tags.next, .int .i64 t.mach.tags.round, .slice a.o t.mach.tags.owns.length a.oc, .int .i64 t.mach.space, .slice Ka t.marks.length ka, .int .i64 t.hand], .agg #[.slice b.b u.mach.table.buckets.length b.bc, .slice b.f u.mach.table.frames.length b.fc, .slice b.l u.mach.cache.lines.length b.lc, .int .i64 u.mach.cache.hand, .int .i64 u.mach.tags.count, .int .i64 u.mach.tags.next, .int .i64 u.mach.tags.round, .slice b.o u.mach.tags.owns.length b.oc, .int .i64 u.mach.space, .slice Kb u.marks.length kb, .int .i64 u.hand]] rfl (CS1.out _ (RA.out _ (Ex.refl _).drew) (RB.out _ (Ex.refl _).drew)) ?_; rintro r wp ⟨rfl, hp⟩; refine ⟨_, rfl, ?_⟩; have hxp := Ex.trans (Ex.refl _).drew hp
  refine hK.out _ _ ?r2_hS3 (fun hHeld3 => ?_)
  case r2_hS3 => exact FK.out _ hxp
  clear hK K hHeld
  try simp only [Act.put, List.setIfInBounds_toArray, List.set_cons_zero, List.set_cons_succ]
  refine tk 4 ?_; refine tk 5 ?_; refine tk 6 ?_; refine tk 7 ?_; refine tk 8 ?_
  refine wpAnyH_ready (rs := [9]) (by kernel_rfl) (by simp) ?_
  refine AllReadyH.cons (o := ?r2_o9) ?r2_ho9 (fun K hK => ?_) AllReadyH.nil
  case r2_ho9 => (conv => lhs; whnf; arg 1; whnf)
  refine step_call_gu rfl CE2.out _ _ rfl #[.agg #[.slice b.b u.mach.table.buckets.length b.bc, .slice b.f u.mach.table.frames.length b.fc, .slice b.l u.mach.cache.lines.length b.lc, .int .i64 u.mach.cache.hand, .int .i64 u.mach.tags.count, .int .i64 u.mach.tags.next, .int .i64 u.mach.tags.round, .slice b.o u.mach.tags.owns.length b.oc, .int .i64 u.mach.space, .slice Kb u.marks.length kb, .int .i64 u.hand], .agg #[.slice a.b t.mach.table.buckets.length a.bc, .slice a.f t.mach.table.frames.length a.fc, .slice a.l t.mach.cache.lines.length a.lc, .int .i64 t.mach.cache.hand, .int .i64 t.mach.tags.count, .int .i64 t.mach.tags.next, .int .i64 t.mach.tags.round, .slice a.o t.mach.tags.owns.length a.oc, .int .i64 t.mach.space, .slice Ka t.marks.length ka, .int .i64 t.hand]] rfl (CS2.out _ (RB.out _ hxp) (RA.out _ hxp)) ?_; rintro r wq ⟨rfl, hq⟩; refine ⟨_, rfl, ?_⟩; have hxq := Ex.trans hxp hq
  refine hK.out _ _ ?r2_hS9 (fun hHeld9 => ?_)
  case r2_hS9 => exact FK.out _ hxq
  clear hK K hHeld3
  try simp only [Act.put, List.setIfInBounds_toArray, List.set_cons_zero, List.set_cons_succ]
  refine tk 10 ?_; refine tk 11 ?_; refine tk 12 ?_; refine tk 13 ?_; refine tk 14 ?_
  refine wpAnyH_ready (rs := [15]) (by kernel_rfl) (by simp) ?_
  refine AllReadyH.cons (o := ?r2_o15) ?r2_ho15 (fun K hK => ?_) AllReadyH.nil
  case r2_ho15 => (conv => lhs; whnf; arg 1; whnf)
  refine step_call_gu rfl CE2.out _ _ rfl #[.agg #[.slice a.b t.mach.table.buckets.length a.bc, .slice a.f t.mach.table.frames.length a.fc, .slice a.l t.mach.cache.lines.length a.lc, .int .i64 t.mach.cache.hand, .int .i64 t.mach.tags.count, .int .i64 t.mach.tags.next, .int .i64 t.mach.tags.round, .slice a.o t.mach.tags.owns.length a.oc, .int .i64 t.mach.space, .slice Ka t.marks.length ka, .int .i64 t.hand], .agg #[.slice a.b t.mach.table.buckets.length a.bc, .slice a.f t.mach.table.frames.length a.fc, .slice a.l t.mach.cache.lines.length a.lc, .int .i64 t.mach.cache.hand, .int .i64 t.mach.tags.count, .int .i64 t.mach.tags.next, .int .i64 t.mach.tags.round, .slice a.o t.mach.tags.owns.length a.oc, .int .i64 t.mach.space, .slice Ka t.marks.length ka, .int .i64 t.hand]] rfl (CS3.out _ (RA.out _ hxq) (RA.out _ hxq)) ?_; rintro r ws ⟨rfl, hs⟩; refine ⟨_, rfl, ?_⟩; have hxs := Ex.trans hxq hs
  refine hK.out _ _ ?r2_hS15 (fun hHeld15 => ?_)
  case r2_hS15 => exact FK.out _ hxs
  clear hK K hHeld9
  try simp only [Act.put, List.setIfInBounds_toArray, List.set_cons_zero, List.set_cons_succ]
  refine tk 16 ?_; refine tk 17 ?_; refine tk 18 ?_; refine tk 19 ?_; refine tk 20 ?_; refine tk 21 ?_; refine tk 23 ?_
  refine wpAnyH_ready (rs := [22]) (by kernel_rfl) (by simp) ?_
  refine AllReadyH.cons (o := ?r2_o22) ?r2_ho22 (fun K hK => ?_) AllReadyH.nil
  case r2_ho22 => (conv => lhs; whnf; arg 1; whnf)
  refine step_call_gu rfl CE3.out _ _ rfl #[.agg #[.slice a.b t.mach.table.buckets.length a.bc, .slice a.f t.mach.table.frames.length a.fc, .slice a.l t.mach.cache.lines.length a.lc, .int .i64 t.mach.cache.hand, .int .i64 t.mach.tags.count, .int .i64 t.mach.tags.next, .int .i64 t.mach.tags.round, .slice a.o t.mach.tags.owns.length a.oc, .int .i64 t.mach.space, .slice Ka t.marks.length ka, .int .i64 t.hand]] rfl (CV1.out _ (RA.out _ hxs) (HV1.out.ex hxs)) ?_; rintro r wx ⟨rfl, hx⟩; refine ⟨_, rfl, ?_⟩; have hxx := Ex.trans hxs hx
  refine hK.out _ _ ?r2_hS22 (fun hHeld22 => ?_)
  case r2_hS22 => exact FK.out _ hxx
  clear hK K hHeld15
  try simp only [Act.put, List.setIfInBounds_toArray, List.set_cons_zero, List.set_cons_succ]
  refine wpAnyH_ready (rs := [24]) (by kernel_rfl) (by simp) ?_
  refine AllReadyH.cons (o := ?r2_o24) ?r2_ho24 (fun K hK => ?_) AllReadyH.nil
  case r2_ho24 => (conv => lhs; whnf; arg 1; whnf)
  refine step_call_gu rfl CE3.out _ _ rfl #[.agg #[.slice b.b u.mach.table.buckets.length b.bc, .slice b.f u.mach.table.frames.length b.fc, .slice b.l u.mach.cache.lines.length b.lc, .int .i64 u.mach.cache.hand, .int .i64 u.mach.tags.count, .int .i64 u.mach.tags.next, .int .i64 u.mach.tags.round, .slice b.o u.mach.tags.owns.length b.oc, .int .i64 u.mach.space, .slice Kb u.marks.length kb, .int .i64 u.hand]] rfl (CV2.out _ (RB.out _ hxx) (HV1.out.ex hxx)) ?_; rintro r wz ⟨rfl, hz⟩; refine ⟨_, rfl, ?_⟩; have hxz := Ex.trans hxx hz
  refine hK.out _ _ ?r2_hS24 (fun hHeld24 => ?_)
  case r2_hS24 => exact FK.out _ hxz
  clear hK K hHeld22
  try simp only [Act.put, List.setIfInBounds_toArray, List.set_cons_zero, List.set_cons_succ]
  refine tk 25 ?_; refine tk 26 ?_; refine tk 27 ?_; refine tk 28 ?_
  refine wpAnyH_done (by kernel_rfl) ?_ _
  go_wp2
  go_ret
  exact ⟨rfl, Ew1.out.trans hxz⟩
end Go.Proofs.YtbdlpbladpppjaaGreatDoor
namespace Go.Proofs.YtbdlpbladpppjaaGreatDoor
open Go.ChangeShapes Go.WideShapes Go.ChangeAt Go.WideMaps Go.WideElems Go.RowKit
open Rec (sz cs)
set_option linter.unusedVariables false
set_option maxRecDepth 100000

def laidL {H : Type} : List (String × DataW H) := [("loop.example/invertedpages/impl.free", Rows.laid_loop_example_invertedpages_impl_free)]
theorem gFree : Tryz.prog.globalNamed "loop.example/invertedpages/impl.free" = some 0 := by kernel_rfl
theorem tFree : (Tryz.prog.globals[0]?).map (·.type) = some 45 := by kernel_rfl

/-- The door's own heap meets the condition. -/
theorem door_met (os : Os) (args : Array Value) : laidMetH Tryz.prog laidL ((World.doorLaid Tryz.prog 14 os).forCall (fun _ _ => 0) ⟨#[], args, []⟩).memory :=
 laidMetH_of_parts3 (fuel := 8) (laidMet_of_run' 8 (by kernel_rfl) (by kernel_rfl)) (by kernel_rfl) (by kernel_rfl)

theorem fields_door {H : Type} {enc : TypeId × Value → H} {P : Program} {w : World} {base : Nat} {spare : Nat → Bool} {held : Bool} {t : TypeId} {fs : Array Field} {fuel : Nat} {cs : List Value} {x : DataW H × List MemPlace} (ht : P.underlying t = some (.struct fs)) (h : DataW.trod enc P w base spare held fuel t cs = some x) :
  ∃ xs : List (DataW H × List MemPlace), x.1 = .agg (xs.map (·.1)) ∧ cs.length = P.cellsOf t ∧ xs.length = fs.size ∧ ∃ n, ∀ (j : Nat) (f : Field), fs[j]? = some f → DataW.trod enc P w base spare held n f.type ((cs.drop f.offset).take (P.cellsOf f.type)) = xs[j]? := by
 obtain ⟨xs, n, _, e, hl, hlen, hf⟩ := DataW.trod_struct ht h
 exact ⟨xs, by rw [e], hl, hlen, n, hf⟩

theorem free_of_laid {W : World} (h : laidMetH Tryz.prog laidL W) : FreeV W := by
 rw [MakeChecks.laidMetH_plain _ _ _ (by kernel_rfl)] at h
 obtain ⟨ps, ⟨g0, t0, cs0, f0, p0, q0, hg0, ht0, hv0, hd0, _, _⟩, _, _⟩ := h
 obtain rfl := Option.some.inj (gFree.symm.trans hg0)
 obtain rfl := Option.some.inj (tFree.symm.trans ht0)
 obtain ⟨xs, hx, hl, hlen, n, hf⟩ := fields_door Tryz.underlying45 hd0
 have k1 : Tryz.prog.cellsOf 3 = 1 := by kernel_rfl
 have k2 : Tryz.prog.cellsOf 4 = 1 := by kernel_rfl
 have k3 : Tryz.prog.cellsOf 43 = 2 := by kernel_rfl
 have k4 : Tryz.prog.cellsOf 45 = 5 := by kernel_rfl
 rw [k4] at hl
 have hcell : ∀ j, W.cell? ⟨0, j, none⟩ = cs0[j]? := fun j => World.var?_cell hg0 hv0 j
 have hcl : ∀ j, cs0[j]? = cs0.toList[j]? := fun j => Array.getElem?_toList.symm
 match hcs : cs0.toList, hl, xs, hlen, hx, hf with
 | [v0, v1, v2, v3, v4], _, [x0, x1, x2, x3], _, hx, hf =>
  have h0 := hf 0 _ rfl
  have h1 := hf 1 _ rfl
  have h2 := hf 2 _ rfl
  have h3 := hf 3 _ rfl
  simp [k1, k2, k3] at h0 h1 h2 h3
  simp only [Rows.laid_loop_example_invertedpages_impl_free, List.map_cons, List.map_nil, DataW.agg.injEq, List.cons.injEq, and_true] at hx
  obtain ⟨e0, e1, e2, e3⟩ := hx
  obtain ⟨b0, c0, d0⟩ := DataW.trod_bool Tryz.underlying4 h0
  obtain ⟨n2, c2, d2, _⟩ := DataW.trod_int Tryz.underlying3 h2
  obtain ⟨n3, c3, d3, _⟩ := DataW.trod_int Tryz.underlying3 h3
  obtain ⟨ys, hy, hyl, hylen, m, hg⟩ := fields_door Tryz.underlying43 h1
  match ys, hylen, hy, hg with
  | [y0, y1], _, hy, hg =>
   have g0 := hg 0 _ rfl
   have g1 := hg 1 _ rfl
   simp [k1] at g0 g1
   obtain ⟨m0, c4, d4, _⟩ := DataW.trod_int Tryz.underlying3 g0
   obtain ⟨m1, c5, d5, _⟩ := DataW.trod_int Tryz.underlying3 g1
   rw [hy] at e1
   simp only [List.map_cons, List.map_nil, DataW.agg.injEq, List.cons.injEq, and_true] at e1
   rw [d0] at e0
   rw [d2] at e2
   rw [d3] at e3
   rw [d4, d5] at e1
   simp at e0 e1 e2 e3 c0 c2 c3 c4 c5
   have z0 : W.cell? ⟨0, 0, none⟩ = some (.bool false) := by rw [hcell, hcl, hcs]; simp_all
   refine ⟨block_lt_of_cell z0, z0, ?_, ?_, ?_, ?_⟩
   ·rw [hcell, hcl, hcs]; first | (simp_all; done) | (simp_all; omega)
   ·rw [hcell, hcl, hcs]; first | (simp_all; done) | (simp_all; omega)
   ·rw [hcell, hcl, hcs]; first | (simp_all; done) | (simp_all; omega)
   ·rw [hcell, hcl, hcs]; first | (simp_all; done) | (simp_all; omega)
end Go.Proofs.YtbdlpbladpppjaaGreatDoor
namespace Go.Proofs.YtbdlpbladpppjaaGreatDoor
open Go.ChangeShapes Go.WideShapes Go.ChangeAt Go.RowKit
open Rec (sz cs)
set_option linter.unusedVariables false
set_option maxRecDepth 100000
section
variable {H : Type} {enc : TypeId × Value → H} {w : World} {base b0 : Nat} {spare : Nat → Bool} {held : Bool} {r : Reach}
theorem byte_wf {n : Int} (h : (Lit.int .u8 n).wf = true) : 0 ≤ n ∧ n ≤ 255 := by
 have := bounds_u8 h
 omega
theorem open_bytes {v : Value} {d : DataW H} {p : List MemPlace} (hv : Value.okWide Tryz.prog w r b0 22 v) (h : DataW.Trod enc Tryz.prog w base spare held 22 v d p) :
  ∃ (A : Option Addr) (n c : Nat) (xs : List ByteD), v = .slice A n c ∧ Rd w A xs ∧ (Bytes xs ∧ xs.length = n ∧ n ≤ c ∧ c ≤ maxLen) := by
 obtain ⟨a0, len, cap, rfl⟩ := okWide_slice Tryz.underlying22 hv
 obtain ⟨fuel, hf⟩ := h
 rcases open_ints Tryz.underlying22 Tryz.underlying5 (by kernel_rfl) hf with ⟨hcs, _⟩ | ⟨x, l, c, zs, hcs, _, hl, hm, hz, _, hcell, hwz⟩
 ·simp [Value.cells] at hcs
  obtain ⟨rfl, rfl, rfl⟩ := hcs
  exact ⟨none, 0, 0, [], rfl, Rd.nil _ _, by intro b hb; simp at hb, rfl, Nat.le_refl _, Nat.zero_le _⟩
 ·simp [Value.cells] at hcs
  obtain ⟨rfl, rfl, rfl⟩ := hcs
  have hzl : len ≤ zs.length := by rw [hz]; split <;> omega
  obtain ⟨xs, hx, hr⟩ := rd_build (α := ByteD) (w := w) x len (fun i hi => ⟨⟨zs.getD i 0⟩, fun j u hu => by
   match j, hu with
   | 0, hu =>
    simp [cs] at hu
    subst hu
    have := hcell i (by omega)
    show w.cell? (x.add (i * 1 + 0)) = _
    rw [Nat.mul_one, Nat.add_zero]
    exact this
   | j + 1, hu => simp [cs] at hu⟩)
  refine ⟨some x, len, cap, xs, rfl, hr, ?_, hx, hl, hm⟩
  intro b hb
  obtain ⟨i, hi, rfl⟩ := List.getElem_of_mem hb
  obtain ⟨b', o', y, e, _, hy, hc⟩ := Rd.byte hr (k := i) hi
  injection e with e
  subst e
  have h2 := hcell i (by omega)
  have ha : (⟨b', o', none⟩ : Addr).add i = ⟨b', o' + i, none⟩ := by unfold Addr.add; split <;> simp_all
  rw [ha, hc] at h2
  injection h2 with h2
  injection h2 with _ h2
  rw [List.getElem?_eq_getElem hi] at hy
  injection hy with hy
  rw [hy, h2]
  have hmem : zs.getD i 0 ∈ zs := by
   rw [List.getD_eq_getElem?_getD, List.getElem?_eq_getElem (by omega)]
   exact List.getElem_mem _
  exact byte_wf (hwz _ hmem)
end
end Go.Proofs.YtbdlpbladpppjaaGreatDoor
/- Whatever the code, the law FnMemorySame returns true, and its argument and the listed variable read as before; the variable starts as the program lays it (tied). -/
namespace Go.Proofs.YtbdlpbladpppjaaGreatDoor
open Go.ChangeShapes Go.WideShapes Go.ChangeAt Go.WideMaps Go.WideElems Go.RowKit
set_option linter.unusedVariables false

set_option maxRecDepth 100000 in
theorem lifted_FnMemorySame (os : Os) (started : os.Started) (H : Type) (enc : TypeId × Value → H) :
  ReturnsInHanded {} Tryz.checked os 4 .any (fun w args => (Rows.fnMemorySameSpec.pre enc Tryz.prog Tryz.f4 [] false w args ∧ laidMetH Tryz.prog laidL w) ∧ sizedMet enc Tryz.prog Tryz.f4 (OpenSpec.ofChange Rows.fnMemorySameSpec) false w args)
   (Rows.fnMemorySameSpec.post enc Tryz.prog Tryz.f4 false true false false) := by
 refine returnsInHanded_of_change_and (C := Tryz.checked) (X := fun w _ => laidMetH Tryz.prog laidL w) (fun _ _ _ hh h => h.of_heap hh) ownRow started (by kernel_rfl) Tryz.func4
  (ChangeSpec.witness_shaped (enc := enc) (C := Tryz.checked) (os := os) (X := fun w _ => laidMetH Tryz.prog laidL w) false (World.doorLaid Tryz.prog 14 os) #[.slice none 0 0] 8 rfl (World.shaped_of_RefB (by kernel_rfl) (by kernel_rfl)) (by kernel_rfl) (by kernel_rfl) (by kernel_rfl) (door_met os _)) ?_
 intro W base args ds gs before hval0 hW _ _ hL _
 have hFV := free_of_laid hL
 have hval : ∀ (j : Nat) t v, Tryz.f4.params[j]? = some t → args[j]? = some v → Value.okWide Tryz.prog W .any base t v := hval0
 have hW' := hW
 obtain ⟨p, q, hA0, hV, rfl, hfz, hnd⟩ := hW
 have hA : DataW.TrodAll enc Tryz.prog W 0 (fun _ => true) true Tryz.f4.params.toList args.toList ds p := hA0
 rw [Tryz.params4] at hA hval
 obtain ⟨v0, vs0, d0, ds0, p0, q0, hargs, rfl, rfl, h0, r0⟩ := trodAll_cons hA
 obtain ⟨rfl, rfl, rfl⟩ := trodAll_nil r0
 obtain rfl : args = #[v0] := by cases args; simp_all
 obtain ⟨g9, t9, cs9, fuel9, d9, p9, rfl, -, -, -, -, -⟩ := trodVars_one (show DataW.TrodVars enc Tryz.prog W (fun _ => true) ["loop.example/invertedpages/impl.free"] gs q from hV)
 have k0 := h0
 have lt0 : ∀ x ∈ p0, x.block < W.heap.size := by obtain ⟨m, hm⟩ := k0; exact DataW.trod_lt m _ _ _ hm
 obtain ⟨A0, n0, c0, xs0, rfl, hr0, hc0⟩ := open_bytes (hval 0 22 v0 rfl rfl) h0
 clear hA0 hval0
 refine (walk_FnMemorySame A0 n0 c0 xs0 W hr0 hc0 hFV).mono fun e W' ⟨he, bel⟩ => ?_
 subst he
 exact ⟨_, rfl, _, _, _, [], _, _, hW', trodAll_mk1 (shut_bool Tryz.underlying4 _), (trodAll_cons_mk (Below.trod laidOutRow (by kernel_rfl) (of_decide_eq_true (by kernel_rfl)) k0 bel lt0) trodAll_mk0), Below.trodVars laidOutRow bel (by kernel_rfl) hV, Below.frame bel _, fun h => by cases h⟩

theorem name_FnMemorySame : Tryz.checked.prog.funcNamed Rows.fnMemorySameRow.func = some 4 := by kernel_rfl
theorem closed_FnMemorySame : joinedFacts Tryz.checked.prog 4 Tryz.f4 Rows.fnMemorySameSpec Rows.fnMemorySameRow = true := by
 simp only [joinedFacts, Bool.and_eq_true]
 refine ⟨⟨⟨⟨⟨⟨⟨⟨⟨⟨⟨⟨⟨⟨⟨⟨⟨⟨⟨⟨⟨⟨⟨⟨⟨⟨⟨⟨⟨⟨⟨?_, laidOutRow⟩, progMaps⟩, ?_⟩, ?_⟩, ?_⟩, ?_⟩, ?_⟩, ?_⟩, ?_⟩, ?_⟩, ?_⟩, ?_⟩, ?_⟩, ?_⟩, ?_⟩, ?_⟩, ?_⟩, ?_⟩, ?_⟩, ?_⟩, ?_⟩, ?_⟩, ?_⟩, progHeard⟩, progEnter⟩, (beq_iff_eq.2 progFinal.symm)⟩, (beq_iff_eq.2 progMake)⟩, ?_⟩, ?_⟩, ?_⟩, ?_⟩
 all_goals as_aux_lemma => kernel_rfl
theorem over_FnMemorySame : Rows.fnMemorySameRow.holds Tryz.pinned (OpenSpec.ofChange Rows.fnMemorySameSpec) :=
 OpenClaim.holds_of_wide 4 Tryz.f4 rfl rfl rfl rfl rfl rfl rfl ⟨rfl, rfl, rfl, rfl, rfl⟩ rfl rfl rfl rfl rfl name_FnMemorySame Tryz.func4 closed_FnMemorySame
  (of_decide_eq_true (by kernel_rfl)) (by unfold Func.isWrapper; first | (rw [if_pos (by decide +kernel)]; kernel_rfl) | (rw [if_neg (by decide +kernel)]; exact ⟨rfl, rfl⟩))
  (fun os started H enc _ => lifted_FnMemorySame os started H enc)

theorem FnMemorySame_proved : Rows.FnMemorySameCardSaid :=
 Claim7.holds_tied_plain_at .later [] [.data] true (true, "0746fc808238edcdf8a8dd39f9a16ee733ae8353f140ad760e628fd274d32408") false
  over_FnMemorySame (fun _ h => by cases h) (by kernel_rfl) (fun _ h => by cases h) fnMemorySame_row_tie rfl ⟨rfl, rfl⟩ (by kernel_rfl) rfl
  (fun f fn hf hfn => by
   obtain rfl : f = 4 := Option.some.inj (name_FnMemorySame.symm.trans hf) |>.symm
   obtain rfl : fn = Tryz.f4 := (Option.some.inj (Tryz.func4.symm.trans hfn)).symm
   exact ⟨by kernel_rfl, fun j t ht => by
    rw [Tryz.params4] at ht
    have hm : t ∈ [22] := by have := Array.mem_of_getElem? ht; simpa using this
    have hall : ([22].all fun u => !Tryz.prog.wantsStandIn u) = true := by kernel_rfl
    exact (show Tryz.prog.wantsStandIn t = false by simpa using List.all_eq_true.1 hall t hm)⟩)
  (by kernel_rfl)
#print axioms FnMemorySame_proved
end Go.Proofs.YtbdlpbladpppjaaGreatDoor
