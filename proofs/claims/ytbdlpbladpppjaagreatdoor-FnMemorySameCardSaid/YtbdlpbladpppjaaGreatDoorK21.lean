/- Joined: Uk, Wv. -/
import Derived.Test.YtbdlpbladpppjaaGreatDoorK20
import Derived.Test.YtbdlpbladpppjaaGreatDoorK16
import Derived.Test.YtbdlpbladpppjaaGreatDoorK15
namespace Go.Proofs.YtbdlpbladpppjaaGreatDoor
open Go.ChangeShapes Go.WideShapes Go.ChangeAt Go.RowKit
open Rec (sz cs)
set_option linter.unusedVariables false
set_option maxRecDepth 100000

def DrawnMems (k : Nat) (w : World) (e : Ending) (w' : World) : Prop := ∃ (m n : MemD) (a : MA) (Ka : Option Addr) (ka : Nat) (b : MA) (Kb : Option Addr) (kb : Nat), e = .returned (.tuple #[.agg #[.slice a.b m.mach.table.buckets.length a.bc, .slice a.f m.mach.table.frames.length a.fc, .slice a.l m.mach.cache.lines.length a.lc, .int .i64 m.mach.cache.hand, .int .i64 m.mach.tags.count, .int .i64 m.mach.tags.next, .int .i64 m.mach.tags.round, .slice a.o m.mach.tags.owns.length a.oc, .int .i64 m.mach.space, .slice Ka m.marks.length ka, .int .i64 m.hand], .agg #[.slice b.b n.mach.table.buckets.length b.bc, .slice b.f n.mach.table.frames.length b.fc, .slice b.l n.mach.cache.lines.length b.lc, .int .i64 n.mach.cache.hand, .int .i64 n.mach.tags.count, .int .i64 n.mach.tags.next, .int .i64 n.mach.tags.round, .slice b.o n.mach.tags.owns.length b.oc, .int .i64 n.mach.space, .slice Kb n.marks.length kb, .int .i64 n.hand]]) ∧ FewP m k ∧ FewP n k ∧ FrE w' w.heap.size m a Ka ka ∧ FrE w' w.heap.size n b Kb kb ∧ Ex w w'
theorem FewP.mono {m : MemD} {k k' : Nat} (h : FewP m k) (hk : k ≤ k') : FewP m k' := ⟨h.b.mono hk, h.pos, Nat.le_trans h.len hk⟩

set_option maxHeartbeats 16000000 in
theorem drawMemorySame_c (A : Option Addr) (c : Nat) (bs : List ByteD) (w : World) (hx : Rd w A bs) (hb : Bytes bs) (hn : bs.length ≤ 1048576) (hc : bs.length ≤ c) (hcm : c ≤ maxLen) :
  Calls Tryz.prog 9 #[.slice A bs.length c] w (DrawnMems 40 w) := by
 have C1 := zq (fun w' (h : Ex w w') => l12Open_c A c bs w' (hx.ex h) hb hn hc hcm)
 have CE0 : Hid (∀ (args : Array Value) (w : World), (callFunc 19 args).run Tryz.prog w = .ok (.enter 19 args) w) := zq (enters Tryz.func19 (by kernel_rfl) (by kernel_rfl))
 generalize bs.length = n at C1 hn hc
 clear hx hb hn hc hcm
 go_enter Tryz.func9, Tryz.ntmps9
 go_wp2_with fail
 refine name_calls ?_; intro v1 hv1
 have X1 : Hid (Chg (0) (0) w v1) := zx hv1
 have t1 := X1.out.size
 have Ev1 := zq ((Ex.refl w).chg X1.out (by omega))
 have KR : Hid (Blk v1 (w.heap.size) 37 [.slice none 0 0, .slice none 0 0, .slice none 0 0, .int .i64 0, .int .i64 0, .int .i64 0, .int .i64 0, .slice none 0 0, .int .i64 0, .slice none 0 0, .int .i64 0]) := zq (by rw [hv1]; exact (Blk.new _ _ _).alloc _)
 have lR : w.heap.size < v1.heap.size := KR.out.lt
 have KQ : Hid (Blk v1 (w.heap.size + 1) 37 [.slice none 0 0, .slice none 0 0, .slice none 0 0, .int .i64 0, .int .i64 0, .int .i64 0, .int .i64 0, .slice none 0 0, .int .i64 0, .slice none 0 0, .int .i64 0]) := zq (by rw [hv1]; exact Blk.new_at _ _ _ (by simp))
 have lQ : w.heap.size + 1 < v1.heap.size := KQ.out.lt
 clear hv1
 refine (C1.out _ Ev1.out).mono ?_; rintro r w1 ⟨g, rfl, hrd1, hg1, hb1⟩
 have Y1 := zq (Chg.of_ex hb1)
 have s1 := Y1.out.size
 have Ew1 := zq (Ev1.out.chg Y1.out (by omega))
 clear hb1
 replace KR := zq (KR.out.chg Y1.out (by omega))
 replace KQ := zq (KQ.out.chg Y1.out (by omega))
 have HRD1 := zq hrd1; clear hrd1
 obtain ⟨qR0, qR1, qR2, qR3, qR4, qR5, qR6, qR7, qR8, qR9, qR10⟩ := KR.out.c11
 have jR := KR.out.lt
 obtain ⟨qQ0, qQ1, qQ2, qQ3, qQ4, qQ5, qQ6, qQ7, qQ8, qQ9, qQ10⟩ := KQ.out.c11
 have jQ := KQ.out.lt
 have lg := HRD1.out.lt
 go_wp2_with fail
 refine name_calls ?_; intro v2 hv2
 have X2 : Hid (Chg (0) (0) w1 v2) := zx hv2
 have t2 := X2.out.size
 have Ev2 := zq (Ew1.out.chg X2.out (by omega))
 clear qR0 qR1 qR2 qR3 qR4 qR5 qR6 qR7 qR8 qR9 qR10 jR
 clear qQ0 qQ1 qQ2 qQ3 qQ4 qQ5 qQ6 qQ7 qQ8 qQ9 qQ10 jQ
 replace KR := zq (KR.out.chg X2.out (by omega))
 replace KQ := zq (KQ.out.chg X2.out (by omega))
 replace HRD1 := zq (HRD1.out.chg X2.out (by omega))
 clear hv2
 refine (l7Draw_c g 0 _ HRD1.out (by omega)).mono ?_; rintro r w2 ⟨m2, a2, K2, k2, p2, rfl, hm2, hhe2, hrd2, hp2, hb2⟩
 have Y2 : Hid (Chg (g) (g + 1) v2 w2) := zq (Chg.of_grown hb2 (fun b hb => by injection hb with hb; omega))
 have s2 := Y2.out.size
 have Ew2 := zq (Ev2.out.chg Y2.out (by omega))
 clear hb2
 replace KR := zq (KR.out.chg Y2.out (by omega))
 replace KQ := zq (KQ.out.chg Y2.out (by omega))
 clear HRD1
 have HRD2 := zq hrd2; clear hrd2
 have HHE2 := zq hhe2; clear hhe2
 obtain ⟨qR0, qR1, qR2, qR3, qR4, qR5, qR6, qR7, qR8, qR9, qR10⟩ := KR.out.c11
 have jR := KR.out.lt
 obtain ⟨qQ0, qQ1, qQ2, qQ3, qQ4, qQ5, qQ6, qQ7, qQ8, qQ9, qQ10⟩ := KQ.out.c11
 have jQ := KQ.out.lt
 have HM2 := zq hm2.fewP
 clear hm2
 have HRDS := zq HRD2.out
 have HES : Hid (FrE w2 v2.heap.size m2 a2 K2 k2) := zq HHE2.out
 have KRS : Hid (Blk w2 w.heap.size 37 [.slice none 0 0, .slice none 0 0, .slice none 0 0, .int .i64 0, .int .i64 0, .int .i64 0, .int .i64 0, .slice none 0 0, .int .i64 0, .slice none 0 0, .int .i64 0]) := zq KR.out
 have KQS : Hid (Blk w2 (w.heap.size + 1) 37 [.slice none 0 0, .slice none 0 0, .slice none 0 0, .int .i64 0, .int .i64 0, .int .i64 0, .int .i64 0, .slice none 0 0, .int .i64 0, .slice none 0 0, .int .i64 0]) := zq KQ.out
 have EXS : Hid (Ex w w2) := zq Ew2.out
 have hgv : g < v2.heap.size ∧ v2.heap.size ≤ w2.heap.size ∧ w.heap.size + 1 < g := by omega
 clear HHE2
 clear qR0 qR1 qR2 qR3 qR4 qR5 qR6 qR7 qR8 qR9 qR10 jR
 clear KR
 clear qQ0 qQ1 qQ2 qQ3 qQ4 qQ5 qQ6 qQ7 qQ8 qQ9 qQ10 jQ
 clear KQ
 go_wp2_with fail
 refine name_code ?_
 intro wc hwc
 obtain ⟨gO, hgO⟩ : ∃ gO, gO = w2.heap.size := ⟨_, rfl⟩
 have KO : Hid (Blk wc gO 37 [.slice a2.b m2.mach.table.buckets.length a2.bc, .slice a2.f m2.mach.table.frames.length a2.fc, .slice a2.l m2.mach.cache.lines.length a2.lc, .int .i64 m2.mach.cache.hand, .int .i64 m2.mach.tags.count, .int .i64 m2.mach.tags.next, .int .i64 m2.mach.tags.round, .slice a2.o m2.mach.tags.owns.length a2.oc, .int .i64 m2.mach.space, .slice K2 m2.marks.length k2, .int .i64 m2.hand]) := zq (by rw [hwc, hgO]; exact Blk.new _ _ _)
 have KR : Hid (Blk wc w.heap.size 37 [.slice none 0 0, .slice none 0 0, .slice none 0 0, .int .i64 0, .int .i64 0, .int .i64 0, .int .i64 0, .slice none 0 0, .int .i64 0, .slice none 0 0, .int .i64 0]) := zq (by rw [hwc]; exact KRS.out.alloc _)
 have KQ : Hid (Blk wc (w.heap.size + 1) 37 [.slice none 0 0, .slice none 0 0, .slice none 0 0, .int .i64 0, .int .i64 0, .int .i64 0, .int .i64 0, .slice none 0 0, .int .i64 0, .slice none 0 0, .int .i64 0]) := zq (by rw [hwc]; exact KQS.out.alloc _)
 have HRD : Hid (Rdr wc g p2) := zq (by rw [hwc]; exact HRDS.out.alloc _)
 have HEc : Hid (FrE wc v2.heap.size m2 a2 K2 k2) := zq (by rw [hwc]; exact HES.out.ex ((Ex.refl _).alloc _))
 have EX : Hid (Ex w wc) := zq (by rw [hwc]; exact EXS.out.alloc _)
 have hgO2 : v2.heap.size ≤ gO := by omega
 have hOc := KO.out.lt
 rw [← hgO]
 have HME : Hid (∀ w', Chg g (g + 1) wc w' → FrE w' v2.heap.size m2 a2 K2 k2) := zq (fun w' h => HEc.out.chg1 h hgv.1)
 have FKO : Hid (∀ w', Chg g (g + 1) wc w' → (w'.cell? ⟨gO, 0, none⟩ = some (.slice a2.b m2.mach.table.buckets.length a2.bc) ∧ w'.cell? ⟨gO, 1, none⟩ = some (.slice a2.f m2.mach.table.frames.length a2.fc) ∧ w'.cell? ⟨gO, 2, none⟩ = some (.slice a2.l m2.mach.cache.lines.length a2.lc) ∧ w'.cell? ⟨gO, 3, none⟩ = some (.int .i64 m2.mach.cache.hand) ∧ w'.cell? ⟨gO, 4, none⟩ = some (.int .i64 m2.mach.tags.count) ∧ w'.cell? ⟨gO, 5, none⟩ = some (.int .i64 m2.mach.tags.next) ∧ w'.cell? ⟨gO, 6, none⟩ = some (.int .i64 m2.mach.tags.round) ∧ w'.cell? ⟨gO, 7, none⟩ = some (.slice a2.o m2.mach.tags.owns.length a2.oc) ∧ w'.cell? ⟨gO, 8, none⟩ = some (.int .i64 m2.mach.space) ∧ w'.cell? ⟨gO, 9, none⟩ = some (.slice K2 m2.marks.length k2) ∧ w'.cell? ⟨gO, 10, none⟩ = some (.int .i64 m2.hand))) := zq (fun w' h => (KO.out.chg h (by omega)).c11)
 have HGR : Hid (∀ b, some g = some b → g ≤ b ∧ b < g + 1) := zq (fun b hb => by injection hb with hb; omega)
 have hOR : ¬ gO = w.heap.size := by omega
 have hOQ : ¬ gO = w.heap.size + 1 := by omega
 have hwcz := EX.out.size
 clear hwc hgO KRS KQS HRDS HES EXS
 refine wp_region_held_drew (S := (fun w' => (w'.cell? ⟨gO, 0, none⟩ = some (.slice a2.b m2.mach.table.buckets.length a2.bc) ∧ w'.cell? ⟨gO, 1, none⟩ = some (.slice a2.f m2.mach.table.frames.length a2.fc) ∧ w'.cell? ⟨gO, 2, none⟩ = some (.slice a2.l m2.mach.cache.lines.length a2.lc) ∧ w'.cell? ⟨gO, 3, none⟩ = some (.int .i64 m2.mach.cache.hand) ∧ w'.cell? ⟨gO, 4, none⟩ = some (.int .i64 m2.mach.tags.count) ∧ w'.cell? ⟨gO, 5, none⟩ = some (.int .i64 m2.mach.tags.next) ∧ w'.cell? ⟨gO, 6, none⟩ = some (.int .i64 m2.mach.tags.round) ∧ w'.cell? ⟨gO, 7, none⟩ = some (.slice a2.o m2.mach.tags.owns.length a2.oc) ∧ w'.cell? ⟨gO, 8, none⟩ = some (.int .i64 m2.mach.space) ∧ w'.cell? ⟨gO, 9, none⟩ = some (.slice K2 m2.marks.length k2) ∧ w'.cell? ⟨gO, 10, none⟩ = some (.int .i64 m2.hand)))) (by kernel_rfl) ?r1_hS0 (fun hHeld => ?_)
 case r1_hS0 => exact FKO.out _ (Chg.refl _ _ _).drew
 refine tk 0 ?_; refine tk 1 ?_; refine tk 2 ?_; refine tk 3 ?_; refine tk 4 ?_
 refine wpAnyH_ready (rs := [5]) (by kernel_rfl) (by simp) ?_
 refine AllReadyH.cons (o := ?r1_o5) ?r1_ho5 (fun K hK => ?_) AllReadyH.nil
 case r1_ho5 => (conv => lhs; whnf; arg 1; whnf)
 refine step_call_gu rfl CE0.out _ _ rfl #[.pointer (some ⟨g, 0, none⟩), .agg #[.slice a2.b m2.mach.table.buckets.length a2.bc, .slice a2.f m2.mach.table.frames.length a2.fc, .slice a2.l m2.mach.cache.lines.length a2.lc, .int .i64 m2.mach.cache.hand, .int .i64 m2.mach.tags.count, .int .i64 m2.mach.tags.next, .int .i64 m2.mach.tags.round, .slice a2.o m2.mach.tags.owns.length a2.oc, .int .i64 m2.mach.space, .slice K2 m2.marks.length k2, .int .i64 m2.hand]] rfl (l7Wrong_c g p2 _ 16 m2 a2 K2 k2 _ (Rdr.drew HRD.out) (by omega) HM2.out (by omega) (HME.out _ (Chg.refl _ _ _).drew)) ?_; rintro r w3 ⟨m3, a3, K3, k3, p3, rfl, hm3, hf3, hr3, hp3, hg3⟩; refine ⟨_, rfl, ?_⟩; have hC3 : Chg g (g + 1) wc w3 := Chg.trans (Chg.refl _ _ _).drew (Chg.of_grown hg3 HGR.out); have hs3 := hg3.size
 refine hK.out _ _ ?r1_hS5 (fun hHeld5 => ?_)
 case r1_hS5 => exact FKO.out _ hC3
 clear hK K hHeld
 try simp only [Act.put, List.setIfInBounds_toArray, List.set_cons_zero, List.set_cons_succ]
 refine wpAnyH_ready (rs := [6]) (by kernel_rfl) (by simp) ?_
 refine AllReadyH.cons (o := ?r1_o6) ?r1_ho6 (fun K hK => ?_) AllReadyH.nil
 case r1_ho6 => (conv => lhs; whnf; arg 1; whnf)
 refine step_call_gu rfl CE0.out _ _ rfl #[.pointer (some ⟨g, 0, none⟩), .agg #[.slice a3.b m3.mach.table.buckets.length a3.bc, .slice a3.f m3.mach.table.frames.length a3.fc, .slice a3.l m3.mach.cache.lines.length a3.lc, .int .i64 m3.mach.cache.hand, .int .i64 m3.mach.tags.count, .int .i64 m3.mach.tags.next, .int .i64 m3.mach.tags.round, .slice a3.o m3.mach.tags.owns.length a3.oc, .int .i64 m3.mach.space, .slice K3 m3.marks.length k3, .int .i64 m3.hand]] rfl (l7Wrong_c g p3 _ 22 m3 a3 K3 k3 _ hr3 (by omega) hm3 (by omega) hf3) ?_; rintro r w4 ⟨m4, a4, K4, k4, p4, rfl, hm4, hf4, hr4, hp4, hg4⟩; refine ⟨_, rfl, ?_⟩; have hC4 : Chg g (g + 1) wc w4 := Chg.trans hC3 (Chg.of_grown hg4 HGR.out); have hs4 := hg4.size
 refine hK.out _ _ ?r1_hS6 (fun hHeld6 => ?_)
 case r1_hS6 => exact FKO.out _ hC4
 clear hK K hHeld5
 try simp only [Act.put, List.setIfInBounds_toArray, List.set_cons_zero, List.set_cons_succ]
 refine wpAnyH_ready (rs := [7]) (by kernel_rfl) (by simp) ?_
 refine AllReadyH.cons (o := ?r1_o7) ?r1_ho7 (fun K hK => ?_) AllReadyH.nil
 case r1_ho7 => (conv => lhs; whnf; arg 1; whnf)
 refine step_call_gu rfl CE0.out _ _ rfl #[.pointer (some ⟨g, 0, none⟩), .agg #[.slice a4.b m4.mach.table.buckets.length a4.bc, .slice a4.f m4.mach.table.frames.length a4.fc, .slice a4.l m4.mach.cache.lines.length a4.lc, .int .i64 m4.mach.cache.hand, .int .i64 m4.mach.tags.count, .int .i64 m4.mach.tags.next, .int .i64 m4.mach.tags.round, .slice a4.o m4.mach.tags.owns.length a4.oc, .int .i64 m4.mach.space, .slice K4 m4.marks.length k4, .int .i64 m4.hand]] rfl (l7Wrong_c g p4 _ 28 m4 a4 K4 k4 _ hr4 (by omega) hm4 (by omega) hf4) ?_; rintro r w5 ⟨m5, a5, K5, k5, p5, rfl, hm5, hf5, hr5, hp5, hg5⟩; refine ⟨_, rfl, ?_⟩; have hC5 : Chg g (g + 1) wc w5 := Chg.trans hC4 (Chg.of_grown hg5 HGR.out); have hs5 := hg5.size
 refine hK.out _ _ ?r1_hS7 (fun hHeld7 => ?_)
 case r1_hS7 => exact FKO.out _ hC5
 clear hK K hHeld6
 try simp only [Act.put, List.setIfInBounds_toArray, List.set_cons_zero, List.set_cons_succ]
 refine wpAnyH_ready (rs := [8]) (by kernel_rfl) (by simp) ?_
 refine AllReadyH.cons (o := ?r1_o8) ?r1_ho8 (fun K hK => ?_) AllReadyH.nil
 case r1_ho8 => (conv => lhs; whnf; arg 1; whnf)
 have hO := KO.out.chg hC5 (by omega); have hR := KR.out.chg hC5 (by omega); have hQ := KQ.out.chg hC5 (by omega); obtain ⟨o0, o1, o2, o3, o4, o5, o6, o7, o8, o9, o10⟩ := hO.c11; have ol := hO.lt; obtain ⟨r0, r1, r2, r3, r4, r5, r6, r7, r8, r9, r10⟩ := hR.c11; have rz := hR.frozen; have rl := hR.lt; obtain ⟨u0, u1, u2, u3, u4, u5, u6, u7, u8, u9, u10⟩ := hQ.c11; have uz := hQ.frozen; have ul := hQ.lt; go_simp
 refine hK.out _ _ ?r1_hS8 (fun hHeld8 => ?_)
 case r1_hS8 => exact (by refine Blk.c11 (t := 37) ?_; repeat' (first | with_reducible exact hO | with_reducible refine Blk.drew ?_ | with_reducible refine Blk.far ?_ (by first | (simp; done) | (simp; omega)) _))
 clear hK K hHeld7
 try simp only [Act.put, List.setIfInBounds_toArray, List.set_cons_zero, List.set_cons_succ]
 refine wpAnyH_ready (rs := [9]) (by kernel_rfl) (by simp) ?_
 refine AllReadyH.cons (o := ?r1_o9) ?r1_ho9 (fun K hK => ?_) AllReadyH.nil
 case r1_ho9 => (conv => lhs; whnf; arg 1; whnf)
 go_simp
 refine hK.out _ _ ?r1_hS9 (fun hHeld9 => ?_)
 case r1_hS9 => exact (by refine Blk.c11 (t := 37) ?_; repeat' (first | with_reducible exact hO | with_reducible refine Blk.drew ?_ | with_reducible refine Blk.far ?_ (by first | (simp; done) | (simp; omega)) _))
 clear hK K hHeld8
 try simp only [Act.put, List.setIfInBounds_toArray, List.set_cons_zero, List.set_cons_succ]
 refine wpAnyH_done (by kernel_rfl) ?_ _
 have HF5 : Hid (FrE w5 w.heap.size m5 a5 K5 k5) := zq (hf5.mono (by have := hC4.size; omega))
 have HF2 : Hid (FrE w5 w.heap.size m2 a2 K2 k2) := zq ((HME.out _ hC5).mono (by omega))
 have HM5 := zq hm5
 have EX5 : Hid (Ex w w5) := zq (EX.out.chg hC5 (by omega))
 have HPa : Hid ((∀ y, rowOf a5.b a5.bc = some y → y ≠ w.heap.size) ∧ (∀ y, rowOf a5.b a5.bc = some y → y ≠ w.heap.size + 1)) := zq ⟨HF5.out.m.b.off hR (by decide), HF5.out.m.b.off hQ (by decide)⟩
 have HPb : Hid ((∀ y, rowOf a5.f a5.fc = some y → y ≠ w.heap.size) ∧ (∀ y, rowOf a5.f a5.fc = some y → y ≠ w.heap.size + 1)) := zq ⟨HF5.out.m.f.off hR (by decide), HF5.out.m.f.off hQ (by decide)⟩
 have HPc : Hid ((∀ y, rowOf a5.l a5.lc = some y → y ≠ w.heap.size) ∧ (∀ y, rowOf a5.l a5.lc = some y → y ≠ w.heap.size + 1)) := zq ⟨HF5.out.m.l.off hR (by decide), HF5.out.m.l.off hQ (by decide)⟩
 have HPd : Hid ((∀ y, rowOf a5.o a5.oc = some y → y ≠ w.heap.size) ∧ (∀ y, rowOf a5.o a5.oc = some y → y ≠ w.heap.size + 1)) := zq ⟨HF5.out.m.o.off hR (by decide), HF5.out.m.o.off hQ (by decide)⟩
 have HPe : Hid ((∀ y, rowOf K5 k5 = some y → y ≠ w.heap.size) ∧ (∀ y, rowOf K5 k5 = some y → y ≠ w.heap.size + 1)) := zq ⟨HF5.out.k.off hR (by decide), HF5.out.k.off hQ (by decide)⟩
 have HTa : Hid ((∀ y, rowOf a2.b a2.bc = some y → y ≠ w.heap.size) ∧ (∀ y, rowOf a2.b a2.bc = some y → y ≠ w.heap.size + 1)) := zq ⟨HF2.out.m.b.off hR (by decide), HF2.out.m.b.off hQ (by decide)⟩
 have HTb : Hid ((∀ y, rowOf a2.f a2.fc = some y → y ≠ w.heap.size) ∧ (∀ y, rowOf a2.f a2.fc = some y → y ≠ w.heap.size + 1)) := zq ⟨HF2.out.m.f.off hR (by decide), HF2.out.m.f.off hQ (by decide)⟩
 have HTc : Hid ((∀ y, rowOf a2.l a2.lc = some y → y ≠ w.heap.size) ∧ (∀ y, rowOf a2.l a2.lc = some y → y ≠ w.heap.size + 1)) := zq ⟨HF2.out.m.l.off hR (by decide), HF2.out.m.l.off hQ (by decide)⟩
 have HTd : Hid ((∀ y, rowOf a2.o a2.oc = some y → y ≠ w.heap.size) ∧ (∀ y, rowOf a2.o a2.oc = some y → y ≠ w.heap.size + 1)) := zq ⟨HF2.out.m.o.off hR (by decide), HF2.out.m.o.off hQ (by decide)⟩
 have HTe : Hid ((∀ y, rowOf K2 k2 = some y → y ≠ w.heap.size) ∧ (∀ y, rowOf K2 k2 = some y → y ≠ w.heap.size + 1)) := zq ⟨HF2.out.k.off hR (by decide), HF2.out.k.off hQ (by decide)⟩
 clear hHeld9 hO hR hQ hf3 hf4 hf5 hm3 hm4 hm5 hr3 hr4 hr5 hg3 hg4 hg5 hC3 hC4 hC5 o0 o1 o2 o3 o4 o5 o6 o7 o8 o9 o10 ol
 go_wp2
 exact bodyPost_ret (v := .tuple #[.agg #[.slice a2.b m2.mach.table.buckets.length a2.bc, .slice a2.f m2.mach.table.frames.length a2.fc, .slice a2.l m2.mach.cache.lines.length a2.lc, .int .i64 m2.mach.cache.hand, .int .i64 m2.mach.tags.count, .int .i64 m2.mach.tags.next, .int .i64 m2.mach.tags.round, .slice a2.o m2.mach.tags.owns.length a2.oc, .int .i64 m2.mach.space, .slice K2 m2.marks.length k2, .int .i64 m2.hand], .agg #[.slice a5.b m5.mach.table.buckets.length a5.bc, .slice a5.f m5.mach.table.frames.length a5.fc, .slice a5.l m5.mach.cache.lines.length a5.lc, .int .i64 m5.mach.cache.hand, .int .i64 m5.mach.tags.count, .int .i64 m5.mach.tags.next, .int .i64 m5.mach.tags.round, .slice a5.o m5.mach.tags.owns.length a5.oc, .int .i64 m5.mach.space, .slice K5 m5.marks.length k5, .int .i64 m5.hand]]) (by simp [results, Tryz.results9, go_sem, *]) rfl
  ⟨m2, m5, a2, K2, k2, a5, K5, k5, rfl, HM2.out.mono (by omega), HM5.out.mono (by omega), ⟨⟨(zt HF2.out.m.b HTa.out.1 HTa.out.2), (zt HF2.out.m.f HTb.out.1 HTb.out.2), (zt HF2.out.m.l HTc.out.1 HTc.out.2), (zt HF2.out.m.o HTd.out.1 HTd.out.2)⟩, (zt HF2.out.k HTe.out.1 HTe.out.2)⟩, ⟨⟨(zt HF5.out.m.b HPa.out.1 HPa.out.2), (zt HF5.out.m.f HPb.out.1 HPb.out.2), (zt HF5.out.m.l HPc.out.1 HPc.out.2), (zt HF5.out.m.o HPd.out.1 HPd.out.2)⟩, (zt HF5.out.k HPe.out.1 HPe.out.2)⟩, (ze EX5.out)⟩

set_option maxHeartbeats 8000000 in
theorem memI_c (x : MemD) (a : MA) (K : Option Addr) (kc : Nat) (w : World) (hx : HasE w x a K) (hf : FewE x) (hc : CapE x a kc) (hv : FreeV w) :
  Calls Tryz.prog 8 #[.agg #[.slice a.b x.mach.table.buckets.length a.bc, .slice a.f x.mach.table.frames.length a.fc, .slice a.l x.mach.cache.lines.length a.lc, .int .i64 x.mach.cache.hand, .int .i64 x.mach.tags.count, .int .i64 x.mach.tags.next, .int .i64 x.mach.tags.round, .slice a.o x.mach.tags.owns.length a.oc, .int .i64 x.mach.space, .slice K x.marks.length kc, .int .i64 x.hand]] w fun r w' => r = .returned (.bool (memV x)) ∧ Ex w w' := by
 obtain ⟨A, c, B, d, L, e, O, g⟩ := a
 have HM : Hid (HasM w x.mach ⟨A, c, B, d, L, e, O, g⟩) := zq hx.m
 have HF : Hid (Rd w B x.mach.table.frames) := zq hx.m.f
 have HK : Hid (Rd w K x.marks) := zq hx.k
 have HV := zq hv
 have C1 := zq (fun w' (h : HasM w' x.mach ⟨A, c, B, d, L, e, O, g⟩) (h3 : FreeV w') => machI_c x.mach ⟨A, c, B, d, L, e, O, g⟩ w' h hf.m hc.m h3)
 dsimp only at C1 ⊢
 have hfn := hf.m.f
 have hfk := hf.k
 clear hx hf hc hv
 have HNO : Hid (∀ w', Ex w w' → ¬ MemOk x → (Ending.returned (.bool false) = .returned (.bool (memV x)) ∧ Ex w w')) := zq (fun w' h1 h2 => ⟨ret_bool (memV_no h2).symm, h1⟩)
 cases h1 : machV x.mach
 ·rw [h1] at C1
  have HBAD : Hid (¬ MemOk x) := zq (fun h => by have := machV_yes h.1; rw [h1] at this; cases this)
  clear h1
  generalize x.mach.table.frames.length = n at C1 ⊢
  generalize x.mach.table.buckets.length = nb at C1 ⊢
  generalize x.mach.cache.lines.length = nl at C1 ⊢
  generalize x.mach.tags.owns.length = no at C1 ⊢
  generalize x.marks.length = nm
  go_enter Tryz.func8, Tryz.ntmps8
  go_wp2_with fail
  have K0 : Hid (Blk (w.alloc (.cells #[.slice A nb c, .slice B n d, .slice L nl e, .int .i64 x.mach.cache.hand, .int .i64 x.mach.tags.count, .int .i64 x.mach.tags.next, .int .i64 x.mach.tags.round, .slice O no g, .int .i64 x.mach.space, .slice K nm kc, .int .i64 x.hand] 37)) w.heap.size 37 [.slice A nb c, .slice B n d, .slice L nl e, .int .i64 x.mach.cache.hand, .int .i64 x.mach.tags.count, .int .i64 x.mach.tags.next, .int .i64 x.mach.tags.round, .slice O no g, .int .i64 x.mach.space, .slice K nm kc, .int .i64 x.hand]) := zq (Blk.new w _ _)
  have E0 : Hid (Ex w (w.alloc (.cells #[.slice A nb c, .slice B n d, .slice L nl e, .int .i64 x.mach.cache.hand, .int .i64 x.mach.tags.count, .int .i64 x.mach.tags.next, .int .i64 x.mach.tags.round, .slice O no g, .int .i64 x.mach.space, .slice K nm kc, .int .i64 x.hand] 37))) := zq ((Ex.refl w).alloc _)
  refine (C1.out _ (HM.out.ex E0.out) (HV.out.ex E0.out)).mono ?_
  rintro r w1 ⟨rfl, he1⟩
  have E1 := zq (E0.out.trans he1)
  have K1 := zq (K0.out.ex he1)
  clear he1 E0 K0
  obtain ⟨q0, q1, q2, q3, q4, q5, q6, q7, q8, q9, q10⟩ := K1.out.c11
  have jM := K1.out.lt
  go_wp2
  go_ret
  exact HNO.out _ E1.out HBAD.out
 rw [h1] at C1
 have HMV : Hid (MachOk x.mach) := zq (machV_iff.1 h1)
 clear h1
 by_cases hl : x.marks.length = x.mach.table.frames.length
 rotate_left
 ·have HBAD : Hid (¬ MemOk x) := zq (fun h => hl h.2.1)
  generalize x.mach.table.frames.length = n at C1 hl hfn ⊢
  generalize x.mach.table.buckets.length = nb at C1 ⊢
  generalize x.mach.cache.lines.length = nl at C1 ⊢
  generalize x.mach.tags.owns.length = no at C1 ⊢
  generalize x.marks.length = nm at hl hfk ⊢
  have hbb : ((nm : Int) == (n : Int)) = false := by simp; omega
  have hbn : ((nm : Int) != (n : Int)) = true := by simp; omega
  have hbm : (!((nm : Int) == (n : Int))) = true := by simp; omega
  have hbk : ¬ ((nm : Int) = (n : Int)) := by omega
  go_enter Tryz.func8, Tryz.ntmps8
  go_wp2_with fail
  have K0 : Hid (Blk (w.alloc (.cells #[.slice A nb c, .slice B n d, .slice L nl e, .int .i64 x.mach.cache.hand, .int .i64 x.mach.tags.count, .int .i64 x.mach.tags.next, .int .i64 x.mach.tags.round, .slice O no g, .int .i64 x.mach.space, .slice K nm kc, .int .i64 x.hand] 37)) w.heap.size 37 [.slice A nb c, .slice B n d, .slice L nl e, .int .i64 x.mach.cache.hand, .int .i64 x.mach.tags.count, .int .i64 x.mach.tags.next, .int .i64 x.mach.tags.round, .slice O no g, .int .i64 x.mach.space, .slice K nm kc, .int .i64 x.hand]) := zq (Blk.new w _ _)
  have E0 : Hid (Ex w (w.alloc (.cells #[.slice A nb c, .slice B n d, .slice L nl e, .int .i64 x.mach.cache.hand, .int .i64 x.mach.tags.count, .int .i64 x.mach.tags.next, .int .i64 x.mach.tags.round, .slice O no g, .int .i64 x.mach.space, .slice K nm kc, .int .i64 x.hand] 37))) := zq ((Ex.refl w).alloc _)
  refine (C1.out _ (HM.out.ex E0.out) (HV.out.ex E0.out)).mono ?_
  rintro r w1 ⟨rfl, he1⟩
  have E1 := zq (E0.out.trans he1)
  have K1 := zq (K0.out.ex he1)
  clear he1 E0 K0
  obtain ⟨q0, q1, q2, q3, q4, q5, q6, q7, q8, q9, q10⟩ := K1.out.c11
  have jM := K1.out.lt
  go_wp2
  go_ret
  exact HNO.out _ E1.out HBAD.out
 have CW := zq (fun w => within_c x.hand (x.mach.table.frames.length : Int) w)
 by_cases hh : 0 ≤ x.hand ∧ x.hand < x.marks.length
 rotate_left
 ·have HBAD : Hid (¬ MemOk x) := zq (fun h => hh h.2.2.1)
  rw [hl] at hh ⊢
  rw [show inB x.hand (x.mach.table.frames.length : Int) = false from by cases h : inB x.hand (x.mach.table.frames.length : Int); rfl; exact absurd (inB_true.1 h) hh] at CW
  generalize x.mach.table.frames.length = n at C1 CW ⊢
  generalize x.mach.table.buckets.length = nb at C1 ⊢
  generalize x.mach.cache.lines.length = nl at C1 ⊢
  generalize x.mach.tags.owns.length = no at C1 ⊢
  clear hh hl
  go_enter Tryz.func8, Tryz.ntmps8
  go_wp2_with fail
  have K0 : Hid (Blk (w.alloc (.cells #[.slice A nb c, .slice B n d, .slice L nl e, .int .i64 x.mach.cache.hand, .int .i64 x.mach.tags.count, .int .i64 x.mach.tags.next, .int .i64 x.mach.tags.round, .slice O no g, .int .i64 x.mach.space, .slice K n kc, .int .i64 x.hand] 37)) w.heap.size 37 [.slice A nb c, .slice B n d, .slice L nl e, .int .i64 x.mach.cache.hand, .int .i64 x.mach.tags.count, .int .i64 x.mach.tags.next, .int .i64 x.mach.tags.round, .slice O no g, .int .i64 x.mach.space, .slice K n kc, .int .i64 x.hand]) := zq (Blk.new w _ _)
  have E0 : Hid (Ex w (w.alloc (.cells #[.slice A nb c, .slice B n d, .slice L nl e, .int .i64 x.mach.cache.hand, .int .i64 x.mach.tags.count, .int .i64 x.mach.tags.next, .int .i64 x.mach.tags.round, .slice O no g, .int .i64 x.mach.space, .slice K n kc, .int .i64 x.hand] 37))) := zq ((Ex.refl w).alloc _)
  refine (C1.out _ (HM.out.ex E0.out) (HV.out.ex E0.out)).mono ?_
  rintro r w1 ⟨rfl, he1⟩
  have E1 := zq (E0.out.trans he1)
  have K1 := zq (K0.out.ex he1)
  clear he1 E0 K0
  obtain ⟨q0, q1, q2, q3, q4, q5, q6, q7, q8, q9, q10⟩ := K1.out.c11
  have jM := K1.out.lt
  go_wp2_with fail
  refine (CW.out _).mono ?_
  rintro r w2 ⟨rfl, rfl⟩
  go_wp2
  go_ret
  exact HNO.out _ E1.out HBAD.out
 rw [inB_true.2 (by rw [hl] at hh; exact hh)] at CW
 have HHH := zq hh
 have HLL := zq hl
 obtain ⟨n, en⟩ : ∃ n, n = x.mach.table.frames.length := ⟨_, rfl⟩
 have HN := zq en
 rw [hl] at hh hfk ⊢
 rw [← en] at C1 hh hl hfn hfk CW ⊢
 have hh2 : ¬ (n : Int) ≤ x.hand := by omega
 generalize x.mach.table.buckets.length = nb at C1 ⊢
 generalize x.mach.cache.lines.length = nl at C1 ⊢
 generalize x.mach.tags.owns.length = no at C1 ⊢
 clear en
 go_enter Tryz.func8, Tryz.ntmps8
 go_wp2_with fail
 have K0 : Hid (Blk (w.alloc (.cells #[.slice A nb c, .slice B n d, .slice L nl e, .int .i64 x.mach.cache.hand, .int .i64 x.mach.tags.count, .int .i64 x.mach.tags.next, .int .i64 x.mach.tags.round, .slice O no g, .int .i64 x.mach.space, .slice K n kc, .int .i64 x.hand] 37)) w.heap.size 37 [.slice A nb c, .slice B n d, .slice L nl e, .int .i64 x.mach.cache.hand, .int .i64 x.mach.tags.count, .int .i64 x.mach.tags.next, .int .i64 x.mach.tags.round, .slice O no g, .int .i64 x.mach.space, .slice K n kc, .int .i64 x.hand]) := zq (Blk.new w _ _)
 have E0 : Hid (Ex w (w.alloc (.cells #[.slice A nb c, .slice B n d, .slice L nl e, .int .i64 x.mach.cache.hand, .int .i64 x.mach.tags.count, .int .i64 x.mach.tags.next, .int .i64 x.mach.tags.round, .slice O no g, .int .i64 x.mach.space, .slice K n kc, .int .i64 x.hand] 37))) := zq ((Ex.refl w).alloc _)
 refine (C1.out _ (HM.out.ex E0.out) (HV.out.ex E0.out)).mono ?_
 rintro r w1 ⟨rfl, he1⟩
 have E1 := zq (E0.out.trans he1)
 have K1 := zq (K0.out.ex he1)
 clear he1 E0 K0
 obtain ⟨q0, q1, q2, q3, q4, q5, q6, q7, q8, q9, q10⟩ := K1.out.c11
 have jM := K1.out.lt
 go_wp2_with fail
 refine (CW.out _).mono ?_
 rintro r w2 ⟨rfl, rfl⟩
 clear CW
 go_wp2
 clear q0 q1 q2 q3 q4 q5 q6 q7 q8 q9 q10 jM C1
 go_loopw [33] (fun i wr => ∃ k : Nat, k ≤ n ∧ i = .int .i64 k ∧ Ex w1 wr ∧ ∀ (j : Nat) (f : FrameD), j < k → x.marks[j]? = some true → x.mach.table.frames[j]? = some f → f.used = true) (fun i _ => n - (intOf i).toNat)
 case atStart => exact ⟨0, Nat.zero_le _, rfl, Ex.refl _, fun j f hj => by omega⟩
 case round =>
  obtain ⟨k, hk, rfl, hq, hall⟩ := hrel
  have HQ := zq (E1.out.trans hq)
  have HQ1 := zq hq
  have HALL := zq hall
  have KQ := zq (K1.out.ex hq)
  clear hq hall
  obtain ⟨q0, q1, q2, q3, q4, q5, q6, q7, q8, q9, q10⟩ := KQ.out.c11
  have jM := KQ.out.lt
  by_cases hlt : k < n
  ·obtain ⟨b5, o5, v, rfl, hb5, hvk, hcv⟩ := (HK.out.ex HQ.out).bool (k := k) (by have := HN.out; have := HLL.out; omega)
   obtain ⟨b2, o2, f, rfl, hb2, hfi, k0, k1, k2, k3, k4⟩ := (HF.out.ex HQ.out).frame (k := k) (by have := HN.out; omega)
   have HVK := zq hvk
   have HFI := zq hfi
   have HNEXT : Hid ((v = true → f.used = true) → ∀ (j : Nat) (f : FrameD), j < k + 1 → x.marks[j]? = some true → x.mach.table.frames[j]? = some f → f.used = true) := zq (fun hh j h hj h1 h2 => by
    by_cases e : j = k
    ·subst e
     rw [HVK.out] at h1
     rw [HFI.out] at h2
     injection h1 with h1
     injection h2 with h2
     rw [← h2]; exact hh h1
    ·exact HALL.out j h (by omega) h1 h2)
   clear hvk hfi
   cases v
   ·have HFF := zq (HNEXT.out (fun h => by cases h))
    go_wp2
    go_roundw
    case rel => exact ⟨k + 1, by omega, by go_num, HQ1.out, HFF.out⟩
    case measure => simp [intOf]; omega
   cases hu : f.used
   ·rw [hu] at k0
    have HBAD : Hid (¬ MemOk x) := zq (fun h => by have := h.2.2.2 k f HVK.out HFI.out; rw [hu] at this; cases this)
    clear hu
    go_wp2
    go_ret
    exact HNO.out _ HQ.out HBAD.out
   ·rw [hu] at k0
    have HFF := zq (HNEXT.out (fun _ => hu))
    clear hu
    go_wp2
    go_roundw
    case rel => exact ⟨k + 1, by omega, by go_num, HQ1.out, HFF.out⟩
    case measure => simp [intOf]; omega
  ·obtain rfl : k = n := by omega
   go_wp2
   go_ret
   exact ⟨ret_bool (memV_iff.2 ⟨HMV.out, HLL.out, HHH.out, fun i f h1 h2 => HALL.out i f (by have := getElem?_lt h2; have := HN.out; omega) h1 h2⟩).symm, HQ.out⟩

end Go.Proofs.YtbdlpbladpppjaaGreatDoor
