/- Joined: Uf, Ug. -/
import Derived.Test.YtbdlpbladpppjaaGreatDoorK18
import Derived.Test.YtbdlpbladpppjaaGreatDoorK10
import Derived.Test.YtbdlpbladpppjaaGreatDoorK3
namespace Go.Proofs.YtbdlpbladpppjaaGreatDoor
open Go.ChangeShapes Go.WideShapes Go.ChangeAt Go.RowKit
open Rec (sz cs)
set_option linter.unusedVariables false
set_option maxRecDepth 100000

/-- What UsePage hands back. -/
def UsedP (w : World) (e : Ending) (w' : World) : Prop := ∃ (q : MemD) (fr oc : Int) (ok : Bool) (a : MA) (K : Option Addr) (kc : Nat), e = .returned (.tuple #[.agg #[.slice a.b q.mach.table.buckets.length a.bc, .slice a.f q.mach.table.frames.length a.fc, .slice a.l q.mach.cache.lines.length a.lc, .int .i64 q.mach.cache.hand, .int .i64 q.mach.tags.count, .int .i64 q.mach.tags.next, .int .i64 q.mach.tags.round, .slice a.o q.mach.tags.owns.length a.oc, .int .i64 q.mach.space, .slice K q.marks.length kc, .int .i64 q.hand], .int .i64 fr, .int .i64 oc, .bool ok]) ∧ (ok = true → MemOk q ∧ 0 ≤ oc ∧ oc < 5) ∧ FrE w' w.heap.size q a K kc ∧ Ex w w'

set_option maxHeartbeats 16000000 in
theorem useS_c (x : MemD) (a : MA) (K : Option Addr) (kc : Nat) (page need rights : Int) (w : World) (h : MemOk x) (hx : HasE w x a K) (hc : CapE x a kc) (hk : CapX a) (hkk : kc ≤ maxLen) (hp : 0 ≤ page ∧ page < 256) (hn : 0 ≤ need ∧ need < 8) (hr : 0 ≤ rights ∧ rights < 8) :
  Calls Tryz.prog 64 #[.agg #[.slice a.b x.mach.table.buckets.length a.bc, .slice a.f x.mach.table.frames.length a.fc, .slice a.l x.mach.cache.lines.length a.lc, .int .i64 x.mach.cache.hand, .int .i64 x.mach.tags.count, .int .i64 x.mach.tags.next, .int .i64 x.mach.tags.round, .slice a.o x.mach.tags.owns.length a.oc, .int .i64 x.mach.space, .slice K x.marks.length kc, .int .i64 x.hand], .int .i64 page, .int .i64 need, .int .i64 rights] w (UsedP w) := by
 have C1 := zq (fun w' (e1 : Ex w w') => memS_c x a K kc w' (hx.ex e1) h.fewE hc)
 rw [memV_iff.2 h] at C1
 have C2 : Hid (∀ w, Calls Tryz.prog 95 #[.int .i64 page] w (fun r w' => r = .returned (.bool true) ∧ Ex w w')) := zq (fun w => (l1Page_c page w).mono (by rintro r w' ⟨h, rfl⟩; rw [inB_true.2 hp] at h; exact ⟨h, Ex.refl _⟩))
 have C3 : Hid (∀ w, Calls Tryz.prog 96 #[.int .i64 need] w (fun r w' => r = .returned (.bool true) ∧ Ex w w')) := zq (fun w => (rightsS_c need w).mono (by rintro r w' ⟨h, rfl⟩; rw [inB_true.2 hn] at h; exact ⟨h, Ex.refl _⟩))
 have C4 : Hid (∀ w, Calls Tryz.prog 96 #[.int .i64 rights] w (fun r w' => r = .returned (.bool true) ∧ Ex w w')) := zq (fun w => (rightsS_c rights w).mono (by rintro r w' ⟨h, rfl⟩; rw [inB_true.2 hr] at h; exact ⟨h, Ex.refl _⟩))
 have C5 := zq (fun w' (e1 : Ex w w') => l7Copy_c x a K kc w' (hx.ex e1) h.fewE hc hk hkk)
 unfold MemIs at C5
 have CKF := zq (fun w' => keyForS_c x.mach.space page w')
 have hko := keyFor_keyOk h.1 hp
 have HBR := zq (fun (hn : findF x.mach.table (keyFor x.mach.space page) < 0) w' (e1 : Ex w w') => bringS_c x a K kc page rights w' h (hx.ex e1) hc hk hkk hp hr hn)
 have HP := zq hp; have HN := zq hn; have HH := zq h
 obtain ⟨ky, hky⟩ : ∃ ky, ky = keyFor x.mach.space page := ⟨_, rfl⟩
 have HKY := zq hky
 rw [← hky] at hko CKF HBR
 have CLF := zq (fun w' (e1 : Ex w w') => l3Find_c x.mach.table a.b a.bc a.f a.fc ky w' (hx.m.b.ex e1) (hx.m.f.ex e1) h.1.1.1 hko)
 unfold Brought at HBR
 have CE0 : Hid (∀ (args : Array Value) (w : World), (callFunc 80 args).run Tryz.prog w = .ok (.enter 80 args) w) := zq (enters Tryz.func80 (by kernel_rfl) (by kernel_rfl))
 have CE1 : Hid (∀ (args : Array Value) (w : World), (callFunc 79 args).run Tryz.prog w = .ok (.enter 79 args) w) := zq (enters Tryz.func79 (by kernel_rfl) (by kernel_rfl))
 obtain ⟨FV, hFV⟩ : ∃ v : Int, v = findF x.mach.table ky := ⟨_, rfl⟩
 have HFV := zq hFV
 rw [← hFV] at CLF HBR
 clear hky hFV hko h hx hc hk hkk hp hn hr
 go_enter Tryz.func64, Tryz.ntmps64
 go_wp2_with fail
 refine name_calls ?_; intro v1 hv1
 have X1 : Hid (Chg (0) (0) w v1) := zx hv1
 have t1 := X1.out.size
 have Ev1 := zq ((Ex.refl w).chg X1.out (by omega))
 have KX : Hid (Blk v1 (w.heap.size) 37 [.slice a.b x.mach.table.buckets.length a.bc, .slice a.f x.mach.table.frames.length a.fc, .slice a.l x.mach.cache.lines.length a.lc, .int .i64 x.mach.cache.hand, .int .i64 x.mach.tags.count, .int .i64 x.mach.tags.next, .int .i64 x.mach.tags.round, .slice a.o x.mach.tags.owns.length a.oc, .int .i64 x.mach.space, .slice K x.marks.length kc, .int .i64 x.hand]) := zk hv1
 have lX : w.heap.size < v1.heap.size := KX.out.lt
 have KR : Hid (Blk v1 (w.heap.size + 1) 37 [.slice none 0 0, .slice none 0 0, .slice none 0 0, .int .i64 0, .int .i64 0, .int .i64 0, .int .i64 0, .slice none 0 0, .int .i64 0, .slice none 0 0, .int .i64 0]) := zk hv1
 have lR : w.heap.size + 1 < v1.heap.size := KR.out.lt
 clear hv1
 refine (C1.out _ Ev1.out).mono ?_; rintro r w1 ⟨rfl, hb1⟩
 have Y1 := zq (Chg.of_ex hb1)
 have s1 := Y1.out.size
 have Ew1 := zq (Ev1.out.chg Y1.out (by omega))
 clear hb1
 replace KX := zq (KX.out.chg Y1.out (by omega))
 replace KR := zq (KR.out.chg Y1.out (by omega))
 obtain ⟨qX0, qX1, qX2, qX3, qX4, qX5, qX6, qX7, qX8, qX9, qX10⟩ := KX.out.c11
 have jX := KX.out.lt
 obtain ⟨qR0, qR1, qR2, qR3, qR4, qR5, qR6, qR7, qR8, qR9, qR10⟩ := KR.out.c11
 have jR := KR.out.lt
 have zR := KR.out.frozen
 go_wp2_with fail
 refine name_calls ?_; intro v2 hv2
 have X2 : Hid (Chg (0) (0) w1 v2) := zx hv2
 have t2 := X2.out.size
 have Ev2 := zq (Ew1.out.chg X2.out (by omega))
 clear qX0 qX1 qX2 qX3 qX4 qX5 qX6 qX7 qX8 qX9 qX10 jX
 clear qR0 qR1 qR2 qR3 qR4 qR5 qR6 qR7 qR8 qR9 qR10 jR zR
 replace KX := zq (KX.out.chg X2.out (by omega))
 replace KR := zq (KR.out.chg X2.out (by omega))
 clear hv2
 refine (C2.out _).mono ?_; rintro r w2 ⟨rfl, hb2⟩
 have Y2 := zq (Chg.of_ex hb2)
 have s2 := Y2.out.size
 have Ew2 := zq (Ev2.out.chg Y2.out (by omega))
 clear hb2
 replace KX := zq (KX.out.chg Y2.out (by omega))
 replace KR := zq (KR.out.chg Y2.out (by omega))
 obtain ⟨qX0, qX1, qX2, qX3, qX4, qX5, qX6, qX7, qX8, qX9, qX10⟩ := KX.out.c11
 have jX := KX.out.lt
 obtain ⟨qR0, qR1, qR2, qR3, qR4, qR5, qR6, qR7, qR8, qR9, qR10⟩ := KR.out.c11
 have jR := KR.out.lt
 have zR := KR.out.frozen
 go_wp2_with fail
 refine name_calls ?_; intro v3 hv3
 have X3 : Hid (Chg (0) (0) w2 v3) := zx hv3
 have t3 := X3.out.size
 have Ev3 := zq (Ew2.out.chg X3.out (by omega))
 clear qX0 qX1 qX2 qX3 qX4 qX5 qX6 qX7 qX8 qX9 qX10 jX
 clear qR0 qR1 qR2 qR3 qR4 qR5 qR6 qR7 qR8 qR9 qR10 jR zR
 replace KX := zq (KX.out.chg X3.out (by omega))
 replace KR := zq (KR.out.chg X3.out (by omega))
 clear hv3
 refine (C3.out _).mono ?_; rintro r w3 ⟨rfl, hb3⟩
 have Y3 := zq (Chg.of_ex hb3)
 have s3 := Y3.out.size
 have Ew3 := zq (Ev3.out.chg Y3.out (by omega))
 clear hb3
 replace KX := zq (KX.out.chg Y3.out (by omega))
 replace KR := zq (KR.out.chg Y3.out (by omega))
 obtain ⟨qX0, qX1, qX2, qX3, qX4, qX5, qX6, qX7, qX8, qX9, qX10⟩ := KX.out.c11
 have jX := KX.out.lt
 obtain ⟨qR0, qR1, qR2, qR3, qR4, qR5, qR6, qR7, qR8, qR9, qR10⟩ := KR.out.c11
 have jR := KR.out.lt
 have zR := KR.out.frozen
 go_wp2_with fail
 refine name_calls ?_; intro v4 hv4
 have X4 : Hid (Chg (0) (0) w3 v4) := zx hv4
 have t4 := X4.out.size
 have Ev4 := zq (Ew3.out.chg X4.out (by omega))
 clear qX0 qX1 qX2 qX3 qX4 qX5 qX6 qX7 qX8 qX9 qX10 jX
 clear qR0 qR1 qR2 qR3 qR4 qR5 qR6 qR7 qR8 qR9 qR10 jR zR
 replace KX := zq (KX.out.chg X4.out (by omega))
 replace KR := zq (KR.out.chg X4.out (by omega))
 clear hv4
 refine (C4.out _).mono ?_; rintro r w4 ⟨rfl, hb4⟩
 have Y4 := zq (Chg.of_ex hb4)
 have s4 := Y4.out.size
 have Ew4 := zq (Ev4.out.chg Y4.out (by omega))
 clear hb4
 replace KX := zq (KX.out.chg Y4.out (by omega))
 replace KR := zq (KR.out.chg Y4.out (by omega))
 obtain ⟨qX0, qX1, qX2, qX3, qX4, qX5, qX6, qX7, qX8, qX9, qX10⟩ := KX.out.c11
 have jX := KX.out.lt
 obtain ⟨qR0, qR1, qR2, qR3, qR4, qR5, qR6, qR7, qR8, qR9, qR10⟩ := KR.out.c11
 have jR := KR.out.lt
 have zR := KR.out.frozen
 go_wp2_with fail
 refine name_calls ?_; intro v5 hv5
 have X5 : Hid (Chg (0) (0) w4 v5) := zx hv5
 have t5 := X5.out.size
 have Ev5 := zq (Ew4.out.chg X5.out (by omega))
 clear qX0 qX1 qX2 qX3 qX4 qX5 qX6 qX7 qX8 qX9 qX10 jX
 clear qR0 qR1 qR2 qR3 qR4 qR5 qR6 qR7 qR8 qR9 qR10 jR zR
 replace KX := zq (KX.out.chg X5.out (by omega))
 replace KR := zq (KR.out.chg X5.out (by omega))
 clear hv5
 refine (C5.out _ Ev5.out).mono ?_; rintro r w5 ⟨aq, Kq, kq, rfl, hhe5, hb5⟩
 have Y5 := zq (Chg.of_ex hb5)
 have s5 := Y5.out.size
 have Ew5 := zq (Ev5.out.chg Y5.out (by omega))
 clear hb5
 replace KX := zq (KX.out.chg Y5.out (by omega))
 replace KR := zq (KR.out.chg Y5.out (by omega))
 have HHE5 := zq hhe5; clear hhe5
 obtain ⟨qX0, qX1, qX2, qX3, qX4, qX5, qX6, qX7, qX8, qX9, qX10⟩ := KX.out.c11
 have jX := KX.out.lt
 obtain ⟨qR0, qR1, qR2, qR3, qR4, qR5, qR6, qR7, qR8, qR9, qR10⟩ := KR.out.c11
 have jR := KR.out.lt
 have zR := KR.out.frozen
 have HKXS : Hid (Blk w5 w.heap.size 37 [.slice a.b x.mach.table.buckets.length a.bc, .slice a.f x.mach.table.frames.length a.fc, .slice a.l x.mach.cache.lines.length a.lc, .int .i64 x.mach.cache.hand, .int .i64 x.mach.tags.count, .int .i64 x.mach.tags.next, .int .i64 x.mach.tags.round, .slice a.o x.mach.tags.owns.length a.oc, .int .i64 x.mach.space, .slice K x.marks.length kc, .int .i64 x.hand]) := zq KX.out
 have HKR5 : Hid (Blk w5 (w.heap.size + 1) 37 [.slice none 0 0, .slice none 0 0, .slice none 0 0, .int .i64 0, .int .i64 0, .int .i64 0, .int .i64 0, .slice none 0 0, .int .i64 0, .slice none 0 0, .int .i64 0]) := zq KR.out
 have E5w := zq Ew5.out
 have HE5 : Hid (FrE w5 w.heap.size x aq Kq kq) := zq (HHE5.out.mono (by omega))
 have hOR : w.heap.size + 1 < w5.heap.size := by omega
 clear C1 C2 C3 C4 C5 HHE5
 clear qX0 qX1 qX2 qX3 qX4 qX5 qX6 qX7 qX8 qX9 qX10 jX
 clear KX
 clear qR0 qR1 qR2 qR3 qR4 qR5 qR6 qR7 qR8 qR9 qR10 jR zR
 clear KR
 go_wp2_with fail
 refine name_code ?_
 intro wc hwc
 obtain ⟨gO, hgO⟩ : ∃ g, g = w5.heap.size := ⟨_, rfl⟩
 have E5 : Hid (Ex w wc) := zq (by rw [hwc]; exact E5w.out.alloc _)
 have HKXc : Hid (Blk wc w.heap.size 37 [.slice a.b x.mach.table.buckets.length a.bc, .slice a.f x.mach.table.frames.length a.fc, .slice a.l x.mach.cache.lines.length a.lc, .int .i64 x.mach.cache.hand, .int .i64 x.mach.tags.count, .int .i64 x.mach.tags.next, .int .i64 x.mach.tags.round, .slice a.o x.mach.tags.owns.length a.oc, .int .i64 x.mach.space, .slice K x.marks.length kc, .int .i64 x.hand]) := zq (by rw [hwc]; exact HKXS.out.alloc _)
 have HKRc : Hid (Blk wc (w.heap.size + 1) 37 [.slice none 0 0, .slice none 0 0, .slice none 0 0, .int .i64 0, .int .i64 0, .int .i64 0, .int .i64 0, .slice none 0 0, .int .i64 0, .slice none 0 0, .int .i64 0]) := zq (by rw [hwc]; exact HKR5.out.alloc _)
 have HKOc : Hid (Blk wc gO 37 [.slice aq.b x.mach.table.buckets.length aq.bc, .slice aq.f x.mach.table.frames.length aq.fc, .slice aq.l x.mach.cache.lines.length aq.lc, .int .i64 x.mach.cache.hand, .int .i64 x.mach.tags.count, .int .i64 x.mach.tags.next, .int .i64 x.mach.tags.round, .slice aq.o x.mach.tags.owns.length aq.oc, .int .i64 x.mach.space, .slice Kq x.marks.length kq, .int .i64 x.hand]) := zq (by rw [hwc, hgO]; exact Blk.new _ _ _)
 have HEc : Hid (FrE wc w.heap.size x aq Kq kq) := zq (by rw [hwc]; exact HE5.out.ex ((Ex.refl _).alloc _))
 rw [← hgO] at hOR ⊢
 have FKX : Hid (∀ w', Ex wc w' → (w'.cell? ⟨w.heap.size, 0, none⟩ = some (.slice a.b x.mach.table.buckets.length a.bc) ∧ w'.cell? ⟨w.heap.size, 1, none⟩ = some (.slice a.f x.mach.table.frames.length a.fc) ∧ w'.cell? ⟨w.heap.size, 2, none⟩ = some (.slice a.l x.mach.cache.lines.length a.lc) ∧ w'.cell? ⟨w.heap.size, 3, none⟩ = some (.int .i64 x.mach.cache.hand) ∧ w'.cell? ⟨w.heap.size, 4, none⟩ = some (.int .i64 x.mach.tags.count) ∧ w'.cell? ⟨w.heap.size, 5, none⟩ = some (.int .i64 x.mach.tags.next) ∧ w'.cell? ⟨w.heap.size, 6, none⟩ = some (.int .i64 x.mach.tags.round) ∧ w'.cell? ⟨w.heap.size, 7, none⟩ = some (.slice a.o x.mach.tags.owns.length a.oc) ∧ w'.cell? ⟨w.heap.size, 8, none⟩ = some (.int .i64 x.mach.space) ∧ w'.cell? ⟨w.heap.size, 9, none⟩ = some (.slice K x.marks.length kc) ∧ w'.cell? ⟨w.heap.size, 10, none⟩ = some (.int .i64 x.hand))) := zq (fun w' h => (HKXc.out.ex h).c11)
 clear hwc hgO E5w HKXS HKR5 HE5
 refine wp_region_held_drew (S := (fun w' => (w'.cell? ⟨w.heap.size, 0, none⟩ = some (.slice a.b x.mach.table.buckets.length a.bc) ∧ w'.cell? ⟨w.heap.size, 1, none⟩ = some (.slice a.f x.mach.table.frames.length a.fc) ∧ w'.cell? ⟨w.heap.size, 2, none⟩ = some (.slice a.l x.mach.cache.lines.length a.lc) ∧ w'.cell? ⟨w.heap.size, 3, none⟩ = some (.int .i64 x.mach.cache.hand) ∧ w'.cell? ⟨w.heap.size, 4, none⟩ = some (.int .i64 x.mach.tags.count) ∧ w'.cell? ⟨w.heap.size, 5, none⟩ = some (.int .i64 x.mach.tags.next) ∧ w'.cell? ⟨w.heap.size, 6, none⟩ = some (.int .i64 x.mach.tags.round) ∧ w'.cell? ⟨w.heap.size, 7, none⟩ = some (.slice a.o x.mach.tags.owns.length a.oc) ∧ w'.cell? ⟨w.heap.size, 8, none⟩ = some (.int .i64 x.mach.space) ∧ w'.cell? ⟨w.heap.size, 9, none⟩ = some (.slice K x.marks.length kc) ∧ w'.cell? ⟨w.heap.size, 10, none⟩ = some (.int .i64 x.hand)))) (by kernel_rfl) ?r1_hS0 (fun hHeld => ?_)
 case r1_hS0 => exact FKX.out _ (Ex.refl _).drew
 refine tk 0 ?_; refine tk 1 ?_; refine tk 2 ?_; refine tk 3 ?_; refine tk 4 ?_; refine tk 5 ?_; refine tk 6 ?_
 refine wpAnyH_ready (rs := [7]) (by kernel_rfl) (by simp) ?_
 refine AllReadyH.cons (o := ?r1_o7) ?r1_ho7 (fun K hK => ?_) AllReadyH.nil
 case r1_ho7 => (conv => lhs; whnf; arg 1; whnf)
 refine step_call_gu rfl CE0.out _ _ rfl #[.int .i64 x.mach.space, .int .i64 page] rfl (CKF.out _) ?_; rintro r w6 ⟨rfl, hb6⟩; refine ⟨_, rfl, ?_⟩; have hE6 := Ex.trans (Ex.refl _).drew hb6
 refine hK.out _ _ ?r1_hS7 (fun hHeld7 => ?_)
 case r1_hS7 => exact FKX.out _ hE6
 clear hK K hHeld
 try simp only [Act.put, List.setIfInBounds_toArray, List.set_cons_zero, List.set_cons_succ]
 refine wpAnyH_ready (rs := [8]) (by kernel_rfl) (by simp) ?_
 refine AllReadyH.cons (o := ?r1_o8) ?r1_ho8 (fun K hK => ?_) AllReadyH.nil
 case r1_ho8 => (conv => lhs; whnf; arg 1; whnf)
 refine step_call_gu rfl CE1.out _ _ rfl #[.agg #[.slice a.b x.mach.table.buckets.length a.bc, .slice a.f x.mach.table.frames.length a.fc], .agg #[.int .i64 ky.space, .int .i64 ky.page]] rfl (CLF.out _ (E5.out.trans hE6)) ?_; rintro r w7 ⟨⟨st, rfl⟩, hb7⟩; refine ⟨_, rfl, ?_⟩; have hE7 := Ex.trans hE6 hb7
 refine hK.out _ _ ?r1_hS8 (fun hHeld8 => ?_)
 case r1_hS8 => exact FKX.out _ hE7
 clear hK K hHeld7
 try simp only [Act.put, List.setIfInBounds_toArray, List.set_cons_zero, List.set_cons_succ]
 refine tk 9 ?_; refine tk 10 ?_; refine tk 11 ?_; refine tk 12 ?_; refine tk 13 ?_
 refine wpAnyH_done (by kernel_rfl) ?_ _
 have HE7 := zq hE7
 have HEX : Hid (Ex w w7) := zq (E5.out.trans hE7)
 have HKO : Hid (Blk w7 gO 37 [.slice aq.b x.mach.table.buckets.length aq.bc, .slice aq.f x.mach.table.frames.length aq.fc, .slice aq.l x.mach.cache.lines.length aq.lc, .int .i64 x.mach.cache.hand, .int .i64 x.mach.tags.count, .int .i64 x.mach.tags.next, .int .i64 x.mach.tags.round, .slice aq.o x.mach.tags.owns.length aq.oc, .int .i64 x.mach.space, .slice Kq x.marks.length kq, .int .i64 x.hand]) := zq (HKOc.out.ex hE7)
 have HKR : Hid (Blk w7 (w.heap.size + 1) 37 [.slice none 0 0, .slice none 0 0, .slice none 0 0, .int .i64 0, .int .i64 0, .int .i64 0, .int .i64 0, .slice none 0 0, .int .i64 0, .slice none 0 0, .int .i64 0]) := zq (HKRc.out.ex hE7)
 have HKX : Hid (Blk w7 w.heap.size 37 [.slice a.b x.mach.table.buckets.length a.bc, .slice a.f x.mach.table.frames.length a.fc, .slice a.l x.mach.cache.lines.length a.lc, .int .i64 x.mach.cache.hand, .int .i64 x.mach.tags.count, .int .i64 x.mach.tags.next, .int .i64 x.mach.tags.round, .slice a.o x.mach.tags.owns.length a.oc, .int .i64 x.mach.space, .slice K x.marks.length kc, .int .i64 x.hand]) := zq (HKXc.out.ex hE7)
 clear hHeld8 hb6 hb7 hE6 hE7 HKOc HKRc HKXc FKX
 by_cases hmiss : FV < 0
 rotate_left
 ·have HFM : Hid (FrM w7 w.heap.size x.mach aq) := zq (HEc.out.m.ex HE7.out)
  have HFK : Hid (Fr 4 w7 w.heap.size Kq kq x.marks) := zq (HEc.out.k.ex HE7.out)
  have HQ : Hid (MemOk x) := zq HH.out
  have HFD : Hid (0 ≤ findF x.mach.table (keyFor x.mach.space page)) := zq (by rw [← HKY.out, ← HFV.out]; omega)
  have hm2 : decide (FV < 0) = false := by simpa using hmiss
  clear HBR
  obtain ⟨i, f, te, hil, hfi, hmt⟩ := HQ.out.touch HP.out (by have := HFD.out; omega)
  have CT := zq (fun w' (e1 : Ex w7 w') => touchS_c x.mach aq page need w' HQ.out.1 (HFM.out.has.ex e1) HFM.out.cap HFM.out.capx HP.out HN.out)
  unfold Touched at CT
  rw [te] at CT
  have HMT := zq hmt
  obtain ⟨mt, hmt2⟩ : ∃ mt, mt = touchM x.mach page := ⟨_, rfl⟩
  rw [← hmt2] at CT HMT
  clear hmt hmt2 te hfi f
  obtain ⟨gK, rs3, rfl, hBk, hbk, hrs3⟩ := HFK.out.open_ (k := i) hil
  have hkcl : x.marks.length ≤ kq := HFK.out.le
  have hkcm := HFK.out.cap
  have hgKO : ¬ gO = gK := fun e => (HFK.out.off HKO.out (by decide)) gK (rowOf_some (by omega)) e.symm
  have hgKR : ¬ w.heap.size + 1 = gK := fun e => (HFK.out.off HKR.out (by decide)) gK (rowOf_some (by omega)) e.symm
  have hgKO2 : ¬ gK = gO := fun e => hgKO e.symm
  have hgKR2 : ¬ gK = w.heap.size + 1 := fun e => hgKR e.symm
  have HBK := zq hbk; have HRS := zq hrs3
  clear hbk hrs3
  obtain ⟨o0, o1, o2, o3, o4, o5, o6, o7, o8, o9, o10⟩ := HKO.out.c11
  have ol := HKO.out.lt
  go_wp2_with fail
  refine (CT.out _ (Ex.refl _)).mono ?_
  rintro r w9 ⟨at_, oc, rfl, hft, hoc, -, hb9⟩
  have E9 : Ex w7 w9 := Ex.trans (Ex.refl _) hb9
  have hzT := HEX.out.size
  have HFT : Hid (FrM w9 w.heap.size mt at_) := zq (FrM.mono hft (by first | omega | (simp; omega)))
  have KO9 := zq (HKO.out.ex E9); have KR9 := zq (HKR.out.ex E9); have BK9 := zq (HBK.out.ex E9); have EX9 := zq (HEX.out.trans E9)
  clear o0 o1 o2 o3 o4 o5 o6 o7 o8 o9 o10 ol hft E9 hb9
  obtain ⟨o0, o1, o2, o3, o4, o5, o6, o7, o8, o9, o10⟩ := KO9.out.c11
  have oz := KO9.out.frozen; have ol := KO9.out.lt
  obtain ⟨r0, r1, r2, r3, r4, r5, r6, r7, r8, r9, r10⟩ := KR9.out.c11
  have rz := KR9.out.frozen; have rl := KR9.out.lt
  obtain ⟨vK, hvK⟩ : ∃ v, x.marks[i]? = some v := ⟨_, List.getElem?_eq_getElem hil⟩
  have gKc := BK9.out.bool hvK; have gKz := BK9.out.frozen i; have gKl := Blk.lt BK9.out
  have hgR : ¬ gO = w.heap.size + 1 := by omega
  have hgR2 : ¬ w.heap.size + 1 = gO := by omega
  have hin : (i : Int) < (x.marks.length : Int) := by omega
  have hi0 : ¬ (i : Int) < 0 := by omega
  have HOa := zq (HFT.out.b.off KO9.out (by decide)); have HRa := zq (HFT.out.b.off KR9.out (by decide)); have HKa := zq (HFT.out.b.off BK9.out (by decide))
  have HOb := zq (HFT.out.f.off KO9.out (by decide)); have HRb := zq (HFT.out.f.off KR9.out (by decide)); have HKb := zq (HFT.out.f.off BK9.out (by decide))
  have HOc := zq (HFT.out.l.off KO9.out (by decide)); have HRc := zq (HFT.out.l.off KR9.out (by decide)); have HKc := zq (HFT.out.l.off BK9.out (by decide))
  have HOd := zq (HFT.out.o.off KO9.out (by decide)); have HRd := zq (HFT.out.o.off KR9.out (by decide)); have HKd := zq (HFT.out.o.off BK9.out (by decide))
  clear hvK HKO HKR HBK HEX HFM HFK
  go_wp2
  exact bodyPost_ret (v := .tuple #[.agg #[.slice at_.b mt.table.buckets.length at_.bc, .slice at_.f mt.table.frames.length at_.fc, .slice at_.l mt.cache.lines.length at_.lc, .int .i64 mt.cache.hand, .int .i64 mt.tags.count, .int .i64 mt.tags.next, .int .i64 mt.tags.round, .slice at_.o mt.tags.owns.length at_.oc, .int .i64 mt.space, .slice (some ⟨gK, 0, none⟩) x.marks.length kq, .int .i64 x.hand], .int .i64 i, .int .i64 (oc), .bool true]) (by simp [results, Tryz.results64, go_sem, *]) rfl
   ⟨⟨mt, x.marks.set i true, x.hand⟩, (i : Int), (oc), true, at_, some ⟨gK, 0, none⟩, kq, by rw [List.length_set], fun _ => ⟨HMT.out, by omega⟩, ⟨⟨(by with_reducible repeat' (first | exact HFT.out.b | refine Fr.alloc ?_ _ | refine Fr.put ?_ HOa.out _ | refine Fr.put ?_ HRa.out _ | refine Fr.put ?_ HKa.out _)), (by with_reducible repeat' (first | exact HFT.out.f | refine Fr.alloc ?_ _ | refine Fr.put ?_ HOb.out _ | refine Fr.put ?_ HRb.out _ | refine Fr.put ?_ HKb.out _)), (by with_reducible repeat' (first | exact HFT.out.l | refine Fr.alloc ?_ _ | refine Fr.put ?_ HOc.out _ | refine Fr.put ?_ HRc.out _ | refine Fr.put ?_ HKc.out _)), (by with_reducible repeat' (first | exact HFT.out.o | refine Fr.alloc ?_ _ | refine Fr.put ?_ HOd.out _ | refine Fr.put ?_ HRd.out _ | refine Fr.put ?_ HKd.out _))⟩, Fr.close (xs := x.marks.set i true) (rest := rs3) (by with_reducible repeat' (first | exact BK9.out | refine Bk.alloc ?_ _ | refine Bk.far ?_ (by first | (simp; done) | (simp; omega)) _ | refine Bk.set_bool ?_ true hil)) (by omega) (by rw [List.length_set]; exact HRS.out) (by rw [List.length_set]; exact hkcl) hkcm⟩, (ze EX9.out)⟩
 · -- the page is brought in
  have hm2 : decide (FV < 0) = true := by simpa using hmiss
  have CB := zq (HBR.out hmiss)
  clear HBR HEc
  obtain ⟨x0, x1, x2, x3, x4, x5, x6, x7, x8, x9, x10⟩ := HKX.out.c11
  have xl := HKX.out.lt
  go_wp2_with fail
  refine (CB.out _ HEX.out).mono ?_
  rintro r w8 ⟨q, ok, an, Kn, kn, rfl, hok, hfn, hb8⟩
  have KO8 := zq (HKO.out.ex hb8); have KR8 := zq (HKR.out.ex hb8); have EX8 := zq (HEX.out.trans hb8)
  have FN : Hid (FrE w8 w.heap.size q an Kn kn) := zq (hfn.mono HEX.out.size)
  clear x0 x1 x2 x3 x4 x5 x6 x7 x8 x9 x10 xl HKX HKO HKR HEX hfn hb8 CB
  obtain ⟨r0, r1, r2, r3, r4, r5, r6, r7, r8, r9, r10⟩ := KR8.out.c11
  have rz := KR8.out.frozen; have rl := KR8.out.lt
  have hz8 := EX8.out.size
  cases ok
  ·go_wp2
   exact bodyPost_ret (v := .tuple #[.agg #[.slice none 0 0, .slice none 0 0, .slice none 0 0, .int .i64 0, .int .i64 0, .int .i64 0, .int .i64 0, .slice none 0 0, .int .i64 0, .slice none 0 0, .int .i64 0], .int .i64 0, .int .i64 0, .bool false]) (by simp [results, Tryz.results64, go_sem, *]) rfl
    ⟨noMem, 0, 0, false, ⟨none, 0, none, 0, none, 0, none, 0⟩, none, 0, rfl, (fun h => by cases h), ⟨⟨Fr.none_ _ _ _ _, Fr.none_ _ _ _ _, Fr.none_ _ _ _ _, Fr.none_ _ _ _ _⟩, Fr.none_ _ _ _ _⟩, (ze EX8.out)⟩
  obtain ⟨hq, hfd⟩ := hok rfl
  clear hok r0 r1 r2 r3 r4 r5 r6 r7 r8 r9 r10 rz rl
  have HQ := zq hq; have HFD := zq hfd
  clear hq hfd
  obtain ⟨o0, o1, o2, o3, o4, o5, o6, o7, o8, o9, o10⟩ := KO8.out.c11
  have oz := KO8.out.frozen; have ol := KO8.out.lt
  go_wp2_with fail
  refine name_calls ?_
  intro wA hwA
  have HOa := zq (FN.out.m.b.off KO8.out (by decide)); have HOb := zq (FN.out.m.f.off KO8.out (by decide)); have HOc := zq (FN.out.m.l.off KO8.out (by decide)); have HOd := zq (FN.out.m.o.off KO8.out (by decide)); have HOe := zq (FN.out.k.off KO8.out (by decide))
  have HKO : Hid (Blk wA gO 37 [.slice an.b q.mach.table.buckets.length an.bc, .slice an.f q.mach.table.frames.length an.fc, .slice an.l q.mach.cache.lines.length an.lc, .int .i64 q.mach.cache.hand, .int .i64 q.mach.tags.count, .int .i64 q.mach.tags.next, .int .i64 q.mach.tags.round, .slice an.o q.mach.tags.owns.length an.oc, .int .i64 q.mach.space, .slice Kn q.marks.length kn, .int .i64 q.hand]) := zq (by rw [hwA]; first | exact (Blk.put11 KO8.out).alloc _ | exact Blk.put11 (KO8.out.alloc _))
  have HKR : Hid (Blk wA (w.heap.size + 1) 37 [.slice none 0 0, .slice none 0 0, .slice none 0 0, .int .i64 0, .int .i64 0, .int .i64 0, .int .i64 0, .slice none 0 0, .int .i64 0, .slice none 0 0, .int .i64 0]) := zq (by rw [hwA]; exact (zf KR8.out))
  have HFM : Hid (FrM wA w.heap.size q.mach an) := zq (by rw [hwA]; exact ⟨(zr FN.out.m.b HOa.out), (zr FN.out.m.f HOb.out), (zr FN.out.m.l HOc.out), (zr FN.out.m.o HOd.out)⟩)
  have HFK : Hid (Fr 4 wA w.heap.size Kn kn q.marks) := zq (by rw [hwA]; exact (zr FN.out.k HOe.out))
  have HEX : Hid (Ex w wA) := zq (by rw [hwA]; exact (ze EX8.out))
  clear hwA KO8 KR8 FN EX8 HOa HOb HOc HOd HOe o0 o1 o2 o3 o4 o5 o6 o7 o8 o9 o10 oz ol hz8
  obtain ⟨i, f, te, hil, hfi, hmt⟩ := HQ.out.touch HP.out (by have := HFD.out; omega)
  have CT := zq (fun w' (e1 : Ex wA w') => touchS_c q.mach an page need w' HQ.out.1 (HFM.out.has.ex e1) HFM.out.cap HFM.out.capx HP.out HN.out)
  unfold Touched at CT
  rw [te] at CT
  have HMT := zq hmt
  obtain ⟨mt, hmt2⟩ : ∃ mt, mt = touchM q.mach page := ⟨_, rfl⟩
  rw [← hmt2] at CT HMT
  clear hmt hmt2 te hfi f
  obtain ⟨gK, rs3, rfl, hBk, hbk, hrs3⟩ := HFK.out.open_ (k := i) hil
  have hkcl : q.marks.length ≤ kn := HFK.out.le
  have hkcm := HFK.out.cap
  have hgKO : ¬ gO = gK := fun e => (HFK.out.off HKO.out (by decide)) gK (rowOf_some (by omega)) e.symm
  have hgKR : ¬ w.heap.size + 1 = gK := fun e => (HFK.out.off HKR.out (by decide)) gK (rowOf_some (by omega)) e.symm
  have hgKO2 : ¬ gK = gO := fun e => hgKO e.symm
  have hgKR2 : ¬ gK = w.heap.size + 1 := fun e => hgKR e.symm
  have HBK := zq hbk; have HRS := zq hrs3
  clear hbk hrs3
  refine (CT.out _ (Ex.refl _)).mono ?_
  rintro r w9 ⟨at_, oc, rfl, hft, hoc, -, hb9⟩
  have E9 : Ex wA w9 := Ex.trans (Ex.refl _) hb9
  have hzT := HEX.out.size
  have HFT : Hid (FrM w9 w.heap.size mt at_) := zq (FrM.mono hft (by first | omega | (simp; omega)))
  have KO9 := zq (HKO.out.ex E9); have KR9 := zq (HKR.out.ex E9); have BK9 := zq (HBK.out.ex E9); have EX9 := zq (HEX.out.trans E9)
  clear hft E9 hb9
  obtain ⟨o0, o1, o2, o3, o4, o5, o6, o7, o8, o9, o10⟩ := KO9.out.c11
  have oz := KO9.out.frozen; have ol := KO9.out.lt
  obtain ⟨r0, r1, r2, r3, r4, r5, r6, r7, r8, r9, r10⟩ := KR9.out.c11
  have rz := KR9.out.frozen; have rl := KR9.out.lt
  obtain ⟨vK, hvK⟩ : ∃ v, q.marks[i]? = some v := ⟨_, List.getElem?_eq_getElem hil⟩
  have gKc := BK9.out.bool hvK; have gKz := BK9.out.frozen i; have gKl := Blk.lt BK9.out
  have hgR : ¬ gO = w.heap.size + 1 := by omega
  have hgR2 : ¬ w.heap.size + 1 = gO := by omega
  have hin : (i : Int) < (q.marks.length : Int) := by omega
  have hi0 : ¬ (i : Int) < 0 := by omega
  have HOa := zq (HFT.out.b.off KO9.out (by decide)); have HRa := zq (HFT.out.b.off KR9.out (by decide)); have HKa := zq (HFT.out.b.off BK9.out (by decide))
  have HOb := zq (HFT.out.f.off KO9.out (by decide)); have HRb := zq (HFT.out.f.off KR9.out (by decide)); have HKb := zq (HFT.out.f.off BK9.out (by decide))
  have HOc := zq (HFT.out.l.off KO9.out (by decide)); have HRc := zq (HFT.out.l.off KR9.out (by decide)); have HKc := zq (HFT.out.l.off BK9.out (by decide))
  have HOd := zq (HFT.out.o.off KO9.out (by decide)); have HRd := zq (HFT.out.o.off KR9.out (by decide)); have HKd := zq (HFT.out.o.off BK9.out (by decide))
  clear hvK HKO HKR HBK HEX HFM HFK
  by_cases hc2 : oc = 2
  ·subst hc2
   go_wp2
   exact bodyPost_ret (v := .tuple #[.agg #[.slice at_.b mt.table.buckets.length at_.bc, .slice at_.f mt.table.frames.length at_.fc, .slice at_.l mt.cache.lines.length at_.lc, .int .i64 mt.cache.hand, .int .i64 mt.tags.count, .int .i64 mt.tags.next, .int .i64 mt.tags.round, .slice at_.o mt.tags.owns.length at_.oc, .int .i64 mt.space, .slice (some ⟨gK, 0, none⟩) q.marks.length kn, .int .i64 q.hand], .int .i64 i, .int .i64 (3), .bool true]) (by simp [results, Tryz.results64, go_sem, *]) rfl
    ⟨⟨mt, q.marks.set i true, q.hand⟩, (i : Int), (3), true, at_, some ⟨gK, 0, none⟩, kn, by rw [List.length_set], fun _ => ⟨HMT.out, by omega⟩, ⟨⟨(by with_reducible repeat' (first | exact HFT.out.b | refine Fr.alloc ?_ _ | refine Fr.put ?_ HOa.out _ | refine Fr.put ?_ HRa.out _ | refine Fr.put ?_ HKa.out _)), (by with_reducible repeat' (first | exact HFT.out.f | refine Fr.alloc ?_ _ | refine Fr.put ?_ HOb.out _ | refine Fr.put ?_ HRb.out _ | refine Fr.put ?_ HKb.out _)), (by with_reducible repeat' (first | exact HFT.out.l | refine Fr.alloc ?_ _ | refine Fr.put ?_ HOc.out _ | refine Fr.put ?_ HRc.out _ | refine Fr.put ?_ HKc.out _)), (by with_reducible repeat' (first | exact HFT.out.o | refine Fr.alloc ?_ _ | refine Fr.put ?_ HOd.out _ | refine Fr.put ?_ HRd.out _ | refine Fr.put ?_ HKd.out _))⟩, Fr.close (xs := q.marks.set i true) (rest := rs3) (by with_reducible repeat' (first | exact BK9.out | refine Bk.alloc ?_ _ | refine Bk.far ?_ (by first | (simp; done) | (simp; omega)) _ | refine Bk.set_bool ?_ true hil)) (by omega) (by rw [List.length_set]; exact HRS.out) (by rw [List.length_set]; exact hkcl) hkcm⟩, (ze EX9.out)⟩
  ·have hc3 : (oc == 2) = false := by simpa using hc2
   go_wp2
   exact bodyPost_ret (v := .tuple #[.agg #[.slice at_.b mt.table.buckets.length at_.bc, .slice at_.f mt.table.frames.length at_.fc, .slice at_.l mt.cache.lines.length at_.lc, .int .i64 mt.cache.hand, .int .i64 mt.tags.count, .int .i64 mt.tags.next, .int .i64 mt.tags.round, .slice at_.o mt.tags.owns.length at_.oc, .int .i64 mt.space, .slice (some ⟨gK, 0, none⟩) q.marks.length kn, .int .i64 q.hand], .int .i64 i, .int .i64 (oc), .bool true]) (by simp [results, Tryz.results64, go_sem, *]) rfl
    ⟨⟨mt, q.marks.set i true, q.hand⟩, (i : Int), (oc), true, at_, some ⟨gK, 0, none⟩, kn, by rw [List.length_set], fun _ => ⟨HMT.out, by omega⟩, ⟨⟨(by with_reducible repeat' (first | exact HFT.out.b | refine Fr.alloc ?_ _ | refine Fr.put ?_ HOa.out _ | refine Fr.put ?_ HRa.out _ | refine Fr.put ?_ HKa.out _)), (by with_reducible repeat' (first | exact HFT.out.f | refine Fr.alloc ?_ _ | refine Fr.put ?_ HOb.out _ | refine Fr.put ?_ HRb.out _ | refine Fr.put ?_ HKb.out _)), (by with_reducible repeat' (first | exact HFT.out.l | refine Fr.alloc ?_ _ | refine Fr.put ?_ HOc.out _ | refine Fr.put ?_ HRc.out _ | refine Fr.put ?_ HKc.out _)), (by with_reducible repeat' (first | exact HFT.out.o | refine Fr.alloc ?_ _ | refine Fr.put ?_ HOd.out _ | refine Fr.put ?_ HRd.out _ | refine Fr.put ?_ HKd.out _))⟩, Fr.close (xs := q.marks.set i true) (rest := rs3) (by with_reducible repeat' (first | exact BK9.out | refine Bk.alloc ?_ _ | refine Bk.far ?_ (by first | (simp; done) | (simp; omega)) _ | refine Bk.set_bool ?_ true hil)) (by omega) (by rw [List.length_set]; exact HRS.out) (by rw [List.length_set]; exact hkcl) hkcm⟩, (ze EX9.out)⟩

/-- What UsePages hands back. -/
def UsedPs (w : World) (e : Ending) (w' : World) : Prop := ∃ (q : MemD) (ok : Bool) (v : Value) (a : MA) (K : Option Addr) (kc : Nat), e = .returned (.tuple #[.agg #[.slice a.b q.mach.table.buckets.length a.bc, .slice a.f q.mach.table.frames.length a.fc, .slice a.l q.mach.cache.lines.length a.lc, .int .i64 q.mach.cache.hand, .int .i64 q.mach.tags.count, .int .i64 q.mach.tags.next, .int .i64 q.mach.tags.round, .slice a.o q.mach.tags.owns.length a.oc, .int .i64 q.mach.space, .slice K q.marks.length kc, .int .i64 q.hand], v, .bool ok]) ∧ (ok = true → MemOk q) ∧ FrE w' w.heap.size q a K kc ∧ Ex w w'
def UsesLoop (w : World) (gO gC n : Nat) (rest : List Value) (i : Value) (wr : World) : Prop := ∃ (k : Nat) (q : MemD) (aq : MA) (Kq : Option Addr) (kq : Nat) (cs : List Int), i = .int .i64 k ∧ k ≤ n ∧ MemOk q ∧ Blk wr gO 37 [.slice aq.b q.mach.table.buckets.length aq.bc, .slice aq.f q.mach.table.frames.length aq.fc, .slice aq.l q.mach.cache.lines.length aq.lc, .int .i64 q.mach.cache.hand, .int .i64 q.mach.tags.count, .int .i64 q.mach.tags.next, .int .i64 q.mach.tags.round, .slice aq.o q.mach.tags.owns.length aq.oc, .int .i64 q.mach.space, .slice Kq q.marks.length kq, .int .i64 q.hand] ∧ FrE wr w.heap.size q aq Kq kq ∧ (∀ b, rowOf aq.b aq.bc = some b → b ≠ gC) ∧ Bk 3 wr gC cs rest ∧ cs.length = 5 ∧ Ex w wr ∧ Blk wr (w.heap.size + 1) 37 [.slice none 0 0, .slice none 0 0, .slice none 0 0, .int .i64 0, .int .i64 0, .int .i64 0, .int .i64 0, .slice none 0 0, .int .i64 0, .slice none 0 0, .int .i64 0]
def UsesCut (w : World) (gO gC : Nat) (rest : List Value) (q : MemD) (aq : MA) (Kq : Option Addr) (kq : Nat) (cs : List Int) (s t u : Value) (wx : World) : Prop := ∃ (gN : Nat) (n : MemD) (oc : Int) (ok : Bool) (an : MA) (Kn : Option Addr) (kn : Nat), s = .pointer (some ⟨gN, 0, none⟩) ∧ t = .int .i64 oc ∧ u = .bool ok ∧ (ok = true → MemOk n ∧ 0 ≤ oc ∧ oc < 5) ∧ Blk wx gN 37 [.slice an.b n.mach.table.buckets.length an.bc, .slice an.f n.mach.table.frames.length an.fc, .slice an.l n.mach.cache.lines.length an.lc, .int .i64 n.mach.cache.hand, .int .i64 n.mach.tags.count, .int .i64 n.mach.tags.next, .int .i64 n.mach.tags.round, .slice an.o n.mach.tags.owns.length an.oc, .int .i64 n.mach.space, .slice Kn n.marks.length kn, .int .i64 n.hand] ∧ FrE wx w.heap.size n an Kn kn ∧ (∀ b, rowOf an.b an.bc = some b → b ≠ gC) ∧ Blk wx gO 37 [.slice aq.b q.mach.table.buckets.length aq.bc, .slice aq.f q.mach.table.frames.length aq.fc, .slice aq.l q.mach.cache.lines.length aq.lc, .int .i64 q.mach.cache.hand, .int .i64 q.mach.tags.count, .int .i64 q.mach.tags.next, .int .i64 q.mach.tags.round, .slice aq.o q.mach.tags.owns.length aq.oc, .int .i64 q.mach.space, .slice Kq q.marks.length kq, .int .i64 q.hand] ∧ Bk 3 wx gC cs rest ∧ Ex w wx ∧ Blk wx (w.heap.size + 1) 37 [.slice none 0 0, .slice none 0 0, .slice none 0 0, .int .i64 0, .int .i64 0, .int .i64 0, .int .i64 0, .slice none 0 0, .int .i64 0, .slice none 0 0, .int .i64 0] ∧ gO < gN ∧ gC < gN
theorem infoInt9 : (Tryz.prog.info? 3).map (fun i => (i.zero, i.size, i.bytes)) = some (some (.int .i64 0), 1, 8) := by kernel_rfl

set_option maxHeartbeats 16000000 in
theorem usesS_c (x : MemD) (a : MA) (K : Option Addr) (kc : Nat) (ps : List Int) (A : Option Addr) (c : Nat) (w : World) (h : MemOk x) (hx : HasE w x a K) (hc : CapE x a kc) (hk : CapX a) (hkk : kc ≤ maxLen) (hA : Rd w A ps) (hps : ps.length ≤ 64) (hpr : ∀ p, p ∈ ps → 0 ≤ p ∧ p < 256) :
  Calls Tryz.prog 33 #[.agg #[.slice a.b x.mach.table.buckets.length a.bc, .slice a.f x.mach.table.frames.length a.fc, .slice a.l x.mach.cache.lines.length a.lc, .int .i64 x.mach.cache.hand, .int .i64 x.mach.tags.count, .int .i64 x.mach.tags.next, .int .i64 x.mach.tags.round, .slice a.o x.mach.tags.owns.length a.oc, .int .i64 x.mach.space, .slice K x.marks.length kc, .int .i64 x.hand], .slice A ps.length c] w (UsedPs w) := by
 have C1 := zq (fun w' (e1 : Ex w w') => memS_c x a K kc w' (hx.ex e1) h.fewE hc)
 rw [memV_iff.2 h] at C1
 have C2 := zq (fun w' (e1 : Ex w w') => l7Copy_c x a K kc w' (hx.ex e1) h.fewE hc hk hkk)
 unfold MemIs at C2
 have CUS := zq (fun (q : MemD) (hq : MemOk q) (aq : MA) (Kq : Option Addr) (kq : Nat) (p : Int) (hp : 0 ≤ p ∧ p < 256) w' (h1 : HasE w' q aq Kq) (h2 : CapE q aq kq) (h3 : CapX aq) (h4 : kq ≤ maxLen) => useS_c q aq Kq kq p 1 1 w' hq h1 h2 h3 h4 hp (by omega) (by omega))
 have HH := zq h
 have HA := zq hA
 have HPR := zq hpr
 obtain ⟨n, hn⟩ : ∃ n, n = ps.length := ⟨_, rfl⟩
 have HN := zq hn
 rw [← hn] at hps ⊢
 have hn64 : ¬ (64 : Int) < (n : Int) := by omega
 have hmk := make_rec (P := Tryz.prog) (α := Int) 23 3 8 0 _ Tryz.underlying23 infoInt9 rfl 5 (by omega) (by omega)
 have hmk5 : ∀ W : World, (Instr.makeSlice 23 (.int .i64 5) (.int .i64 5)).run Tryz.prog W = .ok (.slice (some ⟨W.heap.size, 0, none⟩) 5 5) (W.alloc (.cells (flat (List.replicate 5 (0 : Int))).toArray 3)) := hmk
 clear hmk hn h hx hc hk hkk hA hpr
 go_enter Tryz.func33, Tryz.ntmps33
 go_wp2_with fail
 refine name_calls ?_; intro v1 hv1
 have X1 : Hid (Chg (0) (0) w v1) := zx hv1
 have t1 := X1.out.size
 have Ev1 := zq ((Ex.refl w).chg X1.out (by omega))
 have KX : Hid (Blk v1 (w.heap.size) 37 [.slice a.b x.mach.table.buckets.length a.bc, .slice a.f x.mach.table.frames.length a.fc, .slice a.l x.mach.cache.lines.length a.lc, .int .i64 x.mach.cache.hand, .int .i64 x.mach.tags.count, .int .i64 x.mach.tags.next, .int .i64 x.mach.tags.round, .slice a.o x.mach.tags.owns.length a.oc, .int .i64 x.mach.space, .slice K x.marks.length kc, .int .i64 x.hand]) := zk hv1
 have lX : w.heap.size < v1.heap.size := KX.out.lt
 have KR : Hid (Blk v1 (w.heap.size + 1) 37 [.slice none 0 0, .slice none 0 0, .slice none 0 0, .int .i64 0, .int .i64 0, .int .i64 0, .int .i64 0, .slice none 0 0, .int .i64 0, .slice none 0 0, .int .i64 0]) := zk hv1
 have lR : w.heap.size + 1 < v1.heap.size := KR.out.lt
 clear hv1
 refine (C1.out _ Ev1.out).mono ?_; rintro r w1 ⟨rfl, hb1⟩
 have Y1 := zq (Chg.of_ex hb1)
 have s1 := Y1.out.size
 have Ew1 := zq (Ev1.out.chg Y1.out (by omega))
 clear hb1
 replace KX := zq (KX.out.chg Y1.out (by omega))
 replace KR := zq (KR.out.chg Y1.out (by omega))
 obtain ⟨qX0, qX1, qX2, qX3, qX4, qX5, qX6, qX7, qX8, qX9, qX10⟩ := KX.out.c11
 have jX := KX.out.lt
 obtain ⟨qR0, qR1, qR2, qR3, qR4, qR5, qR6, qR7, qR8, qR9, qR10⟩ := KR.out.c11
 have jR := KR.out.lt
 go_wp2_with fail
 refine name_calls ?_; intro v2 hv2
 have X2 : Hid (Chg (0) (0) w1 v2) := zx hv2
 have t2 := X2.out.size
 have Ev2 := zq (Ew1.out.chg X2.out (by omega))
 clear qX0 qX1 qX2 qX3 qX4 qX5 qX6 qX7 qX8 qX9 qX10 jX
 clear qR0 qR1 qR2 qR3 qR4 qR5 qR6 qR7 qR8 qR9 qR10 jR
 replace KX := zq (KX.out.chg X2.out (by omega))
 replace KR := zq (KR.out.chg X2.out (by omega))
 clear hv2
 refine (C2.out _ Ev2.out).mono ?_; rintro r w2 ⟨aq0, Kq0, kq0, rfl, hhe2, hb2⟩
 have Y2 := zq (Chg.of_ex hb2)
 have s2 := Y2.out.size
 have Ew2 := zq (Ev2.out.chg Y2.out (by omega))
 clear hb2
 replace KX := zq (KX.out.chg Y2.out (by omega))
 replace KR := zq (KR.out.chg Y2.out (by omega))
 have HHE2 := zq hhe2; clear hhe2
 obtain ⟨qX0, qX1, qX2, qX3, qX4, qX5, qX6, qX7, qX8, qX9, qX10⟩ := KX.out.c11
 have jX := KX.out.lt
 obtain ⟨qR0, qR1, qR2, qR3, qR4, qR5, qR6, qR7, qR8, qR9, qR10⟩ := KR.out.c11
 have jR := KR.out.lt
 have HST : Hid (UsesLoop w w2.heap.size (w2.heap.size + 1) n [] (.int .i64 0) ((w2.alloc (.cells #[.slice aq0.b x.mach.table.buckets.length aq0.bc, .slice aq0.f x.mach.table.frames.length aq0.fc, .slice aq0.l x.mach.cache.lines.length aq0.lc, .int .i64 x.mach.cache.hand, .int .i64 x.mach.tags.count, .int .i64 x.mach.tags.next, .int .i64 x.mach.tags.round, .slice aq0.o x.mach.tags.owns.length aq0.oc, .int .i64 x.mach.space, .slice Kq0 x.marks.length kq0, .int .i64 x.hand] 37)).alloc (.cells (flat (List.replicate 5 (0 : Int))).toArray 3))) := zq
  ⟨0, x, aq0, Kq0, kq0, List.replicate 5 0, rfl, Nat.zero_le _, HH.out, (Blk.new _ _ _).alloc _, ((HHE2.out.mono (by omega)).ex ((Ex.refl _).alloc _)).ex ((Ex.refl _).alloc _), fun b hb => by have := (HHE2.out.m.b.row b hb).2; omega, by have hb := Bk.new (w2.alloc (.cells #[.slice aq0.b x.mach.table.buckets.length aq0.bc, .slice aq0.f x.mach.table.frames.length aq0.fc, .slice aq0.l x.mach.cache.lines.length aq0.lc, .int .i64 x.mach.cache.hand, .int .i64 x.mach.tags.count, .int .i64 x.mach.tags.next, .int .i64 x.mach.tags.round, .slice aq0.o x.mach.tags.owns.length aq0.oc, .int .i64 x.mach.space, .slice Kq0 x.marks.length kq0, .int .i64 x.hand] 37)) 3 (List.replicate 5 (0 : Int)); simp only [World.alloc, Array.size_push] at hb ⊢; exact hb, by simp, (Ew2.out.alloc _).alloc _, (KR.out.alloc _).alloc _⟩
 obtain ⟨gO, hgO⟩ : ∃ gO, gO = w2.heap.size := ⟨_, rfl⟩
 have hgOw : w.heap.size + 1 < gO := by omega
 clear qX0 qX1 qX2 qX3 qX4 qX5 qX6 qX7 qX8 qX9 qX10 jX
 clear KX
 clear qR0 qR1 qR2 qR3 qR4 qR5 qR6 qR7 qR8 qR9 qR10 jR
 clear KR
 go_wp2
 rw [← hgO] at HST
 rw [← hgO]
 clear hgO C1 C2 HHE2 hmk5
 obtain ⟨gC, hgC⟩ : ∃ gC, gC = gO + 1 := ⟨_, rfl⟩
 have hgCO : gO < gC := by omega
 rw [← hgC] at HST
 rw [← hgC]
 clear hgC
 go_loopw [9] (fun i wr => UsesLoop w gO gC n [] i wr) (fun i _ => n - (intOf i).toNat)
 case atStart => exact HST.out
 case round =>
  clear HST
  obtain ⟨k, q, aq, Kq, kq, cs, rfl, hk, hq, hko, hfe, hbC, hcc, hcl, hex, hkr⟩ := hrel
  have HQ := zq hq; have KO := zq hko; have HFE := zq hfe; have HBC := zq hbC; have HC := zq hcc; have HCL := zq hcl; have HE := zq hex; have KR := zq hkr
  clear hq hko hfe hbC hcc hcl hex hkr
  have hjO := KO.out.lt; have hjC := Blk.lt HC.out; have hjw := HE.out.size
  by_cases hlt : k < n
  ·obtain ⟨bp, op, p, rfl, hbp, hpk, g0⟩ := (HA.out.ex HE.out).int (k := k) (by have := HN.out; omega)
   have hpp := HPR.out p (List.mem_of_getElem? hpk)
   have CU := zq (fun w' (h1 : HasE w' q aq Kq) => CUS.out q HQ.out aq Kq kq p hpp w' h1 HFE.out.cap HFE.out.m.capx HFE.out.k.cap)
   unfold UsedP at CU
   have HPC : Hid (∀ w', Ex wr w' → w'.cell? ⟨bp, op + k, none⟩ = some (.int .i64 p)) := zq (fun w' h => (h.cell hbp).trans g0)
   have FKO : Hid (∀ w', Ex wr w' → ((w'.cell? ⟨gO, 0, none⟩ = some (.slice aq.b q.mach.table.buckets.length aq.bc) ∧ w'.cell? ⟨gO, 1, none⟩ = some (.slice aq.f q.mach.table.frames.length aq.fc) ∧ w'.cell? ⟨gO, 2, none⟩ = some (.slice aq.l q.mach.cache.lines.length aq.lc) ∧ w'.cell? ⟨gO, 3, none⟩ = some (.int .i64 q.mach.cache.hand) ∧ w'.cell? ⟨gO, 4, none⟩ = some (.int .i64 q.mach.tags.count) ∧ w'.cell? ⟨gO, 5, none⟩ = some (.int .i64 q.mach.tags.next) ∧ w'.cell? ⟨gO, 6, none⟩ = some (.int .i64 q.mach.tags.round) ∧ w'.cell? ⟨gO, 7, none⟩ = some (.slice aq.o q.mach.tags.owns.length aq.oc) ∧ w'.cell? ⟨gO, 8, none⟩ = some (.int .i64 q.mach.space) ∧ w'.cell? ⟨gO, 9, none⟩ = some (.slice Kq q.marks.length kq) ∧ w'.cell? ⟨gO, 10, none⟩ = some (.int .i64 q.hand)) ∧ w'.cell? ⟨bp, op + k, none⟩ = some (.int .i64 p))) := zq (fun w' h => ⟨(KO.out.ex h).c11, HPC.out _ h⟩)
   have CE0 : Hid (∀ (args : Array Value) (w : World), (callFunc 64 args).run Tryz.prog w = .ok (.enter 64 args) w) := zq (enters Tryz.func64 (by kernel_rfl) (by kernel_rfl))
   have hkn : (k : Int) < (n : Int) := by omega
   have hk0 : ¬ (k : Int) < 0 := by omega
   clear hpk g0 hpp hbp
   go_wp2_with fail
   go_cut [10, 12, 13] (fun s t u wx => UsesCut w gO gC [] q aq Kq kq cs s t u wx)
   case first =>
    refine wp_region_held_drew (S := (fun w' => ((w'.cell? ⟨gO, 0, none⟩ = some (.slice aq.b q.mach.table.buckets.length aq.bc) ∧ w'.cell? ⟨gO, 1, none⟩ = some (.slice aq.f q.mach.table.frames.length aq.fc) ∧ w'.cell? ⟨gO, 2, none⟩ = some (.slice aq.l q.mach.cache.lines.length aq.lc) ∧ w'.cell? ⟨gO, 3, none⟩ = some (.int .i64 q.mach.cache.hand) ∧ w'.cell? ⟨gO, 4, none⟩ = some (.int .i64 q.mach.tags.count) ∧ w'.cell? ⟨gO, 5, none⟩ = some (.int .i64 q.mach.tags.next) ∧ w'.cell? ⟨gO, 6, none⟩ = some (.int .i64 q.mach.tags.round) ∧ w'.cell? ⟨gO, 7, none⟩ = some (.slice aq.o q.mach.tags.owns.length aq.oc) ∧ w'.cell? ⟨gO, 8, none⟩ = some (.int .i64 q.mach.space) ∧ w'.cell? ⟨gO, 9, none⟩ = some (.slice Kq q.marks.length kq) ∧ w'.cell? ⟨gO, 10, none⟩ = some (.int .i64 q.hand)) ∧ w'.cell? ⟨bp, op + k, none⟩ = some (.int .i64 p)))) (by kernel_rfl) ?r1_hS0 (fun hHeld => ?_)
    case r1_hS0 => exact FKO.out _ (Ex.refl _).drew
    refine tk 0 ?_; refine tk 1 ?_; refine tk 2 ?_; refine tk 3 ?_; refine tk 4 ?_
    refine wpAnyH_ready (rs := [5, 11]) (by kernel_rfl) (by simp) ?_
    refine AllReadyH.cons (o := ?r1_o0) ?r1_ho0 (fun K hK => ?r1_b0) (AllReadyH.cons (o := ?r1_o1) ?r1_ho1 (fun K hK => ?r1_b1) AllReadyH.nil)
    case r1_ho0 => (conv => lhs; whnf; arg 1; whnf)
    case r1_ho1 => (conv => lhs; whnf; arg 1; whnf)
    case r1_b0 =>
     refine step_call_gu rfl CE0.out _ _ rfl #[.agg #[.slice aq.b q.mach.table.buckets.length aq.bc, .slice aq.f q.mach.table.frames.length aq.fc, .slice aq.l q.mach.cache.lines.length aq.lc, .int .i64 q.mach.cache.hand, .int .i64 q.mach.tags.count, .int .i64 q.mach.tags.next, .int .i64 q.mach.tags.round, .slice aq.o q.mach.tags.owns.length aq.oc, .int .i64 q.mach.space, .slice Kq q.marks.length kq, .int .i64 q.hand], .int .i64 p, .int .i64 1, .int .i64 1] rfl (CU.out _ (HFE.out.has.ex (by with_reducible repeat' (first | exact Ex.refl _ | exact hE0 | refine Ex.alloc ?_ _ | refine Ex.drew ?_)))) ?_; rintro r wf0 ⟨n, fr, oc, ok, an, Kn, kn, rfl, hok, hfn, hb0⟩; refine ⟨_, rfl, ?_⟩; have hE0 : Ex wr wf0 := Ex.trans (by with_reducible repeat' (first | exact Ex.refl _ | exact hE0 | refine Ex.alloc ?_ _ | refine Ex.drew ?_)) hb0; have hz0 := hE0.size; have hy0 := hb0.size
     refine hK.out _ _ ?r1_hS0 (fun hHeld0 => ?_)
     case r1_hS0 => exact FKO.out _ hE0
     clear hK K hHeld
     try simp only [Act.put, List.setIfInBounds_toArray, List.set_cons_zero, List.set_cons_succ]
     refine tk 6 ?_; refine tk 7 ?_; refine tk 8 ?_; refine tk 9 ?_; refine tk 10 ?_
     refine wpAnyH_ready (rs := [11]) (by kernel_rfl) (by simp) ?_
     refine AllReadyH.cons (o := ?r1_o2) ?r1_ho2 (fun K hK => ?r1_b2) AllReadyH.nil
     case r1_ho2 => (conv => lhs; whnf; arg 1; whnf)
     case' r1_b2 => skip
     go_simp
     refine hK.out _ _ ?r1_hS2 (fun hHeld2 => ?_)
     case r1_hS2 => exact FKO.out _ (by with_reducible repeat' (first | exact Ex.refl _ | exact hE0 | refine Ex.alloc ?_ _ | refine Ex.drew ?_))
     clear hK K hHeld0
     try simp only [Act.put, List.setIfInBounds_toArray, List.set_cons_zero, List.set_cons_succ]
     refine wpAnyH_ready (rs := [12]) (by kernel_rfl) (by simp) ?_
     refine AllReadyH.cons (o := ?r1_o3) ?r1_ho3 (fun K hK => ?r1_b3) AllReadyH.nil
     case r1_ho3 => (conv => lhs; whnf; arg 1; whnf)
     case' r1_b3 => skip
     go_simp
     refine hK.out _ _ ?r1_hS3 (fun hHeld3 => ?_)
     case r1_hS3 => exact FKO.out _ (ze hE0)
     clear hK K hHeld2
     try simp only [Act.put, List.setIfInBounds_toArray, List.set_cons_zero, List.set_cons_succ]
     refine tk 13 ?_; refine tk 14 ?_; refine tk 15 ?_
     refine wpAnyH_done (by kernel_rfl) ?_ _
     clear hHeld3
     have HQ1 : Hid (FrE wf0 w.heap.size n an Kn kn) := zq (FrE.mono hfn (by first | omega | (simp; omega)))
     have HQ7 : Hid (∀ b, rowOf an.b an.bc = some b → b ≠ gC) := zq (fun b hb => by have := (hfn.m.b.row b hb).1; simp at this; omega)
     have HQ3 : Hid (Blk wf0 gO 37 [.slice aq.b q.mach.table.buckets.length aq.bc, .slice aq.f q.mach.table.frames.length aq.fc, .slice aq.l q.mach.cache.lines.length aq.lc, .int .i64 q.mach.cache.hand, .int .i64 q.mach.tags.count, .int .i64 q.mach.tags.next, .int .i64 q.mach.tags.round, .slice aq.o q.mach.tags.owns.length aq.oc, .int .i64 q.mach.space, .slice Kq q.marks.length kq, .int .i64 q.hand]) := zq (KO.out.ex hE0)
     have HQ4 : Hid (Blk wf0 (w.heap.size + 1) 37 [.slice none 0 0, .slice none 0 0, .slice none 0 0, .int .i64 0, .int .i64 0, .int .i64 0, .int .i64 0, .slice none 0 0, .int .i64 0, .slice none 0 0, .int .i64 0]) := zq (KR.out.ex hE0)
     have HQ5 : Hid (Ex w wf0) := zq (HE.out.trans hE0)
     have HQ8 : Hid (Bk 3 wf0 gC cs []) := zq (HC.out.ex hE0)
     have HOK := zq hok
     clear hfn hok
     go_wp2_with fail
     go_meet
     exact ⟨wf0.heap.size, n, oc, ok, an, Kn, kn, rfl, rfl, rfl, HOK.out, Blk.new _ _ _, ⟨⟨HQ1.out.m.b.alloc _, HQ1.out.m.f.alloc _, HQ1.out.m.l.alloc _, HQ1.out.m.o.alloc _⟩, HQ1.out.k.alloc _⟩, HQ7.out, (zf HQ3.out), (by with_reducible repeat' (first | exact HQ8.out | refine Bk.alloc ?_ _ | refine Bk.far ?_ (by first | (simp; done) | (simp; omega)) _)), (ze HQ5.out), (zf HQ4.out), by omega, by omega⟩
    case r1_b1 =>
     go_simp
     refine hK.out _ _ ?r1_hS1 (fun hHeld1 => ?_)
     case r1_hS1 => exact FKO.out _ (by with_reducible repeat' (first | exact Ex.refl _ | exact hE0 | refine Ex.alloc ?_ _ | refine Ex.drew ?_))
     clear hK K hHeld
     try simp only [Act.put, List.setIfInBounds_toArray, List.set_cons_zero, List.set_cons_succ]
     refine wpAnyH_ready (rs := [5]) (by kernel_rfl) (by simp) ?_
     refine AllReadyH.cons (o := ?r1_o4) ?r1_ho4 (fun K hK => ?r1_b4) AllReadyH.nil
     case r1_ho4 => (conv => lhs; whnf; arg 1; whnf)
     case' r1_b4 => skip
     refine step_call_gu rfl CE0.out _ _ rfl #[.agg #[.slice aq.b q.mach.table.buckets.length aq.bc, .slice aq.f q.mach.table.frames.length aq.fc, .slice aq.l q.mach.cache.lines.length aq.lc, .int .i64 q.mach.cache.hand, .int .i64 q.mach.tags.count, .int .i64 q.mach.tags.next, .int .i64 q.mach.tags.round, .slice aq.o q.mach.tags.owns.length aq.oc, .int .i64 q.mach.space, .slice Kq q.marks.length kq, .int .i64 q.hand], .int .i64 p, .int .i64 1, .int .i64 1] rfl (CU.out _ (HFE.out.has.ex (by with_reducible repeat' (first | exact Ex.refl _ | exact hE0 | refine Ex.alloc ?_ _ | refine Ex.drew ?_)))) ?_; rintro r wf0 ⟨n, fr, oc, ok, an, Kn, kn, rfl, hok, hfn, hb0⟩; refine ⟨_, rfl, ?_⟩; have hE0 : Ex wr wf0 := Ex.trans (by with_reducible repeat' (first | exact Ex.refl _ | exact hE0 | refine Ex.alloc ?_ _ | refine Ex.drew ?_)) hb0; have hz0 := hE0.size; have hy0 := hb0.size; have hB0 := Blk.ex (Blk.new wr 37 [.slice none 0 0, .slice none 0 0, .slice none 0 0, .int .i64 0, .int .i64 0, .int .i64 0, .int .i64 0, .slice none 0 0, .int .i64 0, .slice none 0 0, .int .i64 0]).drew hb0
     refine hK.out _ _ ?r1_hS4 (fun hHeld4 => ?_)
     case r1_hS4 => exact FKO.out _ hE0
     clear hK K hHeld1
     try simp only [Act.put, List.setIfInBounds_toArray, List.set_cons_zero, List.set_cons_succ]
     refine tk 6 ?_; refine tk 7 ?_; refine tk 8 ?_; refine tk 9 ?_; refine tk 10 ?_
     refine wpAnyH_ready (rs := [12]) (by kernel_rfl) (by simp) ?_
     refine AllReadyH.cons (o := ?r1_o5) ?r1_ho5 (fun K hK => ?r1_b5) AllReadyH.nil
     case r1_ho5 => (conv => lhs; whnf; arg 1; whnf)
     case' r1_b5 => skip
     obtain ⟨hr0, hr1, hr2, hr3, hr4, hr5, hr6, hr7, hr8, hr9, hr10⟩ := hB0.c11; have hrf := hB0.frozen; have hrl := hB0.lt; go_simp
     refine hK.out _ _ ?r1_hS5 (fun hHeld5 => ?_)
     case r1_hS5 => exact FKO.out _ (ze hE0)
     clear hK K hHeld4
     try simp only [Act.put, List.setIfInBounds_toArray, List.set_cons_zero, List.set_cons_succ]
     refine tk 13 ?_; refine tk 14 ?_; refine tk 15 ?_
     refine wpAnyH_done (by kernel_rfl) ?_ _
     clear hHeld5
     have HQ1 : Hid (FrE wf0 w.heap.size n an Kn kn) := zq (FrE.mono hfn (by first | omega | (simp; omega)))
     have HQ7 : Hid (∀ b, rowOf an.b an.bc = some b → b ≠ gC) := zq (fun b hb => by have := (hfn.m.b.row b hb).1; simp at this; omega)
     have HQ3 : Hid (Blk wf0 gO 37 [.slice aq.b q.mach.table.buckets.length aq.bc, .slice aq.f q.mach.table.frames.length aq.fc, .slice aq.l q.mach.cache.lines.length aq.lc, .int .i64 q.mach.cache.hand, .int .i64 q.mach.tags.count, .int .i64 q.mach.tags.next, .int .i64 q.mach.tags.round, .slice aq.o q.mach.tags.owns.length aq.oc, .int .i64 q.mach.space, .slice Kq q.marks.length kq, .int .i64 q.hand]) := zq (KO.out.ex hE0)
     have HQ4 : Hid (Blk wf0 (w.heap.size + 1) 37 [.slice none 0 0, .slice none 0 0, .slice none 0 0, .int .i64 0, .int .i64 0, .int .i64 0, .int .i64 0, .slice none 0 0, .int .i64 0, .slice none 0 0, .int .i64 0]) := zq (KR.out.ex hE0)
     have HQ5 : Hid (Ex w wf0) := zq (HE.out.trans hE0)
     have HQ8 : Hid (Bk 3 wf0 gC cs []) := zq (HC.out.ex hE0)
     have HOK := zq hok
     have HQ6 := zq hB0
     have HRa := zq (HQ1.out.m.b.off HQ6.out (by decide))
     have HRb := zq (HQ1.out.m.f.off HQ6.out (by decide))
     have HRc := zq (HQ1.out.m.l.off HQ6.out (by decide))
     have HRd := zq (HQ1.out.m.o.off HQ6.out (by decide))
     have HRe := zq (HQ1.out.k.off HQ6.out (by decide))
     clear hfn hok
     go_wp2_with fail
     go_meet
     exact ⟨wr.heap.size, n, oc, ok, an, Kn, kn, rfl, rfl, rfl, HOK.out, Blk.put11 HQ6.out, ⟨⟨(zr HQ1.out.m.b HRa.out), (zr HQ1.out.m.f HRb.out), (zr HQ1.out.m.l HRc.out), (zr HQ1.out.m.o HRd.out)⟩, (zr HQ1.out.k HRe.out)⟩, HQ7.out, (zf HQ3.out), (by with_reducible repeat' (first | exact HQ8.out | refine Bk.alloc ?_ _ | refine Bk.far ?_ (by first | (simp; done) | (simp; omega)) _)), (ze HQ5.out), (zf HQ4.out), by omega, by omega⟩
   case rest =>
    obtain ⟨gN, m, oc, ok, an, Kn, kn, rfl, rfl, rfl, hok, hkn2, hfn, hbn, hko, hcc, hex, hkr, hgN, hgN2⟩ := hcut
    have KN := zq hkn2; have FN := zq hfn; have HBN := zq hbn; have KO := zq hko; have HC := zq hcc; have HE := zq hex; have KR := zq hkr
    clear hkn2 hfn hbn hko hcc hex hkr FKO HPC CU HFE
    have hzx := HE.out.size
    cases ok
    ·obtain ⟨r0, r1, r2, r3, r4, r5, r6, r7, r8, r9, r10⟩ := KR.out.c11
     have rz := KR.out.frozen; have rl := KR.out.lt
     go_wp2
     refine bodyPost_ret (v := .tuple #[.agg #[.slice none 0 0, .slice none 0 0, .slice none 0 0, .int .i64 0, .int .i64 0, .int .i64 0, .int .i64 0, .slice none 0 0, .int .i64 0, .slice none 0 0, .int .i64 0], .slice (some ⟨wc.heap.size, 0, none⟩) 0 0, .bool false]) (by simp [results, Tryz.results33, go_sem, *]) rfl ?_
     exact ⟨noMem, false, _, ⟨none, 0, none, 0, none, 0, none, 0⟩, none, 0, rfl, (fun h => by cases h), ⟨⟨Fr.none_ _ _ _ _, Fr.none_ _ _ _ _, Fr.none_ _ _ _ _, Fr.none_ _ _ _ _⟩, Fr.none_ _ _ _ _⟩, (ze HE.out)⟩
    obtain ⟨hmo, hoc0, hoc5⟩ := hok rfl
    obtain ⟨o, rfl⟩ := Int.eq_ofNat_of_zero_le hoc0
    have HMO := zq hmo
    obtain ⟨z, hz⟩ : ∃ z, cs[o]? = some z := ⟨_, List.getElem?_eq_getElem (by have := HCL.out; omega)⟩
    have c0 := HC.out.int hz
    have cz := HC.out.frozen o; have cl := Blk.lt HC.out
    have hol : o < cs.length := getElem?_lt hz
    have hoi : (o : Int) < 5 := by omega
    have ho0 : ¬ (o : Int) < 0 := by omega
    clear hok hmo hz
    obtain ⟨m0, m1, m2, m3, m4, m5, m6, m7, m8, m9, m10⟩ := KN.out.c11
    have ml := KN.out.lt
    obtain ⟨o0, o1, o2, o3, o4, o5, o6, o7, o8, o9, o10⟩ := KO.out.c11
    have oz := KO.out.frozen; have ol := KO.out.lt
    have hOC : ¬ gO = gC := by omega
    have hOC2 : ¬ gC = gO := by omega
    have hON : ¬ gO = gN := by omega
    have hCN : ¬ gC = gN := by omega
    have HOa := zq (FN.out.m.b.off KO.out (by decide)); have HOb := zq (FN.out.m.f.off KO.out (by decide)); have HOc := zq (FN.out.m.l.off KO.out (by decide)); have HOd := zq (FN.out.m.o.off KO.out (by decide)); have HOe := zq (FN.out.k.off KO.out (by decide))
    have HCa := HBN; have HCb := zq (FN.out.m.f.off HC.out (by decide)); have HCc := zq (FN.out.m.l.off HC.out (by decide)); have HCd := zq (FN.out.m.o.off HC.out (by decide)); have HCe := zq (FN.out.k.off HC.out (by decide))
    go_wp2
    go_roundw
    case rel => exact ⟨k + 1, m, an, Kn, kn, _, by go_num, by omega, HMO.out, (Blk.put11 KO.out).far hOC _, ⟨⟨(zt FN.out.m.b HOa.out HCa.out), (zt FN.out.m.f HOb.out HCb.out), (zt FN.out.m.l HOc.out HCc.out), (zt FN.out.m.o HOd.out HCd.out)⟩, (zt FN.out.k HOe.out HCe.out)⟩, HBN.out, Bk.set_int (by with_reducible repeat' (first | exact HC.out | refine Bk.far ?_ (by first | (simp; done) | (simp; omega)) _)) _ hol, by rw [List.length_set]; exact HCL.out, (ze HE.out), (zf KR.out)⟩
    case measure => simp [intOf]; omega
  ·obtain rfl : k = n := by omega
   have HRa := zq (HFE.out.m.b.off KR.out (by decide)); have HRb := zq (HFE.out.m.f.off KR.out (by decide)); have HRc := zq (HFE.out.m.l.off KR.out (by decide)); have HRd := zq (HFE.out.m.o.off KR.out (by decide)); have HRe := zq (HFE.out.k.off KR.out (by decide))
   obtain ⟨o0, o1, o2, o3, o4, o5, o6, o7, o8, o9, o10⟩ := KO.out.c11
   obtain ⟨r0, r1, r2, r3, r4, r5, r6, r7, r8, r9, r10⟩ := KR.out.c11
   have rz := KR.out.frozen; have rl := KR.out.lt
   have hgR : ¬ gO = w.heap.size + 1 := by omega
   have hgR2 : ¬ w.heap.size + 1 = gO := by omega
   go_wp2
   exact bodyPost_ret (v := .tuple #[.agg #[.slice aq.b q.mach.table.buckets.length aq.bc, .slice aq.f q.mach.table.frames.length aq.fc, .slice aq.l q.mach.cache.lines.length aq.lc, .int .i64 q.mach.cache.hand, .int .i64 q.mach.tags.count, .int .i64 q.mach.tags.next, .int .i64 q.mach.tags.round, .slice aq.o q.mach.tags.owns.length aq.oc, .int .i64 q.mach.space, .slice Kq q.marks.length kq, .int .i64 q.hand], .slice (some ⟨gC, 0, none⟩) 5 5, .bool true]) (by simp [results, Tryz.results33, go_sem, *]) rfl
    ⟨q, true, _, aq, Kq, kq, rfl, fun _ => HQ.out, ⟨⟨(zr HFE.out.m.b HRa.out), (zr HFE.out.m.f HRb.out), (zr HFE.out.m.l HRc.out), (zr HFE.out.m.o HRd.out)⟩, (zr HFE.out.k HRe.out)⟩, (ze HE.out)⟩
end Go.Proofs.YtbdlpbladpppjaaGreatDoor
