/- Joined: Wl. -/
import Derived.Test.YtbdlpbladpppjaaGreatDoorK3
import Derived.Test.YtbdlpbladpppjaaGreatDoorK4
namespace Go.Proofs.YtbdlpbladpppjaaGreatDoor
open Go.ChangeShapes Go.WideShapes Go.ChangeAt Go.RowKit
open Rec (sz cs)
set_option linter.unusedVariables false
set_option maxRecDepth 100000

set_option maxHeartbeats 8000000 in
theorem l6Line_c (m : MachD) (a : MA) (x : LineD) (w : World) (hx : HasM w m a) (hf : FewM m) (hc : CapM m a) (hok : TableOk m.table) (ht : tagsV m.tags = true) (hp : 0 ≤ x.page ∧ x.page < 256) :
  Calls Tryz.prog 50 #[.agg #[.slice a.b m.table.buckets.length a.bc, .slice a.f m.table.frames.length a.fc, .slice a.l m.cache.lines.length a.lc, .int .i64 m.cache.hand, .int .i64 m.tags.count, .int .i64 m.tags.next, .int .i64 m.tags.round, .slice a.o m.tags.owns.length a.oc, .int .i64 m.space], .agg #[.bool x.valid, .int .i64 x.tag, .int .i64 x.page, .int .i64 x.frame, .int .i64 x.rights, .bool x.wired]] w fun r w' => r = .returned (.bool (lineFitsB m x)) ∧ Ex w w' := by
 obtain ⟨A, c, B, d, L, e, O, g⟩ := a
 obtain ⟨xv, xt, xp, xf, xr, xw⟩ := x
 dsimp only at hp ⊢
 have HB : Hid (Rd w A m.table.buckets) := zq hx.b
 have HF : Hid (Rd w B m.table.frames) := zq hx.f
 have HO : Hid (Rd w O m.tags.owns) := zq hx.o
 have CT := zq (fun w' (h : Rd w' O m.tags.owns) => spaceOfS_c m.tags xt O g w' h hf.o hc.o)
 have CF := zq (fun s w' (h1 : Rd w' A m.table.buckets) (h2 : Rd w' B m.table.frames) (hs : 0 ≤ s ∧ s < 16) => l3Find_c m.table A c B d (keyFor s xp) w' h1 h2 hok (keyFor_ok hs hp))
 have CK := zq (fun s w' => keyForS_c s xp w')
 have hsr := spaceOf_range (t := m.tags) xt ht
 have CEK : Hid (∀ (args : Array Value) (w : World), (callFunc 80 args).run Tryz.prog w = .ok (.enter 80 args) w) := zq (enters Tryz.func80 (by kernel_rfl) (by kernel_rfl))
 have CEF : Hid (∀ (args : Array Value) (w : World), (callFunc 79 args).run Tryz.prog w = .ok (.enter 79 args) w) := zq (enters Tryz.func79 (by kernel_rfl) (by kernel_rfl))
 clear hx hf hc ht hp hok
 generalize m.cache.lines.length = nl
 generalize m.tags.owns.length = no at CT ⊢
 by_cases htg : xt = -1
 ·by_cases hpg : 128 ≤ xp
  ·have hq : lineAt m ⟨xv, xt, xp, xf, xr, xw⟩ = findF m.table (keyFor 0 xp) := by unfold lineAt lineSpace; rw [if_pos htg]
   have CF0 := zq (fun w' h1 h2 => CF.out 0 w' h1 h2 (by omega))
   have CK0 := zq (fun w' => CK.out 0 w')
   have HT1 : Hid (xt = -1 ↔ 128 ≤ xp) := zq (by simp [htg, hpg])
   have HT2 : Hid (xt ≠ -1 → (spaceOf m.tags xt).2 = true) := zq (fun h => absurd htg h)
   clear hsr CT
   subst htg
   generalize keyFor 0 xp = kk at hq CF0 CK0
   rcases findF_range (t := m.table) kk with hm | ⟨i, f, hm, hfi⟩
   ·rw [lineFitsB_no (fun h => by obtain ⟨i, f, h1, _⟩ := h.2.2.1; rw [hq, hm] at h1; omega)]
    rw [hm] at CF0
    clear hq hm CF CK
    generalize m.table.frames.length = n at CF0 ⊢
    generalize m.table.buckets.length = nb at CF0 ⊢
    go_enter Tryz.func50, Tryz.ntmps50
    go_wp2_with fail
    obtain ⟨w0, hw0⟩ : ∃ w0 : World, w0 = (w.alloc (.cells #[.slice A nb c, .slice B n d, .slice L nl e, .int .i64 m.cache.hand, .int .i64 m.tags.count, .int .i64 m.tags.next, .int .i64 m.tags.round, .slice O no g, .int .i64 m.space] 34)).alloc (.cells #[.bool xv, .int .i64 (-1), .int .i64 xp, .int .i64 xf, .int .i64 xr, .bool xw] 64) := ⟨_, rfl⟩
    obtain ⟨gm, hgm⟩ : ∃ gm : Nat, gm = w.heap.size := ⟨_, rfl⟩
    obtain ⟨gl, hgl⟩ : ∃ gl : Nat, gl = w.heap.size + 1 := ⟨_, rfl⟩
    have K0 : Hid (Blk w0 gm 34 [.slice A nb c, .slice B n d, .slice L nl e, .int .i64 m.cache.hand, .int .i64 m.tags.count, .int .i64 m.tags.next, .int .i64 m.tags.round, .slice O no g, .int .i64 m.space]) := zq (by rw [hw0, hgm]; exact (Blk.new w _ _).alloc _)
    have K1 : Hid (Blk w0 gl 64 [.bool xv, .int .i64 (-1), .int .i64 xp, .int .i64 xf, .int .i64 xr, .bool xw]) := zq (by rw [hw0, hgl]; exact Blk.new_at _ _ _ (by simp))
    have E0 : Hid (Ex w w0) := zq (by rw [hw0]; exact ((Ex.refl w).alloc _).alloc _)
    rw [← hw0]
    rw [← hgl]
    rw [← hgm]
    clear hw0 hgm hgl
    have FK9 : Hid (∀ w', Ex w0 w' → (w'.cell? ⟨gm, 0, none⟩ = some (.slice A nb c) ∧ w'.cell? ⟨gm, 1, none⟩ = some (.slice B n d) ∧ w'.cell? ⟨gl, 2, none⟩ = some (.int .i64 xp))) := zq (fun w' h => ⟨(K0.out.ex h).c9.1, (K0.out.ex h).c9.2.1, (K1.out.ex h).c6.2.2.1⟩)
    refine wp_region_held_drew (S := (fun w' => (w'.cell? ⟨gm, 0, none⟩ = some (.slice A nb c) ∧ w'.cell? ⟨gm, 1, none⟩ = some (.slice B n d) ∧ w'.cell? ⟨gl, 2, none⟩ = some (.int .i64 xp)))) (by kernel_rfl) ?r0_hS0 (fun hHeld => ?_)
    case r0_hS0 => exact FK9.out _ (Ex.refl _).drew
    refine tk 0 ?_; refine tk 1 ?_; refine tk 2 ?_; refine tk 3 ?_; refine tk 4 ?_
    refine wpAnyH_ready (rs := [5]) (by kernel_rfl) (by simp) ?_
    refine AllReadyH.cons (o := ?r0_o5) ?r0_ho5 (fun K hK => ?_) AllReadyH.nil
    case r0_ho5 => (conv => lhs; whnf; arg 1; whnf)
    refine step_call_gu rfl CEK.out _ _ rfl #[.int .i64 0, .int .i64 xp] rfl (CK0.out _) ?_; rintro r wa ⟨rfl, hwa⟩; refine ⟨_, rfl, ?_⟩; have hxa := Ex.trans (Ex.refl _).drew hwa
    refine hK.out _ _ ?r0_hS5 (fun hHeld5 => ?_)
    case r0_hS5 => exact FK9.out _ hxa
    clear hK K hHeld
    try simp only [Act.put, List.setIfInBounds_toArray, List.set_cons_zero, List.set_cons_succ]
    refine wpAnyH_ready (rs := [6]) (by kernel_rfl) (by simp) ?_
    refine AllReadyH.cons (o := ?r0_o6) ?r0_ho6 (fun K hK => ?_) AllReadyH.nil
    case r0_ho6 => (conv => lhs; whnf; arg 1; whnf)
    refine step_call_gu rfl CEF.out _ _ rfl #[.agg #[.slice A nb c, .slice B n d], .agg #[.int .i64 kk.space, .int .i64 kk.page]] rfl (CF0.out _ (HB.out.ex (E0.out.trans hxa)) (HF.out.ex (E0.out.trans hxa))) ?_; rintro r w3 ⟨⟨s2, rfl⟩, he⟩; refine ⟨_, rfl, ?_⟩; have hx3 := Ex.trans hxa he
    refine hK.out _ _ ?r0_hS6 (fun hHeld6 => ?_)
    case r0_hS6 => exact FK9.out _ hx3
    clear hK K hHeld5
    try simp only [Act.put, List.setIfInBounds_toArray, List.set_cons_zero, List.set_cons_succ]
    refine tk 7 ?_; refine tk 8 ?_; refine tk 9 ?_; refine tk 10 ?_; refine tk 11 ?_
    refine wpAnyH_done (by kernel_rfl) ?_ _
    have HX3 := zq hx3
    clear hx3 hxa he hwa
    go_wp2_with fail
    have FK10 : Hid (∀ w', Ex w3 w' → True) := zq (fun w' h => trivial)
    refine wp_region_held_drew (S := (fun w' => True)) (by kernel_rfl) ?r1_hS0 (fun hHeld => ?_)
    case r1_hS0 => exact FK10.out _ (Ex.refl _).drew
    refine tk 0 ?_; refine tk 1 ?_; refine tk 2 ?_; refine tn 3 ?_; refine tn 4 ?_; refine tn 5 ?_; refine tn 6 ?_; refine tk 7 ?_; refine tk 8 ?_; refine tn 9 ?_; refine tn 10 ?_; refine tn 11 ?_; refine tn 12 ?_; refine tn 13 ?_
    refine tn 14 ?_; refine tn 15 ?_; refine tn 16 ?_; refine tn 17 ?_; refine tn 18 ?_; refine tk 19 ?_; refine tk 20 ?_; refine tn 21 ?_; refine tn 22 ?_; refine tn 23 ?_; refine tn 24 ?_; refine tn 25 ?_; refine tn 26 ?_; refine tn 27 ?_
    refine tn 28 ?_; refine tk 29 ?_; refine tk 30 ?_
    refine wpAnyH_done (by kernel_rfl) ?_ _
    go_wp2
    go_ret
    exact ⟨rfl, (E0.out.trans HX3.out).drew⟩
   rw [hm] at CF0 hq
   have hin := getElem?_lt hfi
   obtain ⟨b2, o2, f', rfl, hb2, hfi', k0, k1, k2, k3, k4⟩ := HF.out.frame hin
   have e : f = f' := by rw [hfi] at hfi'; injection hfi'
   subst e
   have HB2 := zq hb2
   have K3 := zq k3
   have HIFF : Hid (LineFits m ⟨xv, (-1), xp, xf, xr, xw⟩ ↔ (i : Int) = xf ∧ f.rights = xr ∧ (xw = true → (-1) = -1)) := zq (by
    constructor
    ·rintro ⟨_, _, ⟨i', f', h1, h2, h3, h4⟩, h5⟩
     have e : i' = i := by rw [hq] at h1; omega
     subst e
     rw [hfi] at h3
     injection h3 with h3
     rw [h3]
     exact ⟨h2, h4, h5⟩
    ·rintro ⟨h1, h2, h3⟩
     exact ⟨HT1.out, HT2.out, ⟨i, f, hq, h1, hfi, h2⟩, h3⟩)
   clear hb2 k0 k1 k2 k3 k4 hq hm hfi hfi' CF CK
   generalize m.table.frames.length = n at CF0 hin ⊢
   generalize m.table.buckets.length = nb at CF0 ⊢
   have hi0 : (0 : Int) ≤ (i : Int) := by omega
   by_cases hfr : (i : Int) = xf
   rotate_left
   ·rw [lineFitsB_no (fun h => hfr (HIFF.out.1 h).1)]
    have hbb : ((i : Int) == xf) = false := by simpa using hfr
    go_enter Tryz.func50, Tryz.ntmps50
    go_wp2_with fail
    obtain ⟨w0, hw0⟩ : ∃ w0 : World, w0 = (w.alloc (.cells #[.slice A nb c, .slice (some ⟨b2, o2, none⟩) n d, .slice L nl e, .int .i64 m.cache.hand, .int .i64 m.tags.count, .int .i64 m.tags.next, .int .i64 m.tags.round, .slice O no g, .int .i64 m.space] 34)).alloc (.cells #[.bool xv, .int .i64 (-1), .int .i64 xp, .int .i64 xf, .int .i64 xr, .bool xw] 64) := ⟨_, rfl⟩
    obtain ⟨gm, hgm⟩ : ∃ gm : Nat, gm = w.heap.size := ⟨_, rfl⟩
    obtain ⟨gl, hgl⟩ : ∃ gl : Nat, gl = w.heap.size + 1 := ⟨_, rfl⟩
    have K0 : Hid (Blk w0 gm 34 [.slice A nb c, .slice (some ⟨b2, o2, none⟩) n d, .slice L nl e, .int .i64 m.cache.hand, .int .i64 m.tags.count, .int .i64 m.tags.next, .int .i64 m.tags.round, .slice O no g, .int .i64 m.space]) := zq (by rw [hw0, hgm]; exact (Blk.new w _ _).alloc _)
    have K1 : Hid (Blk w0 gl 64 [.bool xv, .int .i64 (-1), .int .i64 xp, .int .i64 xf, .int .i64 xr, .bool xw]) := zq (by rw [hw0, hgl]; exact Blk.new_at _ _ _ (by simp))
    have E0 : Hid (Ex w w0) := zq (by rw [hw0]; exact ((Ex.refl w).alloc _).alloc _)
    rw [← hw0]
    rw [← hgl]
    rw [← hgm]
    clear hw0 hgm hgl
    have FK9 : Hid (∀ w', Ex w0 w' → (w'.cell? ⟨gm, 0, none⟩ = some (.slice A nb c) ∧ w'.cell? ⟨gm, 1, none⟩ = some (.slice (some ⟨b2, o2, none⟩) n d) ∧ w'.cell? ⟨gl, 2, none⟩ = some (.int .i64 xp))) := zq (fun w' h => ⟨(K0.out.ex h).c9.1, (K0.out.ex h).c9.2.1, (K1.out.ex h).c6.2.2.1⟩)
    refine wp_region_held_drew (S := (fun w' => (w'.cell? ⟨gm, 0, none⟩ = some (.slice A nb c) ∧ w'.cell? ⟨gm, 1, none⟩ = some (.slice (some ⟨b2, o2, none⟩) n d) ∧ w'.cell? ⟨gl, 2, none⟩ = some (.int .i64 xp)))) (by kernel_rfl) ?r2_hS0 (fun hHeld => ?_)
    case r2_hS0 => exact FK9.out _ (Ex.refl _).drew
    refine tk 0 ?_; refine tk 1 ?_; refine tk 2 ?_; refine tk 3 ?_; refine tk 4 ?_
    refine wpAnyH_ready (rs := [5]) (by kernel_rfl) (by simp) ?_
    refine AllReadyH.cons (o := ?r2_o5) ?r2_ho5 (fun K hK => ?_) AllReadyH.nil
    case r2_ho5 => (conv => lhs; whnf; arg 1; whnf)
    refine step_call_gu rfl CEK.out _ _ rfl #[.int .i64 0, .int .i64 xp] rfl (CK0.out _) ?_; rintro r wa ⟨rfl, hwa⟩; refine ⟨_, rfl, ?_⟩; have hxa := Ex.trans (Ex.refl _).drew hwa
    refine hK.out _ _ ?r2_hS5 (fun hHeld5 => ?_)
    case r2_hS5 => exact FK9.out _ hxa
    clear hK K hHeld
    try simp only [Act.put, List.setIfInBounds_toArray, List.set_cons_zero, List.set_cons_succ]
    refine wpAnyH_ready (rs := [6]) (by kernel_rfl) (by simp) ?_
    refine AllReadyH.cons (o := ?r2_o6) ?r2_ho6 (fun K hK => ?_) AllReadyH.nil
    case r2_ho6 => (conv => lhs; whnf; arg 1; whnf)
    refine step_call_gu rfl CEF.out _ _ rfl #[.agg #[.slice A nb c, .slice (some ⟨b2, o2, none⟩) n d], .agg #[.int .i64 kk.space, .int .i64 kk.page]] rfl (CF0.out _ (HB.out.ex (E0.out.trans hxa)) (HF.out.ex (E0.out.trans hxa))) ?_; rintro r w3 ⟨⟨s2, rfl⟩, he⟩; refine ⟨_, rfl, ?_⟩; have hx3 := Ex.trans hxa he
    refine hK.out _ _ ?r2_hS6 (fun hHeld6 => ?_)
    case r2_hS6 => exact FK9.out _ hx3
    clear hK K hHeld5
    try simp only [Act.put, List.setIfInBounds_toArray, List.set_cons_zero, List.set_cons_succ]
    refine tk 7 ?_; refine tk 8 ?_; refine tk 9 ?_; refine tk 10 ?_; refine tk 11 ?_
    refine wpAnyH_done (by kernel_rfl) ?_ _
    have HX3 := zq hx3
    clear hx3 hxa he hwa
    go_wp2_with fail
    have FK10 : Hid (∀ w', Ex w3 w' → (w'.cell? ⟨gl, 3, none⟩ = some (.int .i64 xf))) := zq (fun w' h => (K1.out.ex (HX3.out.trans h)).c6.2.2.2.1)
    refine wp_region_held_drew (S := (fun w' => (w'.cell? ⟨gl, 3, none⟩ = some (.int .i64 xf)))) (by kernel_rfl) ?r3_hS0 (fun hHeld => ?_)
    case r3_hS0 => exact FK10.out _ (Ex.refl _).drew
    refine tk 0 ?_; refine tk 1 ?_; refine tk 2 ?_; refine tk 3 ?_; refine tk 4 ?_; refine tk 5 ?_; refine tk 6 ?_; refine tk 7 ?_; refine tk 8 ?_; refine tn 9 ?_; refine tn 10 ?_; refine tn 11 ?_; refine tn 12 ?_; refine tn 13 ?_
    refine tn 14 ?_; refine tn 15 ?_; refine tn 16 ?_; refine tn 17 ?_; refine tn 18 ?_; refine tk 19 ?_; refine tk 20 ?_; refine tn 21 ?_; refine tn 22 ?_; refine tn 23 ?_; refine tn 24 ?_; refine tn 25 ?_; refine tn 26 ?_; refine tn 27 ?_
    refine tn 28 ?_; refine tk 29 ?_; refine tk 30 ?_
    refine wpAnyH_done (by kernel_rfl) ?_ _
    go_wp2
    go_ret
    exact ⟨rfl, (E0.out.trans HX3.out).drew⟩
   by_cases hr : f.rights = xr
   rotate_left
   ·rw [lineFitsB_no (fun h => hr (HIFF.out.1 h).2.1)]
    have hbb : (f.rights == xr) = false := by simpa using hr
    clear HIFF
    subst hfr
    go_enter Tryz.func50, Tryz.ntmps50
    go_wp2_with fail
    obtain ⟨w0, hw0⟩ : ∃ w0 : World, w0 = (w.alloc (.cells #[.slice A nb c, .slice (some ⟨b2, o2, none⟩) n d, .slice L nl e, .int .i64 m.cache.hand, .int .i64 m.tags.count, .int .i64 m.tags.next, .int .i64 m.tags.round, .slice O no g, .int .i64 m.space] 34)).alloc (.cells #[.bool xv, .int .i64 (-1), .int .i64 xp, .int .i64 (i : Int), .int .i64 xr, .bool xw] 64) := ⟨_, rfl⟩
    obtain ⟨gm, hgm⟩ : ∃ gm : Nat, gm = w.heap.size := ⟨_, rfl⟩
    obtain ⟨gl, hgl⟩ : ∃ gl : Nat, gl = w.heap.size + 1 := ⟨_, rfl⟩
    have K0 : Hid (Blk w0 gm 34 [.slice A nb c, .slice (some ⟨b2, o2, none⟩) n d, .slice L nl e, .int .i64 m.cache.hand, .int .i64 m.tags.count, .int .i64 m.tags.next, .int .i64 m.tags.round, .slice O no g, .int .i64 m.space]) := zq (by rw [hw0, hgm]; exact (Blk.new w _ _).alloc _)
    have K1 : Hid (Blk w0 gl 64 [.bool xv, .int .i64 (-1), .int .i64 xp, .int .i64 (i : Int), .int .i64 xr, .bool xw]) := zq (by rw [hw0, hgl]; exact Blk.new_at _ _ _ (by simp))
    have E0 : Hid (Ex w w0) := zq (by rw [hw0]; exact ((Ex.refl w).alloc _).alloc _)
    rw [← hw0]
    rw [← hgl]
    rw [← hgm]
    clear hw0 hgm hgl
    have FK9 : Hid (∀ w', Ex w0 w' → (w'.cell? ⟨gm, 0, none⟩ = some (.slice A nb c) ∧ w'.cell? ⟨gm, 1, none⟩ = some (.slice (some ⟨b2, o2, none⟩) n d) ∧ w'.cell? ⟨gl, 2, none⟩ = some (.int .i64 xp))) := zq (fun w' h => ⟨(K0.out.ex h).c9.1, (K0.out.ex h).c9.2.1, (K1.out.ex h).c6.2.2.1⟩)
    refine wp_region_held_drew (S := (fun w' => (w'.cell? ⟨gm, 0, none⟩ = some (.slice A nb c) ∧ w'.cell? ⟨gm, 1, none⟩ = some (.slice (some ⟨b2, o2, none⟩) n d) ∧ w'.cell? ⟨gl, 2, none⟩ = some (.int .i64 xp)))) (by kernel_rfl) ?r4_hS0 (fun hHeld => ?_)
    case r4_hS0 => exact FK9.out _ (Ex.refl _).drew
    refine tk 0 ?_; refine tk 1 ?_; refine tk 2 ?_; refine tk 3 ?_; refine tk 4 ?_
    refine wpAnyH_ready (rs := [5]) (by kernel_rfl) (by simp) ?_
    refine AllReadyH.cons (o := ?r4_o5) ?r4_ho5 (fun K hK => ?_) AllReadyH.nil
    case r4_ho5 => (conv => lhs; whnf; arg 1; whnf)
    refine step_call_gu rfl CEK.out _ _ rfl #[.int .i64 0, .int .i64 xp] rfl (CK0.out _) ?_; rintro r wa ⟨rfl, hwa⟩; refine ⟨_, rfl, ?_⟩; have hxa := Ex.trans (Ex.refl _).drew hwa
    refine hK.out _ _ ?r4_hS5 (fun hHeld5 => ?_)
    case r4_hS5 => exact FK9.out _ hxa
    clear hK K hHeld
    try simp only [Act.put, List.setIfInBounds_toArray, List.set_cons_zero, List.set_cons_succ]
    refine wpAnyH_ready (rs := [6]) (by kernel_rfl) (by simp) ?_
    refine AllReadyH.cons (o := ?r4_o6) ?r4_ho6 (fun K hK => ?_) AllReadyH.nil
    case r4_ho6 => (conv => lhs; whnf; arg 1; whnf)
    refine step_call_gu rfl CEF.out _ _ rfl #[.agg #[.slice A nb c, .slice (some ⟨b2, o2, none⟩) n d], .agg #[.int .i64 kk.space, .int .i64 kk.page]] rfl (CF0.out _ (HB.out.ex (E0.out.trans hxa)) (HF.out.ex (E0.out.trans hxa))) ?_; rintro r w3 ⟨⟨s2, rfl⟩, he⟩; refine ⟨_, rfl, ?_⟩; have hx3 := Ex.trans hxa he
    refine hK.out _ _ ?r4_hS6 (fun hHeld6 => ?_)
    case r4_hS6 => exact FK9.out _ hx3
    clear hK K hHeld5
    try simp only [Act.put, List.setIfInBounds_toArray, List.set_cons_zero, List.set_cons_succ]
    refine tk 7 ?_; refine tk 8 ?_; refine tk 9 ?_; refine tk 10 ?_; refine tk 11 ?_
    refine wpAnyH_done (by kernel_rfl) ?_ _
    have HX3 := zq hx3
    clear hx3 hxa he hwa
    go_wp2_with fail
    have FK10 : Hid (∀ w', Ex w3 w' → (w'.cell? ⟨gl, 3, none⟩ = some (.int .i64 (i : Int)) ∧ w'.cell? ⟨gl, 4, none⟩ = some (.int .i64 xr) ∧ w'.cell? ⟨gm, 1, none⟩ = some (.slice (some ⟨b2, o2, none⟩) n d) ∧ w'.cell? ⟨b2, o2 + i * 5 + 3, none⟩ = some (.int .i64 f.rights))) := zq (fun w' h => ⟨(K1.out.ex (HX3.out.trans h)).c6.2.2.2.1, (K1.out.ex (HX3.out.trans h)).c6.2.2.2.2.1, (K0.out.ex (HX3.out.trans h)).c9.2.1, (((E0.out.trans HX3.out).trans h).cell HB2.out).trans K3.out⟩)
    refine wp_region_held_drew (S := (fun w' => (w'.cell? ⟨gl, 3, none⟩ = some (.int .i64 (i : Int)) ∧ w'.cell? ⟨gl, 4, none⟩ = some (.int .i64 xr) ∧ w'.cell? ⟨gm, 1, none⟩ = some (.slice (some ⟨b2, o2, none⟩) n d) ∧ w'.cell? ⟨b2, o2 + i * 5 + 3, none⟩ = some (.int .i64 f.rights)))) (by kernel_rfl) ?r5_hS0 (fun hHeld => ?_)
    case r5_hS0 => exact FK10.out _ (Ex.refl _).drew
    refine tk 0 ?_; refine tk 1 ?_; refine tk 2 ?_; refine tk 3 ?_; refine tk 4 ?_; refine tk 5 ?_; refine tk 6 ?_; refine tk 7 ?_; refine tk 8 ?_; refine tk 9 ?_; refine tk 10 ?_; refine tk 11 ?_; refine tk 12 ?_; refine tk 13 ?_
    refine tk 14 ?_; refine tk 15 ?_; refine tk 16 ?_; refine tk 17 ?_; refine tk 18 ?_; refine tk 19 ?_; refine tk 20 ?_; refine tn 21 ?_; refine tn 22 ?_; refine tn 23 ?_; refine tn 24 ?_; refine tn 25 ?_; refine tn 26 ?_; refine tn 27 ?_
    refine tn 28 ?_; refine tk 29 ?_; refine tk 30 ?_
    refine wpAnyH_done (by kernel_rfl) ?_ _
    go_wp2
    go_ret
    exact ⟨rfl, (E0.out.trans HX3.out).drew⟩
   cases xw
   ·rw [lineFitsB_iff.2 (HIFF.out.2 ⟨hfr, hr, (fun h => by cases h)⟩)]
    clear HIFF
    subst hfr
    subst hr
    go_enter Tryz.func50, Tryz.ntmps50
    go_wp2_with fail
    obtain ⟨w0, hw0⟩ : ∃ w0 : World, w0 = (w.alloc (.cells #[.slice A nb c, .slice (some ⟨b2, o2, none⟩) n d, .slice L nl e, .int .i64 m.cache.hand, .int .i64 m.tags.count, .int .i64 m.tags.next, .int .i64 m.tags.round, .slice O no g, .int .i64 m.space] 34)).alloc (.cells #[.bool xv, .int .i64 (-1), .int .i64 xp, .int .i64 (i : Int), .int .i64 f.rights, .bool false] 64) := ⟨_, rfl⟩
    obtain ⟨gm, hgm⟩ : ∃ gm : Nat, gm = w.heap.size := ⟨_, rfl⟩
    obtain ⟨gl, hgl⟩ : ∃ gl : Nat, gl = w.heap.size + 1 := ⟨_, rfl⟩
    have K0 : Hid (Blk w0 gm 34 [.slice A nb c, .slice (some ⟨b2, o2, none⟩) n d, .slice L nl e, .int .i64 m.cache.hand, .int .i64 m.tags.count, .int .i64 m.tags.next, .int .i64 m.tags.round, .slice O no g, .int .i64 m.space]) := zq (by rw [hw0, hgm]; exact (Blk.new w _ _).alloc _)
    have K1 : Hid (Blk w0 gl 64 [.bool xv, .int .i64 (-1), .int .i64 xp, .int .i64 (i : Int), .int .i64 f.rights, .bool false]) := zq (by rw [hw0, hgl]; exact Blk.new_at _ _ _ (by simp))
    have E0 : Hid (Ex w w0) := zq (by rw [hw0]; exact ((Ex.refl w).alloc _).alloc _)
    rw [← hw0]
    rw [← hgl]
    rw [← hgm]
    clear hw0 hgm hgl
    have FK9 : Hid (∀ w', Ex w0 w' → (w'.cell? ⟨gm, 0, none⟩ = some (.slice A nb c) ∧ w'.cell? ⟨gm, 1, none⟩ = some (.slice (some ⟨b2, o2, none⟩) n d) ∧ w'.cell? ⟨gl, 2, none⟩ = some (.int .i64 xp))) := zq (fun w' h => ⟨(K0.out.ex h).c9.1, (K0.out.ex h).c9.2.1, (K1.out.ex h).c6.2.2.1⟩)
    refine wp_region_held_drew (S := (fun w' => (w'.cell? ⟨gm, 0, none⟩ = some (.slice A nb c) ∧ w'.cell? ⟨gm, 1, none⟩ = some (.slice (some ⟨b2, o2, none⟩) n d) ∧ w'.cell? ⟨gl, 2, none⟩ = some (.int .i64 xp)))) (by kernel_rfl) ?r6_hS0 (fun hHeld => ?_)
    case r6_hS0 => exact FK9.out _ (Ex.refl _).drew
    refine tk 0 ?_; refine tk 1 ?_; refine tk 2 ?_; refine tk 3 ?_; refine tk 4 ?_
    refine wpAnyH_ready (rs := [5]) (by kernel_rfl) (by simp) ?_
    refine AllReadyH.cons (o := ?r6_o5) ?r6_ho5 (fun K hK => ?_) AllReadyH.nil
    case r6_ho5 => (conv => lhs; whnf; arg 1; whnf)
    refine step_call_gu rfl CEK.out _ _ rfl #[.int .i64 0, .int .i64 xp] rfl (CK0.out _) ?_; rintro r wa ⟨rfl, hwa⟩; refine ⟨_, rfl, ?_⟩; have hxa := Ex.trans (Ex.refl _).drew hwa
    refine hK.out _ _ ?r6_hS5 (fun hHeld5 => ?_)
    case r6_hS5 => exact FK9.out _ hxa
    clear hK K hHeld
    try simp only [Act.put, List.setIfInBounds_toArray, List.set_cons_zero, List.set_cons_succ]
    refine wpAnyH_ready (rs := [6]) (by kernel_rfl) (by simp) ?_
    refine AllReadyH.cons (o := ?r6_o6) ?r6_ho6 (fun K hK => ?_) AllReadyH.nil
    case r6_ho6 => (conv => lhs; whnf; arg 1; whnf)
    refine step_call_gu rfl CEF.out _ _ rfl #[.agg #[.slice A nb c, .slice (some ⟨b2, o2, none⟩) n d], .agg #[.int .i64 kk.space, .int .i64 kk.page]] rfl (CF0.out _ (HB.out.ex (E0.out.trans hxa)) (HF.out.ex (E0.out.trans hxa))) ?_; rintro r w3 ⟨⟨s2, rfl⟩, he⟩; refine ⟨_, rfl, ?_⟩; have hx3 := Ex.trans hxa he
    refine hK.out _ _ ?r6_hS6 (fun hHeld6 => ?_)
    case r6_hS6 => exact FK9.out _ hx3
    clear hK K hHeld5
    try simp only [Act.put, List.setIfInBounds_toArray, List.set_cons_zero, List.set_cons_succ]
    refine tk 7 ?_; refine tk 8 ?_; refine tk 9 ?_; refine tk 10 ?_; refine tk 11 ?_
    refine wpAnyH_done (by kernel_rfl) ?_ _
    have HX3 := zq hx3
    clear hx3 hxa he hwa
    go_wp2_with fail
    have FK10 : Hid (∀ w', Ex w3 w' → (w'.cell? ⟨gl, 3, none⟩ = some (.int .i64 (i : Int)) ∧ w'.cell? ⟨gl, 4, none⟩ = some (.int .i64 f.rights) ∧ w'.cell? ⟨gl, 5, none⟩ = some (.bool false) ∧ w'.cell? ⟨gm, 1, none⟩ = some (.slice (some ⟨b2, o2, none⟩) n d) ∧ w'.cell? ⟨b2, o2 + i * 5 + 3, none⟩ = some (.int .i64 f.rights))) := zq (fun w' h => ⟨(K1.out.ex (HX3.out.trans h)).c6.2.2.2.1, (K1.out.ex (HX3.out.trans h)).c6.2.2.2.2.1, (K1.out.ex (HX3.out.trans h)).c6.2.2.2.2.2, (K0.out.ex (HX3.out.trans h)).c9.2.1, (((E0.out.trans HX3.out).trans h).cell HB2.out).trans K3.out⟩)
    refine wp_region_held_drew (S := (fun w' => (w'.cell? ⟨gl, 3, none⟩ = some (.int .i64 (i : Int)) ∧ w'.cell? ⟨gl, 4, none⟩ = some (.int .i64 f.rights) ∧ w'.cell? ⟨gl, 5, none⟩ = some (.bool false) ∧ w'.cell? ⟨gm, 1, none⟩ = some (.slice (some ⟨b2, o2, none⟩) n d) ∧ w'.cell? ⟨b2, o2 + i * 5 + 3, none⟩ = some (.int .i64 f.rights)))) (by kernel_rfl) ?r7_hS0 (fun hHeld => ?_)
    case r7_hS0 => exact FK10.out _ (Ex.refl _).drew
    refine tk 0 ?_; refine tk 1 ?_; refine tk 2 ?_; refine tk 3 ?_; refine tk 4 ?_; refine tk 5 ?_; refine tk 6 ?_; refine tk 7 ?_; refine tk 8 ?_; refine tk 9 ?_; refine tk 10 ?_; refine tk 11 ?_; refine tk 12 ?_; refine tk 13 ?_
    refine tk 14 ?_; refine tk 15 ?_; refine tk 16 ?_; refine tk 17 ?_; refine tk 18 ?_; refine tk 19 ?_; refine tk 20 ?_; refine tk 21 ?_; refine tk 22 ?_; refine tk 23 ?_; refine tk 24 ?_; refine tn 25 ?_; refine tn 26 ?_; refine tn 27 ?_
    refine tk 28 ?_; refine tk 29 ?_; refine tk 30 ?_
    refine wpAnyH_done (by kernel_rfl) ?_ _
    go_wp2
    go_ret
    exact ⟨rfl, (E0.out.trans HX3.out).drew⟩
   ·rw [lineFitsB_iff.2 (HIFF.out.2 ⟨hfr, hr, (fun _ => rfl)⟩)]
    clear HIFF
    subst hfr
    subst hr
    go_enter Tryz.func50, Tryz.ntmps50
    go_wp2_with fail
    obtain ⟨w0, hw0⟩ : ∃ w0 : World, w0 = (w.alloc (.cells #[.slice A nb c, .slice (some ⟨b2, o2, none⟩) n d, .slice L nl e, .int .i64 m.cache.hand, .int .i64 m.tags.count, .int .i64 m.tags.next, .int .i64 m.tags.round, .slice O no g, .int .i64 m.space] 34)).alloc (.cells #[.bool xv, .int .i64 (-1), .int .i64 xp, .int .i64 (i : Int), .int .i64 f.rights, .bool true] 64) := ⟨_, rfl⟩
    obtain ⟨gm, hgm⟩ : ∃ gm : Nat, gm = w.heap.size := ⟨_, rfl⟩
    obtain ⟨gl, hgl⟩ : ∃ gl : Nat, gl = w.heap.size + 1 := ⟨_, rfl⟩
    have K0 : Hid (Blk w0 gm 34 [.slice A nb c, .slice (some ⟨b2, o2, none⟩) n d, .slice L nl e, .int .i64 m.cache.hand, .int .i64 m.tags.count, .int .i64 m.tags.next, .int .i64 m.tags.round, .slice O no g, .int .i64 m.space]) := zq (by rw [hw0, hgm]; exact (Blk.new w _ _).alloc _)
    have K1 : Hid (Blk w0 gl 64 [.bool xv, .int .i64 (-1), .int .i64 xp, .int .i64 (i : Int), .int .i64 f.rights, .bool true]) := zq (by rw [hw0, hgl]; exact Blk.new_at _ _ _ (by simp))
    have E0 : Hid (Ex w w0) := zq (by rw [hw0]; exact ((Ex.refl w).alloc _).alloc _)
    rw [← hw0]
    rw [← hgl]
    rw [← hgm]
    clear hw0 hgm hgl
    have FK9 : Hid (∀ w', Ex w0 w' → (w'.cell? ⟨gm, 0, none⟩ = some (.slice A nb c) ∧ w'.cell? ⟨gm, 1, none⟩ = some (.slice (some ⟨b2, o2, none⟩) n d) ∧ w'.cell? ⟨gl, 2, none⟩ = some (.int .i64 xp))) := zq (fun w' h => ⟨(K0.out.ex h).c9.1, (K0.out.ex h).c9.2.1, (K1.out.ex h).c6.2.2.1⟩)
    refine wp_region_held_drew (S := (fun w' => (w'.cell? ⟨gm, 0, none⟩ = some (.slice A nb c) ∧ w'.cell? ⟨gm, 1, none⟩ = some (.slice (some ⟨b2, o2, none⟩) n d) ∧ w'.cell? ⟨gl, 2, none⟩ = some (.int .i64 xp)))) (by kernel_rfl) ?r8_hS0 (fun hHeld => ?_)
    case r8_hS0 => exact FK9.out _ (Ex.refl _).drew
    refine tk 0 ?_; refine tk 1 ?_; refine tk 2 ?_; refine tk 3 ?_; refine tk 4 ?_
    refine wpAnyH_ready (rs := [5]) (by kernel_rfl) (by simp) ?_
    refine AllReadyH.cons (o := ?r8_o5) ?r8_ho5 (fun K hK => ?_) AllReadyH.nil
    case r8_ho5 => (conv => lhs; whnf; arg 1; whnf)
    refine step_call_gu rfl CEK.out _ _ rfl #[.int .i64 0, .int .i64 xp] rfl (CK0.out _) ?_; rintro r wa ⟨rfl, hwa⟩; refine ⟨_, rfl, ?_⟩; have hxa := Ex.trans (Ex.refl _).drew hwa
    refine hK.out _ _ ?r8_hS5 (fun hHeld5 => ?_)
    case r8_hS5 => exact FK9.out _ hxa
    clear hK K hHeld
    try simp only [Act.put, List.setIfInBounds_toArray, List.set_cons_zero, List.set_cons_succ]
    refine wpAnyH_ready (rs := [6]) (by kernel_rfl) (by simp) ?_
    refine AllReadyH.cons (o := ?r8_o6) ?r8_ho6 (fun K hK => ?_) AllReadyH.nil
    case r8_ho6 => (conv => lhs; whnf; arg 1; whnf)
    refine step_call_gu rfl CEF.out _ _ rfl #[.agg #[.slice A nb c, .slice (some ⟨b2, o2, none⟩) n d], .agg #[.int .i64 kk.space, .int .i64 kk.page]] rfl (CF0.out _ (HB.out.ex (E0.out.trans hxa)) (HF.out.ex (E0.out.trans hxa))) ?_; rintro r w3 ⟨⟨s2, rfl⟩, he⟩; refine ⟨_, rfl, ?_⟩; have hx3 := Ex.trans hxa he
    refine hK.out _ _ ?r8_hS6 (fun hHeld6 => ?_)
    case r8_hS6 => exact FK9.out _ hx3
    clear hK K hHeld5
    try simp only [Act.put, List.setIfInBounds_toArray, List.set_cons_zero, List.set_cons_succ]
    refine tk 7 ?_; refine tk 8 ?_; refine tk 9 ?_; refine tk 10 ?_; refine tk 11 ?_
    refine wpAnyH_done (by kernel_rfl) ?_ _
    have HX3 := zq hx3
    clear hx3 hxa he hwa
    go_wp2_with fail
    have FK10 : Hid (∀ w', Ex w3 w' → (w'.cell? ⟨gl, 3, none⟩ = some (.int .i64 (i : Int)) ∧ w'.cell? ⟨gl, 4, none⟩ = some (.int .i64 f.rights) ∧ w'.cell? ⟨gl, 5, none⟩ = some (.bool true) ∧ w'.cell? ⟨gl, 1, none⟩ = some (.int .i64 (-1)) ∧ w'.cell? ⟨gm, 1, none⟩ = some (.slice (some ⟨b2, o2, none⟩) n d) ∧ w'.cell? ⟨b2, o2 + i * 5 + 3, none⟩ = some (.int .i64 f.rights))) := zq (fun w' h => ⟨(K1.out.ex (HX3.out.trans h)).c6.2.2.2.1, (K1.out.ex (HX3.out.trans h)).c6.2.2.2.2.1, (K1.out.ex (HX3.out.trans h)).c6.2.2.2.2.2, (K1.out.ex (HX3.out.trans h)).c6.2.1, (K0.out.ex (HX3.out.trans h)).c9.2.1, (((E0.out.trans HX3.out).trans h).cell HB2.out).trans K3.out⟩)
    refine wp_region_held_drew (S := (fun w' => (w'.cell? ⟨gl, 3, none⟩ = some (.int .i64 (i : Int)) ∧ w'.cell? ⟨gl, 4, none⟩ = some (.int .i64 f.rights) ∧ w'.cell? ⟨gl, 5, none⟩ = some (.bool true) ∧ w'.cell? ⟨gl, 1, none⟩ = some (.int .i64 (-1)) ∧ w'.cell? ⟨gm, 1, none⟩ = some (.slice (some ⟨b2, o2, none⟩) n d) ∧ w'.cell? ⟨b2, o2 + i * 5 + 3, none⟩ = some (.int .i64 f.rights)))) (by kernel_rfl) ?r9_hS0 (fun hHeld => ?_)
    case r9_hS0 => exact FK10.out _ (Ex.refl _).drew
    refine tk 0 ?_; refine tk 1 ?_; refine tk 2 ?_; refine tk 3 ?_; refine tk 4 ?_; refine tk 5 ?_; refine tk 6 ?_; refine tk 7 ?_; refine tk 8 ?_; refine tk 9 ?_; refine tk 10 ?_; refine tk 11 ?_; refine tk 12 ?_; refine tk 13 ?_
    refine tk 14 ?_; refine tk 15 ?_; refine tk 16 ?_; refine tk 17 ?_; refine tk 18 ?_; refine tk 19 ?_; refine tk 20 ?_; refine tk 21 ?_; refine tk 22 ?_; refine tk 23 ?_; refine tk 24 ?_; refine tk 25 ?_; refine tk 26 ?_; refine tk 27 ?_
    refine tk 28 ?_; refine tk 29 ?_; refine tk 30 ?_
    refine wpAnyH_done (by kernel_rfl) ?_ _
    go_wp2
    go_ret
    exact ⟨rfl, (E0.out.trans HX3.out).drew⟩
  ·rw [lineFitsB_no (fun h => hpg (h.1.1 htg))]
   subst htg
   clear CT CF CK hsr
   generalize m.table.frames.length = n
   generalize m.table.buckets.length = nb
   go_enter Tryz.func50, Tryz.ntmps50
   go_wp2
   go_ret
   exact ⟨rfl, ((Ex.refl _).alloc _).alloc _⟩
 ·have hb1 : (xt == -1) = false := by simpa using htg
  have hb2 : (!xt == -1) = true := by simp [hb1]
  by_cases hpg : 128 ≤ xp
  ·rw [lineFitsB_no (fun h => htg (h.1.2 hpg))]
   clear CT CF CK hsr
   generalize m.table.frames.length = n
   generalize m.table.buckets.length = nb
   go_enter Tryz.func50, Tryz.ntmps50
   go_wp2
   go_ret
   exact ⟨rfl, ((Ex.refl _).alloc _).alloc _⟩
  ·cases hso : (spaceOf m.tags xt).2
   ·rw [lineFitsB_no (fun h => by have h1 : (spaceOf m.tags xt).2 = true := h.2.1 htg; rw [hso] at h1; cases h1)]
    rw [hso] at CT
    generalize (spaceOf m.tags xt).1 = sp at CT
    clear CF CK hsr hso
    generalize m.table.frames.length = n
    generalize m.table.buckets.length = nb
    go_enter Tryz.func50, Tryz.ntmps50
    go_wp2_with fail
    refine (CT.out _ ((HO.out.alloc _).alloc _)).mono ?_
    rintro r w0 ⟨rfl, he⟩
    go_wp2
    go_ret
    exact ⟨rfl, (((Ex.refl _).alloc _).alloc _).trans he⟩
   ·have hq : lineAt m ⟨xv, xt, xp, xf, xr, xw⟩ = findF m.table (keyFor (spaceOf m.tags xt).1 xp) := by unfold lineAt lineSpace; rw [if_neg htg]
    have HT1 : Hid (xt = -1 ↔ 128 ≤ xp) := zq (by simp [htg, hpg])
    have HT2 : Hid (xt ≠ -1 → (spaceOf m.tags xt).2 = true) := zq (fun h => hso)
    rw [hso] at CT
    generalize (spaceOf m.tags xt).1 = sp at CT hq hsr
    have CF0 := zq (fun w' h1 h2 => CF.out sp w' h1 h2 hsr)
    have CK0 := zq (fun w' => CK.out sp w')
    clear hsr hso
    generalize keyFor sp xp = kk at hq CF0 CK0
    rcases findF_range (t := m.table) kk with hm | ⟨i, f, hm, hfi⟩
    ·rw [lineFitsB_no (fun h => by obtain ⟨i, f, h1, _⟩ := h.2.2.1; rw [hq, hm] at h1; omega)]
     rw [hm] at CF0
     clear hq hm CF CK
     generalize m.table.frames.length = n at CF0 ⊢
     generalize m.table.buckets.length = nb at CF0 ⊢
     go_enter Tryz.func50, Tryz.ntmps50
     go_wp2_with fail
     refine (CT.out _ ((HO.out.alloc _).alloc _)).mono ?_
     rintro r w0 ⟨rfl, he⟩
     obtain ⟨gm, hgm⟩ : ∃ gm : Nat, gm = w.heap.size := ⟨_, rfl⟩
     obtain ⟨gl, hgl⟩ : ∃ gl : Nat, gl = w.heap.size + 1 := ⟨_, rfl⟩
     have K0 : Hid (Blk w0 gm 34 [.slice A nb c, .slice B n d, .slice L nl e, .int .i64 m.cache.hand, .int .i64 m.tags.count, .int .i64 m.tags.next, .int .i64 m.tags.round, .slice O no g, .int .i64 m.space]) := zq (by rw [hgm]; exact ((Blk.new w _ _).alloc _).ex he)
     have K1 : Hid (Blk w0 gl 64 [.bool xv, .int .i64 xt, .int .i64 xp, .int .i64 xf, .int .i64 xr, .bool xw]) := zq (by rw [hgl]; exact (Blk.new_at _ _ _ (by simp)).ex he)
     have E0 : Hid (Ex w w0) := zq (((Ex.refl w).alloc _).alloc _ |>.trans he)
     clear he
     rw [← hgl]
     rw [← hgm]
     clear hgm hgl
     go_wp2_with fail
     have FK9 : Hid (∀ w', Ex w0 w' → (w'.cell? ⟨gm, 0, none⟩ = some (.slice A nb c) ∧ w'.cell? ⟨gm, 1, none⟩ = some (.slice B n d) ∧ w'.cell? ⟨gl, 2, none⟩ = some (.int .i64 xp))) := zq (fun w' h => ⟨(K0.out.ex h).c9.1, (K0.out.ex h).c9.2.1, (K1.out.ex h).c6.2.2.1⟩)
     refine wp_region_held_drew (S := (fun w' => (w'.cell? ⟨gm, 0, none⟩ = some (.slice A nb c) ∧ w'.cell? ⟨gm, 1, none⟩ = some (.slice B n d) ∧ w'.cell? ⟨gl, 2, none⟩ = some (.int .i64 xp)))) (by kernel_rfl) ?r10_hS0 (fun hHeld => ?_)
     case r10_hS0 => exact FK9.out _ (Ex.refl _).drew
     refine tk 0 ?_; refine tk 1 ?_; refine tk 2 ?_; refine tk 3 ?_; refine tk 4 ?_
     refine wpAnyH_ready (rs := [5]) (by kernel_rfl) (by simp) ?_
     refine AllReadyH.cons (o := ?r10_o5) ?r10_ho5 (fun K hK => ?_) AllReadyH.nil
     case r10_ho5 => (conv => lhs; whnf; arg 1; whnf)
     refine step_call_gu rfl CEK.out _ _ rfl #[.int .i64 sp, .int .i64 xp] rfl (CK0.out _) ?_; rintro r wa ⟨rfl, hwa⟩; refine ⟨_, rfl, ?_⟩; have hxa := Ex.trans (Ex.refl _).drew hwa
     refine hK.out _ _ ?r10_hS5 (fun hHeld5 => ?_)
     case r10_hS5 => exact FK9.out _ hxa
     clear hK K hHeld
     try simp only [Act.put, List.setIfInBounds_toArray, List.set_cons_zero, List.set_cons_succ]
     refine wpAnyH_ready (rs := [6]) (by kernel_rfl) (by simp) ?_
     refine AllReadyH.cons (o := ?r10_o6) ?r10_ho6 (fun K hK => ?_) AllReadyH.nil
     case r10_ho6 => (conv => lhs; whnf; arg 1; whnf)
     refine step_call_gu rfl CEF.out _ _ rfl #[.agg #[.slice A nb c, .slice B n d], .agg #[.int .i64 kk.space, .int .i64 kk.page]] rfl (CF0.out _ (HB.out.ex (E0.out.trans hxa)) (HF.out.ex (E0.out.trans hxa))) ?_; rintro r w3 ⟨⟨s2, rfl⟩, he⟩; refine ⟨_, rfl, ?_⟩; have hx3 := Ex.trans hxa he
     refine hK.out _ _ ?r10_hS6 (fun hHeld6 => ?_)
     case r10_hS6 => exact FK9.out _ hx3
     clear hK K hHeld5
     try simp only [Act.put, List.setIfInBounds_toArray, List.set_cons_zero, List.set_cons_succ]
     refine tk 7 ?_; refine tk 8 ?_; refine tk 9 ?_; refine tk 10 ?_; refine tk 11 ?_
     refine wpAnyH_done (by kernel_rfl) ?_ _
     have HX3 := zq hx3
     clear hx3 hxa he hwa
     go_wp2_with fail
     have FK10 : Hid (∀ w', Ex w3 w' → True) := zq (fun w' h => trivial)
     refine wp_region_held_drew (S := (fun w' => True)) (by kernel_rfl) ?r11_hS0 (fun hHeld => ?_)
     case r11_hS0 => exact FK10.out _ (Ex.refl _).drew
     refine tk 0 ?_; refine tk 1 ?_; refine tk 2 ?_; refine tn 3 ?_; refine tn 4 ?_; refine tn 5 ?_; refine tn 6 ?_; refine tk 7 ?_; refine tk 8 ?_; refine tn 9 ?_; refine tn 10 ?_; refine tn 11 ?_; refine tn 12 ?_; refine tn 13 ?_
     refine tn 14 ?_; refine tn 15 ?_; refine tn 16 ?_; refine tn 17 ?_; refine tn 18 ?_; refine tk 19 ?_; refine tk 20 ?_; refine tn 21 ?_; refine tn 22 ?_; refine tn 23 ?_; refine tn 24 ?_; refine tn 25 ?_; refine tn 26 ?_; refine tn 27 ?_
     refine tn 28 ?_; refine tk 29 ?_; refine tk 30 ?_
     refine wpAnyH_done (by kernel_rfl) ?_ _
     go_wp2
     go_ret
     exact ⟨rfl, (E0.out.trans HX3.out).drew⟩
    rw [hm] at CF0 hq
    have hin := getElem?_lt hfi
    obtain ⟨b2, o2, f', rfl, hb2, hfi', k0, k1, k2, k3, k4⟩ := HF.out.frame hin
    have e : f = f' := by rw [hfi] at hfi'; injection hfi'
    subst e
    have HB2 := zq hb2
    have K3 := zq k3
    have HIFF : Hid (LineFits m ⟨xv, xt, xp, xf, xr, xw⟩ ↔ (i : Int) = xf ∧ f.rights = xr ∧ (xw = true → xt = -1)) := zq (by
     constructor
     ·rintro ⟨_, _, ⟨i', f', h1, h2, h3, h4⟩, h5⟩
      have e : i' = i := by rw [hq] at h1; omega
      subst e
      rw [hfi] at h3
      injection h3 with h3
      rw [h3]
      exact ⟨h2, h4, h5⟩
     ·rintro ⟨h1, h2, h3⟩
      exact ⟨HT1.out, HT2.out, ⟨i, f, hq, h1, hfi, h2⟩, h3⟩)
    clear hb2 k0 k1 k2 k3 k4 hq hm hfi hfi' CF CK
    generalize m.table.frames.length = n at CF0 hin ⊢
    generalize m.table.buckets.length = nb at CF0 ⊢
    have hi0 : (0 : Int) ≤ (i : Int) := by omega
    by_cases hfr : (i : Int) = xf
    rotate_left
    ·rw [lineFitsB_no (fun h => hfr (HIFF.out.1 h).1)]
     have hbb : ((i : Int) == xf) = false := by simpa using hfr
     go_enter Tryz.func50, Tryz.ntmps50
     go_wp2_with fail
     refine (CT.out _ ((HO.out.alloc _).alloc _)).mono ?_
     rintro r w0 ⟨rfl, he⟩
     obtain ⟨gm, hgm⟩ : ∃ gm : Nat, gm = w.heap.size := ⟨_, rfl⟩
     obtain ⟨gl, hgl⟩ : ∃ gl : Nat, gl = w.heap.size + 1 := ⟨_, rfl⟩
     have K0 : Hid (Blk w0 gm 34 [.slice A nb c, .slice (some ⟨b2, o2, none⟩) n d, .slice L nl e, .int .i64 m.cache.hand, .int .i64 m.tags.count, .int .i64 m.tags.next, .int .i64 m.tags.round, .slice O no g, .int .i64 m.space]) := zq (by rw [hgm]; exact ((Blk.new w _ _).alloc _).ex he)
     have K1 : Hid (Blk w0 gl 64 [.bool xv, .int .i64 xt, .int .i64 xp, .int .i64 xf, .int .i64 xr, .bool xw]) := zq (by rw [hgl]; exact (Blk.new_at _ _ _ (by simp)).ex he)
     have E0 : Hid (Ex w w0) := zq (((Ex.refl w).alloc _).alloc _ |>.trans he)
     clear he
     rw [← hgl]
     rw [← hgm]
     clear hgm hgl
     go_wp2_with fail
     have FK9 : Hid (∀ w', Ex w0 w' → (w'.cell? ⟨gm, 0, none⟩ = some (.slice A nb c) ∧ w'.cell? ⟨gm, 1, none⟩ = some (.slice (some ⟨b2, o2, none⟩) n d) ∧ w'.cell? ⟨gl, 2, none⟩ = some (.int .i64 xp))) := zq (fun w' h => ⟨(K0.out.ex h).c9.1, (K0.out.ex h).c9.2.1, (K1.out.ex h).c6.2.2.1⟩)
     refine wp_region_held_drew (S := (fun w' => (w'.cell? ⟨gm, 0, none⟩ = some (.slice A nb c) ∧ w'.cell? ⟨gm, 1, none⟩ = some (.slice (some ⟨b2, o2, none⟩) n d) ∧ w'.cell? ⟨gl, 2, none⟩ = some (.int .i64 xp)))) (by kernel_rfl) ?r12_hS0 (fun hHeld => ?_)
     case r12_hS0 => exact FK9.out _ (Ex.refl _).drew
     refine tk 0 ?_; refine tk 1 ?_; refine tk 2 ?_; refine tk 3 ?_; refine tk 4 ?_
     refine wpAnyH_ready (rs := [5]) (by kernel_rfl) (by simp) ?_
     refine AllReadyH.cons (o := ?r12_o5) ?r12_ho5 (fun K hK => ?_) AllReadyH.nil
     case r12_ho5 => (conv => lhs; whnf; arg 1; whnf)
     refine step_call_gu rfl CEK.out _ _ rfl #[.int .i64 sp, .int .i64 xp] rfl (CK0.out _) ?_; rintro r wa ⟨rfl, hwa⟩; refine ⟨_, rfl, ?_⟩; have hxa := Ex.trans (Ex.refl _).drew hwa
     refine hK.out _ _ ?r12_hS5 (fun hHeld5 => ?_)
     case r12_hS5 => exact FK9.out _ hxa
     clear hK K hHeld
     try simp only [Act.put, List.setIfInBounds_toArray, List.set_cons_zero, List.set_cons_succ]
     refine wpAnyH_ready (rs := [6]) (by kernel_rfl) (by simp) ?_
     refine AllReadyH.cons (o := ?r12_o6) ?r12_ho6 (fun K hK => ?_) AllReadyH.nil
     case r12_ho6 => (conv => lhs; whnf; arg 1; whnf)
     refine step_call_gu rfl CEF.out _ _ rfl #[.agg #[.slice A nb c, .slice (some ⟨b2, o2, none⟩) n d], .agg #[.int .i64 kk.space, .int .i64 kk.page]] rfl (CF0.out _ (HB.out.ex (E0.out.trans hxa)) (HF.out.ex (E0.out.trans hxa))) ?_; rintro r w3 ⟨⟨s2, rfl⟩, he⟩; refine ⟨_, rfl, ?_⟩; have hx3 := Ex.trans hxa he
     refine hK.out _ _ ?r12_hS6 (fun hHeld6 => ?_)
     case r12_hS6 => exact FK9.out _ hx3
     clear hK K hHeld5
     try simp only [Act.put, List.setIfInBounds_toArray, List.set_cons_zero, List.set_cons_succ]
     refine tk 7 ?_; refine tk 8 ?_; refine tk 9 ?_; refine tk 10 ?_; refine tk 11 ?_
     refine wpAnyH_done (by kernel_rfl) ?_ _
     have HX3 := zq hx3
     clear hx3 hxa he hwa
     go_wp2_with fail
     have FK10 : Hid (∀ w', Ex w3 w' → (w'.cell? ⟨gl, 3, none⟩ = some (.int .i64 xf))) := zq (fun w' h => (K1.out.ex (HX3.out.trans h)).c6.2.2.2.1)
     refine wp_region_held_drew (S := (fun w' => (w'.cell? ⟨gl, 3, none⟩ = some (.int .i64 xf)))) (by kernel_rfl) ?r13_hS0 (fun hHeld => ?_)
     case r13_hS0 => exact FK10.out _ (Ex.refl _).drew
     refine tk 0 ?_; refine tk 1 ?_; refine tk 2 ?_; refine tk 3 ?_; refine tk 4 ?_; refine tk 5 ?_; refine tk 6 ?_; refine tk 7 ?_; refine tk 8 ?_; refine tn 9 ?_; refine tn 10 ?_; refine tn 11 ?_; refine tn 12 ?_; refine tn 13 ?_
     refine tn 14 ?_; refine tn 15 ?_; refine tn 16 ?_; refine tn 17 ?_; refine tn 18 ?_; refine tk 19 ?_; refine tk 20 ?_; refine tn 21 ?_; refine tn 22 ?_; refine tn 23 ?_; refine tn 24 ?_; refine tn 25 ?_; refine tn 26 ?_; refine tn 27 ?_
     refine tn 28 ?_; refine tk 29 ?_; refine tk 30 ?_
     refine wpAnyH_done (by kernel_rfl) ?_ _
     go_wp2
     go_ret
     exact ⟨rfl, (E0.out.trans HX3.out).drew⟩
    by_cases hr : f.rights = xr
    rotate_left
    ·rw [lineFitsB_no (fun h => hr (HIFF.out.1 h).2.1)]
     have hbb : (f.rights == xr) = false := by simpa using hr
     clear HIFF
     subst hfr
     go_enter Tryz.func50, Tryz.ntmps50
     go_wp2_with fail
     refine (CT.out _ ((HO.out.alloc _).alloc _)).mono ?_
     rintro r w0 ⟨rfl, he⟩
     obtain ⟨gm, hgm⟩ : ∃ gm : Nat, gm = w.heap.size := ⟨_, rfl⟩
     obtain ⟨gl, hgl⟩ : ∃ gl : Nat, gl = w.heap.size + 1 := ⟨_, rfl⟩
     have K0 : Hid (Blk w0 gm 34 [.slice A nb c, .slice (some ⟨b2, o2, none⟩) n d, .slice L nl e, .int .i64 m.cache.hand, .int .i64 m.tags.count, .int .i64 m.tags.next, .int .i64 m.tags.round, .slice O no g, .int .i64 m.space]) := zq (by rw [hgm]; exact ((Blk.new w _ _).alloc _).ex he)
     have K1 : Hid (Blk w0 gl 64 [.bool xv, .int .i64 xt, .int .i64 xp, .int .i64 (i : Int), .int .i64 xr, .bool xw]) := zq (by rw [hgl]; exact (Blk.new_at _ _ _ (by simp)).ex he)
     have E0 : Hid (Ex w w0) := zq (((Ex.refl w).alloc _).alloc _ |>.trans he)
     clear he
     rw [← hgl]
     rw [← hgm]
     clear hgm hgl
     go_wp2_with fail
     have FK9 : Hid (∀ w', Ex w0 w' → (w'.cell? ⟨gm, 0, none⟩ = some (.slice A nb c) ∧ w'.cell? ⟨gm, 1, none⟩ = some (.slice (some ⟨b2, o2, none⟩) n d) ∧ w'.cell? ⟨gl, 2, none⟩ = some (.int .i64 xp))) := zq (fun w' h => ⟨(K0.out.ex h).c9.1, (K0.out.ex h).c9.2.1, (K1.out.ex h).c6.2.2.1⟩)
     refine wp_region_held_drew (S := (fun w' => (w'.cell? ⟨gm, 0, none⟩ = some (.slice A nb c) ∧ w'.cell? ⟨gm, 1, none⟩ = some (.slice (some ⟨b2, o2, none⟩) n d) ∧ w'.cell? ⟨gl, 2, none⟩ = some (.int .i64 xp)))) (by kernel_rfl) ?r14_hS0 (fun hHeld => ?_)
     case r14_hS0 => exact FK9.out _ (Ex.refl _).drew
     refine tk 0 ?_; refine tk 1 ?_; refine tk 2 ?_; refine tk 3 ?_; refine tk 4 ?_
     refine wpAnyH_ready (rs := [5]) (by kernel_rfl) (by simp) ?_
     refine AllReadyH.cons (o := ?r14_o5) ?r14_ho5 (fun K hK => ?_) AllReadyH.nil
     case r14_ho5 => (conv => lhs; whnf; arg 1; whnf)
     refine step_call_gu rfl CEK.out _ _ rfl #[.int .i64 sp, .int .i64 xp] rfl (CK0.out _) ?_; rintro r wa ⟨rfl, hwa⟩; refine ⟨_, rfl, ?_⟩; have hxa := Ex.trans (Ex.refl _).drew hwa
     refine hK.out _ _ ?r14_hS5 (fun hHeld5 => ?_)
     case r14_hS5 => exact FK9.out _ hxa
     clear hK K hHeld
     try simp only [Act.put, List.setIfInBounds_toArray, List.set_cons_zero, List.set_cons_succ]
     refine wpAnyH_ready (rs := [6]) (by kernel_rfl) (by simp) ?_
     refine AllReadyH.cons (o := ?r14_o6) ?r14_ho6 (fun K hK => ?_) AllReadyH.nil
     case r14_ho6 => (conv => lhs; whnf; arg 1; whnf)
     refine step_call_gu rfl CEF.out _ _ rfl #[.agg #[.slice A nb c, .slice (some ⟨b2, o2, none⟩) n d], .agg #[.int .i64 kk.space, .int .i64 kk.page]] rfl (CF0.out _ (HB.out.ex (E0.out.trans hxa)) (HF.out.ex (E0.out.trans hxa))) ?_; rintro r w3 ⟨⟨s2, rfl⟩, he⟩; refine ⟨_, rfl, ?_⟩; have hx3 := Ex.trans hxa he
     refine hK.out _ _ ?r14_hS6 (fun hHeld6 => ?_)
     case r14_hS6 => exact FK9.out _ hx3
     clear hK K hHeld5
     try simp only [Act.put, List.setIfInBounds_toArray, List.set_cons_zero, List.set_cons_succ]
     refine tk 7 ?_; refine tk 8 ?_; refine tk 9 ?_; refine tk 10 ?_; refine tk 11 ?_
     refine wpAnyH_done (by kernel_rfl) ?_ _
     have HX3 := zq hx3
     clear hx3 hxa he hwa
     go_wp2_with fail
     have FK10 : Hid (∀ w', Ex w3 w' → (w'.cell? ⟨gl, 3, none⟩ = some (.int .i64 (i : Int)) ∧ w'.cell? ⟨gl, 4, none⟩ = some (.int .i64 xr) ∧ w'.cell? ⟨gm, 1, none⟩ = some (.slice (some ⟨b2, o2, none⟩) n d) ∧ w'.cell? ⟨b2, o2 + i * 5 + 3, none⟩ = some (.int .i64 f.rights))) := zq (fun w' h => ⟨(K1.out.ex (HX3.out.trans h)).c6.2.2.2.1, (K1.out.ex (HX3.out.trans h)).c6.2.2.2.2.1, (K0.out.ex (HX3.out.trans h)).c9.2.1, (((E0.out.trans HX3.out).trans h).cell HB2.out).trans K3.out⟩)
     refine wp_region_held_drew (S := (fun w' => (w'.cell? ⟨gl, 3, none⟩ = some (.int .i64 (i : Int)) ∧ w'.cell? ⟨gl, 4, none⟩ = some (.int .i64 xr) ∧ w'.cell? ⟨gm, 1, none⟩ = some (.slice (some ⟨b2, o2, none⟩) n d) ∧ w'.cell? ⟨b2, o2 + i * 5 + 3, none⟩ = some (.int .i64 f.rights)))) (by kernel_rfl) ?r15_hS0 (fun hHeld => ?_)
     case r15_hS0 => exact FK10.out _ (Ex.refl _).drew
     refine tk 0 ?_; refine tk 1 ?_; refine tk 2 ?_; refine tk 3 ?_; refine tk 4 ?_; refine tk 5 ?_; refine tk 6 ?_; refine tk 7 ?_; refine tk 8 ?_; refine tk 9 ?_; refine tk 10 ?_; refine tk 11 ?_; refine tk 12 ?_; refine tk 13 ?_
     refine tk 14 ?_; refine tk 15 ?_; refine tk 16 ?_; refine tk 17 ?_; refine tk 18 ?_; refine tk 19 ?_; refine tk 20 ?_; refine tn 21 ?_; refine tn 22 ?_; refine tn 23 ?_; refine tn 24 ?_; refine tn 25 ?_; refine tn 26 ?_; refine tn 27 ?_
     refine tn 28 ?_; refine tk 29 ?_; refine tk 30 ?_
     refine wpAnyH_done (by kernel_rfl) ?_ _
     go_wp2
     go_ret
     exact ⟨rfl, (E0.out.trans HX3.out).drew⟩
    cases xw
    ·rw [lineFitsB_iff.2 (HIFF.out.2 ⟨hfr, hr, (fun h => by cases h)⟩)]
     clear HIFF
     subst hfr
     subst hr
     go_enter Tryz.func50, Tryz.ntmps50
     go_wp2_with fail
     refine (CT.out _ ((HO.out.alloc _).alloc _)).mono ?_
     rintro r w0 ⟨rfl, he⟩
     obtain ⟨gm, hgm⟩ : ∃ gm : Nat, gm = w.heap.size := ⟨_, rfl⟩
     obtain ⟨gl, hgl⟩ : ∃ gl : Nat, gl = w.heap.size + 1 := ⟨_, rfl⟩
     have K0 : Hid (Blk w0 gm 34 [.slice A nb c, .slice (some ⟨b2, o2, none⟩) n d, .slice L nl e, .int .i64 m.cache.hand, .int .i64 m.tags.count, .int .i64 m.tags.next, .int .i64 m.tags.round, .slice O no g, .int .i64 m.space]) := zq (by rw [hgm]; exact ((Blk.new w _ _).alloc _).ex he)
     have K1 : Hid (Blk w0 gl 64 [.bool xv, .int .i64 xt, .int .i64 xp, .int .i64 (i : Int), .int .i64 f.rights, .bool false]) := zq (by rw [hgl]; exact (Blk.new_at _ _ _ (by simp)).ex he)
     have E0 : Hid (Ex w w0) := zq (((Ex.refl w).alloc _).alloc _ |>.trans he)
     clear he
     rw [← hgl]
     rw [← hgm]
     clear hgm hgl
     go_wp2_with fail
     have FK9 : Hid (∀ w', Ex w0 w' → (w'.cell? ⟨gm, 0, none⟩ = some (.slice A nb c) ∧ w'.cell? ⟨gm, 1, none⟩ = some (.slice (some ⟨b2, o2, none⟩) n d) ∧ w'.cell? ⟨gl, 2, none⟩ = some (.int .i64 xp))) := zq (fun w' h => ⟨(K0.out.ex h).c9.1, (K0.out.ex h).c9.2.1, (K1.out.ex h).c6.2.2.1⟩)
     refine wp_region_held_drew (S := (fun w' => (w'.cell? ⟨gm, 0, none⟩ = some (.slice A nb c) ∧ w'.cell? ⟨gm, 1, none⟩ = some (.slice (some ⟨b2, o2, none⟩) n d) ∧ w'.cell? ⟨gl, 2, none⟩ = some (.int .i64 xp)))) (by kernel_rfl) ?r16_hS0 (fun hHeld => ?_)
     case r16_hS0 => exact FK9.out _ (Ex.refl _).drew
     refine tk 0 ?_; refine tk 1 ?_; refine tk 2 ?_; refine tk 3 ?_; refine tk 4 ?_
     refine wpAnyH_ready (rs := [5]) (by kernel_rfl) (by simp) ?_
     refine AllReadyH.cons (o := ?r16_o5) ?r16_ho5 (fun K hK => ?_) AllReadyH.nil
     case r16_ho5 => (conv => lhs; whnf; arg 1; whnf)
     refine step_call_gu rfl CEK.out _ _ rfl #[.int .i64 sp, .int .i64 xp] rfl (CK0.out _) ?_; rintro r wa ⟨rfl, hwa⟩; refine ⟨_, rfl, ?_⟩; have hxa := Ex.trans (Ex.refl _).drew hwa
     refine hK.out _ _ ?r16_hS5 (fun hHeld5 => ?_)
     case r16_hS5 => exact FK9.out _ hxa
     clear hK K hHeld
     try simp only [Act.put, List.setIfInBounds_toArray, List.set_cons_zero, List.set_cons_succ]
     refine wpAnyH_ready (rs := [6]) (by kernel_rfl) (by simp) ?_
     refine AllReadyH.cons (o := ?r16_o6) ?r16_ho6 (fun K hK => ?_) AllReadyH.nil
     case r16_ho6 => (conv => lhs; whnf; arg 1; whnf)
     refine step_call_gu rfl CEF.out _ _ rfl #[.agg #[.slice A nb c, .slice (some ⟨b2, o2, none⟩) n d], .agg #[.int .i64 kk.space, .int .i64 kk.page]] rfl (CF0.out _ (HB.out.ex (E0.out.trans hxa)) (HF.out.ex (E0.out.trans hxa))) ?_; rintro r w3 ⟨⟨s2, rfl⟩, he⟩; refine ⟨_, rfl, ?_⟩; have hx3 := Ex.trans hxa he
     refine hK.out _ _ ?r16_hS6 (fun hHeld6 => ?_)
     case r16_hS6 => exact FK9.out _ hx3
     clear hK K hHeld5
     try simp only [Act.put, List.setIfInBounds_toArray, List.set_cons_zero, List.set_cons_succ]
     refine tk 7 ?_; refine tk 8 ?_; refine tk 9 ?_; refine tk 10 ?_; refine tk 11 ?_
     refine wpAnyH_done (by kernel_rfl) ?_ _
     have HX3 := zq hx3
     clear hx3 hxa he hwa
     go_wp2_with fail
     have FK10 : Hid (∀ w', Ex w3 w' → (w'.cell? ⟨gl, 3, none⟩ = some (.int .i64 (i : Int)) ∧ w'.cell? ⟨gl, 4, none⟩ = some (.int .i64 f.rights) ∧ w'.cell? ⟨gl, 5, none⟩ = some (.bool false) ∧ w'.cell? ⟨gm, 1, none⟩ = some (.slice (some ⟨b2, o2, none⟩) n d) ∧ w'.cell? ⟨b2, o2 + i * 5 + 3, none⟩ = some (.int .i64 f.rights))) := zq (fun w' h => ⟨(K1.out.ex (HX3.out.trans h)).c6.2.2.2.1, (K1.out.ex (HX3.out.trans h)).c6.2.2.2.2.1, (K1.out.ex (HX3.out.trans h)).c6.2.2.2.2.2, (K0.out.ex (HX3.out.trans h)).c9.2.1, (((E0.out.trans HX3.out).trans h).cell HB2.out).trans K3.out⟩)
     refine wp_region_held_drew (S := (fun w' => (w'.cell? ⟨gl, 3, none⟩ = some (.int .i64 (i : Int)) ∧ w'.cell? ⟨gl, 4, none⟩ = some (.int .i64 f.rights) ∧ w'.cell? ⟨gl, 5, none⟩ = some (.bool false) ∧ w'.cell? ⟨gm, 1, none⟩ = some (.slice (some ⟨b2, o2, none⟩) n d) ∧ w'.cell? ⟨b2, o2 + i * 5 + 3, none⟩ = some (.int .i64 f.rights)))) (by kernel_rfl) ?r17_hS0 (fun hHeld => ?_)
     case r17_hS0 => exact FK10.out _ (Ex.refl _).drew
     refine tk 0 ?_; refine tk 1 ?_; refine tk 2 ?_; refine tk 3 ?_; refine tk 4 ?_; refine tk 5 ?_; refine tk 6 ?_; refine tk 7 ?_; refine tk 8 ?_; refine tk 9 ?_; refine tk 10 ?_; refine tk 11 ?_; refine tk 12 ?_; refine tk 13 ?_
     refine tk 14 ?_; refine tk 15 ?_; refine tk 16 ?_; refine tk 17 ?_; refine tk 18 ?_; refine tk 19 ?_; refine tk 20 ?_; refine tk 21 ?_; refine tk 22 ?_; refine tk 23 ?_; refine tk 24 ?_; refine tn 25 ?_; refine tn 26 ?_; refine tn 27 ?_
     refine tk 28 ?_; refine tk 29 ?_; refine tk 30 ?_
     refine wpAnyH_done (by kernel_rfl) ?_ _
     go_wp2
     go_ret
     exact ⟨rfl, (E0.out.trans HX3.out).drew⟩
    ·rw [lineFitsB_no (fun h => htg ((HIFF.out.1 h).2.2 rfl))]
     clear HIFF
     subst hfr
     subst hr
     go_enter Tryz.func50, Tryz.ntmps50
     go_wp2_with fail
     refine (CT.out _ ((HO.out.alloc _).alloc _)).mono ?_
     rintro r w0 ⟨rfl, he⟩
     obtain ⟨gm, hgm⟩ : ∃ gm : Nat, gm = w.heap.size := ⟨_, rfl⟩
     obtain ⟨gl, hgl⟩ : ∃ gl : Nat, gl = w.heap.size + 1 := ⟨_, rfl⟩
     have K0 : Hid (Blk w0 gm 34 [.slice A nb c, .slice (some ⟨b2, o2, none⟩) n d, .slice L nl e, .int .i64 m.cache.hand, .int .i64 m.tags.count, .int .i64 m.tags.next, .int .i64 m.tags.round, .slice O no g, .int .i64 m.space]) := zq (by rw [hgm]; exact ((Blk.new w _ _).alloc _).ex he)
     have K1 : Hid (Blk w0 gl 64 [.bool xv, .int .i64 xt, .int .i64 xp, .int .i64 (i : Int), .int .i64 f.rights, .bool true]) := zq (by rw [hgl]; exact (Blk.new_at _ _ _ (by simp)).ex he)
     have E0 : Hid (Ex w w0) := zq (((Ex.refl w).alloc _).alloc _ |>.trans he)
     clear he
     rw [← hgl]
     rw [← hgm]
     clear hgm hgl
     go_wp2_with fail
     have FK9 : Hid (∀ w', Ex w0 w' → (w'.cell? ⟨gm, 0, none⟩ = some (.slice A nb c) ∧ w'.cell? ⟨gm, 1, none⟩ = some (.slice (some ⟨b2, o2, none⟩) n d) ∧ w'.cell? ⟨gl, 2, none⟩ = some (.int .i64 xp))) := zq (fun w' h => ⟨(K0.out.ex h).c9.1, (K0.out.ex h).c9.2.1, (K1.out.ex h).c6.2.2.1⟩)
     refine wp_region_held_drew (S := (fun w' => (w'.cell? ⟨gm, 0, none⟩ = some (.slice A nb c) ∧ w'.cell? ⟨gm, 1, none⟩ = some (.slice (some ⟨b2, o2, none⟩) n d) ∧ w'.cell? ⟨gl, 2, none⟩ = some (.int .i64 xp)))) (by kernel_rfl) ?r18_hS0 (fun hHeld => ?_)
     case r18_hS0 => exact FK9.out _ (Ex.refl _).drew
     refine tk 0 ?_; refine tk 1 ?_; refine tk 2 ?_; refine tk 3 ?_; refine tk 4 ?_
     refine wpAnyH_ready (rs := [5]) (by kernel_rfl) (by simp) ?_
     refine AllReadyH.cons (o := ?r18_o5) ?r18_ho5 (fun K hK => ?_) AllReadyH.nil
     case r18_ho5 => (conv => lhs; whnf; arg 1; whnf)
     refine step_call_gu rfl CEK.out _ _ rfl #[.int .i64 sp, .int .i64 xp] rfl (CK0.out _) ?_; rintro r wa ⟨rfl, hwa⟩; refine ⟨_, rfl, ?_⟩; have hxa := Ex.trans (Ex.refl _).drew hwa
     refine hK.out _ _ ?r18_hS5 (fun hHeld5 => ?_)
     case r18_hS5 => exact FK9.out _ hxa
     clear hK K hHeld
     try simp only [Act.put, List.setIfInBounds_toArray, List.set_cons_zero, List.set_cons_succ]
     refine wpAnyH_ready (rs := [6]) (by kernel_rfl) (by simp) ?_
     refine AllReadyH.cons (o := ?r18_o6) ?r18_ho6 (fun K hK => ?_) AllReadyH.nil
     case r18_ho6 => (conv => lhs; whnf; arg 1; whnf)
     refine step_call_gu rfl CEF.out _ _ rfl #[.agg #[.slice A nb c, .slice (some ⟨b2, o2, none⟩) n d], .agg #[.int .i64 kk.space, .int .i64 kk.page]] rfl (CF0.out _ (HB.out.ex (E0.out.trans hxa)) (HF.out.ex (E0.out.trans hxa))) ?_; rintro r w3 ⟨⟨s2, rfl⟩, he⟩; refine ⟨_, rfl, ?_⟩; have hx3 := Ex.trans hxa he
     refine hK.out _ _ ?r18_hS6 (fun hHeld6 => ?_)
     case r18_hS6 => exact FK9.out _ hx3
     clear hK K hHeld5
     try simp only [Act.put, List.setIfInBounds_toArray, List.set_cons_zero, List.set_cons_succ]
     refine tk 7 ?_; refine tk 8 ?_; refine tk 9 ?_; refine tk 10 ?_; refine tk 11 ?_
     refine wpAnyH_done (by kernel_rfl) ?_ _
     have HX3 := zq hx3
     clear hx3 hxa he hwa
     go_wp2_with fail
     have FK10 : Hid (∀ w', Ex w3 w' → (w'.cell? ⟨gl, 3, none⟩ = some (.int .i64 (i : Int)) ∧ w'.cell? ⟨gl, 4, none⟩ = some (.int .i64 f.rights) ∧ w'.cell? ⟨gl, 5, none⟩ = some (.bool true) ∧ w'.cell? ⟨gl, 1, none⟩ = some (.int .i64 xt) ∧ w'.cell? ⟨gm, 1, none⟩ = some (.slice (some ⟨b2, o2, none⟩) n d) ∧ w'.cell? ⟨b2, o2 + i * 5 + 3, none⟩ = some (.int .i64 f.rights))) := zq (fun w' h => ⟨(K1.out.ex (HX3.out.trans h)).c6.2.2.2.1, (K1.out.ex (HX3.out.trans h)).c6.2.2.2.2.1, (K1.out.ex (HX3.out.trans h)).c6.2.2.2.2.2, (K1.out.ex (HX3.out.trans h)).c6.2.1, (K0.out.ex (HX3.out.trans h)).c9.2.1, (((E0.out.trans HX3.out).trans h).cell HB2.out).trans K3.out⟩)
     refine wp_region_held_drew (S := (fun w' => (w'.cell? ⟨gl, 3, none⟩ = some (.int .i64 (i : Int)) ∧ w'.cell? ⟨gl, 4, none⟩ = some (.int .i64 f.rights) ∧ w'.cell? ⟨gl, 5, none⟩ = some (.bool true) ∧ w'.cell? ⟨gl, 1, none⟩ = some (.int .i64 xt) ∧ w'.cell? ⟨gm, 1, none⟩ = some (.slice (some ⟨b2, o2, none⟩) n d) ∧ w'.cell? ⟨b2, o2 + i * 5 + 3, none⟩ = some (.int .i64 f.rights)))) (by kernel_rfl) ?r19_hS0 (fun hHeld => ?_)
     case r19_hS0 => exact FK10.out _ (Ex.refl _).drew
     refine tk 0 ?_; refine tk 1 ?_; refine tk 2 ?_; refine tk 3 ?_; refine tk 4 ?_; refine tk 5 ?_; refine tk 6 ?_; refine tk 7 ?_; refine tk 8 ?_; refine tk 9 ?_; refine tk 10 ?_; refine tk 11 ?_; refine tk 12 ?_; refine tk 13 ?_
     refine tk 14 ?_; refine tk 15 ?_; refine tk 16 ?_; refine tk 17 ?_; refine tk 18 ?_; refine tk 19 ?_; refine tk 20 ?_; refine tk 21 ?_; refine tk 22 ?_; refine tk 23 ?_; refine tk 24 ?_; refine tk 25 ?_; refine tk 26 ?_; refine tk 27 ?_
     refine tk 28 ?_; refine tk 29 ?_; refine tk 30 ?_
     refine wpAnyH_done (by kernel_rfl) ?_ _
     go_wp2
     go_ret
     exact ⟨rfl, (E0.out.trans HX3.out).drew⟩
end Go.Proofs.YtbdlpbladpppjaaGreatDoor
