/- What a line must say of a table: l6Line of the reference. -/
import Derived.Test.YtihlaecbdlgbiaaDoorWf
import Derived.Test.YtihlaecbdlgbiaaDoorMd
import Derived.Test.YtihlaecbdlgbiaaDoorTw
namespace Go.Proofs.YtihlaecbdlgbiaaDoor
open Go.ChangeShapes Go.WideShapes Go.ChangeAt Go.RowKit
open Rec (sz cs)
set_option linter.unusedVariables false
set_option maxRecDepth 100000

set_option maxHeartbeats 8000000 in
theorem l6Line_c (m : MachD) (a : MA) (x : LineD) (w : World) (hx : HasM w m a) (hf : FewM m) (hc : CapM m a) (hok : TableOk m.table) (ht : tagsV m.tags = true) (hp : 0 ≤ x.page ∧ x.page < 256) :
    Calls Tryd.prog 25 #[.agg #[.slice a.b m.table.buckets.length a.bc, .slice a.f m.table.frames.length a.fc, .slice a.l m.cache.lines.length a.lc, .int .i64 m.cache.hand, .int .i64 m.tags.count, .int .i64 m.tags.next, .int .i64 m.tags.round, .slice a.o m.tags.owns.length a.oc, .int .i64 m.space], .agg #[.bool x.valid, .int .i64 x.tag, .int .i64 x.page, .int .i64 x.frame, .int .i64 x.rights, .bool x.wired]] w fun r w' => r = .returned (.bool (lineFitsB m x)) ∧ Ex w w' := by
  obtain ⟨A, c, B, d, L, e, O, g⟩ := a
  obtain ⟨xv, xt, xp, xf, xr, xw⟩ := x
  dsimp only at hp ⊢
  have HB : Hid (Rd w A m.table.buckets) := Lib.hid hx.b
  have HF : Hid (Rd w B m.table.frames) := Lib.hid hx.f
  have HO : Hid (Rd w O m.tags.owns) := Lib.hid hx.o
  have CT := Lib.hid (fun w' (h : Rd w' O m.tags.owns) => spaceOfS_c m.tags xt O g w' h hf.o hc.o)
  have CF := Lib.hid (fun s w' (h1 : Rd w' A m.table.buckets) (h2 : Rd w' B m.table.frames) (hs : 0 ≤ s ∧ s < 16) => l3Find_c m.table A c B d (keyFor s xp) w' h1 h2 hok (keyFor_ok hs hp))
  have CK := Lib.hid (fun s w' => keyForS_c s xp w')
  have hsr := spaceOf_range (t := m.tags) xt ht
  have CEK : Hid (∀ (args : Array Value) (w : World), (callFunc 56 args).run Tryd.prog w = .ok (.enter 56 args) w) := Lib.hid (enters Tryd.func56 (by kernel_rfl) (by kernel_rfl))
  have CEF : Hid (∀ (args : Array Value) (w : World), (callFunc 55 args).run Tryd.prog w = .ok (.enter 55 args) w) := Lib.hid (enters Tryd.func55 (by kernel_rfl) (by kernel_rfl))
  clear hx hf hc ht hp hok
  generalize m.cache.lines.length = nl
  generalize m.tags.owns.length = no at CT ⊢
  by_cases htg : xt = -1
  · by_cases hpg : 128 ≤ xp
    · have hq : lineAt m ⟨xv, xt, xp, xf, xr, xw⟩ = findF m.table (keyFor 0 xp) := by unfold lineAt lineSpace; rw [if_pos htg]
      have CF0 := Lib.hid (fun w' h1 h2 => CF.out 0 w' h1 h2 (by omega))
      have CK0 := Lib.hid (fun w' => CK.out 0 w')
      have HT1 : Hid (xt = -1 ↔ 128 ≤ xp) := Lib.hid (by simp [htg, hpg])
      have HT2 : Hid (xt ≠ -1 → (spaceOf m.tags xt).2 = true) := Lib.hid (fun h => absurd htg h)
      clear hsr CT
      subst htg
      generalize keyFor 0 xp = kk at hq CF0 CK0
      rcases findF_range (t := m.table) kk with hm | ⟨i, f, hm, hfi⟩
      · rw [lineFitsB_no (fun h => by obtain ⟨i, f, h1, _⟩ := h.2.2.1; rw [hq, hm] at h1; omega)]
        rw [hm] at CF0
        clear hq hm CF CK
        generalize m.table.frames.length = n at CF0 ⊢
        generalize m.table.buckets.length = nb at CF0 ⊢
        go_enter Tryd.func25, Tryd.ntmps25
        go_wp2_with fail
        obtain ⟨w0, hw0⟩ : ∃ w0 : World, w0 = (w.alloc (.cells #[.slice A nb c, .slice B n d, .slice L nl e, .int .i64 m.cache.hand, .int .i64 m.tags.count, .int .i64 m.tags.next, .int .i64 m.tags.round, .slice O no g, .int .i64 m.space] 46)).alloc (.cells #[.bool xv, .int .i64 (-1), .int .i64 xp, .int .i64 xf, .int .i64 xr, .bool xw] 74) := ⟨_, rfl⟩
        obtain ⟨gm, hgm⟩ : ∃ gm : Nat, gm = w.heap.size := ⟨_, rfl⟩
        obtain ⟨gl, hgl⟩ : ∃ gl : Nat, gl = w.heap.size + 1 := ⟨_, rfl⟩
        have K0 : Hid (Blk w0 gm 46 [.slice A nb c, .slice B n d, .slice L nl e, .int .i64 m.cache.hand, .int .i64 m.tags.count, .int .i64 m.tags.next, .int .i64 m.tags.round, .slice O no g, .int .i64 m.space]) := Lib.hid (by rw [hw0, hgm]; exact (Blk.new w _ _).alloc _)
        have K1 : Hid (Blk w0 gl 74 [.bool xv, .int .i64 (-1), .int .i64 xp, .int .i64 xf, .int .i64 xr, .bool xw]) := Lib.hid (by rw [hw0, hgl]; exact Blk.new_at _ _ _ (by simp))
        have E0 : Hid (Ex w w0) := Lib.hid (by rw [hw0]; exact ((Ex.refl w).alloc _).alloc _)
        rw [← hw0]
        rw [← hgl]
        rw [← hgm]
        clear hw0 hgm hgl
        have FK9 : Hid (∀ w', Ex w0 w' → (w'.cell? ⟨gm, 0, none⟩ = some (.slice A nb c) ∧ w'.cell? ⟨gm, 1, none⟩ = some (.slice B n d) ∧ w'.cell? ⟨gl, 2, none⟩ = some (.int .i64 xp))) := Lib.hid (fun w' h => ⟨(K0.out.ex h).c9.1, (K0.out.ex h).c9.2.1, (K1.out.ex h).c6.2.2.1⟩)
        refine wp_region_held_drew (S := (fun w' => (w'.cell? ⟨gm, 0, none⟩ = some (.slice A nb c) ∧ w'.cell? ⟨gm, 1, none⟩ = some (.slice B n d) ∧ w'.cell? ⟨gl, 2, none⟩ = some (.int .i64 xp)))) (by kernel_rfl) ?r0_hS0 (fun hHeld => ?_)
        case r0_hS0 => exact FK9.out _ (Ex.refl _).drew
        refine wpAnyH_take (i := 0) (oi := ?r0_o0) (v := ?r0_v0) ?r0_ho0 (by kernel_rfl) (by kernel_rfl) (by kernel_rfl) ?r0_hq0 ?r0_hy0 (by assumption) ?_
        case r0_ho0 => (conv => lhs; whnf; arg 1; whnf)
        case r0_hq0 => exact fun _ _ _ h => h
        case r0_hy0 => (refine Or.inl ⟨by rfl, ?_⟩; intro w hSw; (try dsimp only at hSw); first | (go_simp; done) | (go_simp; with_reducible rfl))
        try simp only [Act.put, List.setIfInBounds_toArray, List.set_cons_zero, List.set_cons_succ]
        refine wpAnyH_take (i := 1) (oi := ?r0_o1) (v := ?r0_v1) ?r0_ho1 (by kernel_rfl) (by kernel_rfl) (by kernel_rfl) ?r0_hq1 ?r0_hy1 (by assumption) ?_
        case r0_ho1 => (conv => lhs; whnf; arg 1; whnf)
        case r0_hq1 => exact fun _ _ _ h => h
        case r0_hy1 => (refine Or.inl ⟨by rfl, ?_⟩; intro w hSw; (try dsimp only at hSw); first | (go_simp; done) | (go_simp; with_reducible rfl))
        try simp only [Act.put, List.setIfInBounds_toArray, List.set_cons_zero, List.set_cons_succ]
        refine wpAnyH_take (i := 2) (oi := ?r0_o2) (v := ?r0_v2) ?r0_ho2 (by kernel_rfl) (by kernel_rfl) (by kernel_rfl) ?r0_hq2 ?r0_hy2 (by assumption) ?_
        case r0_ho2 => (conv => lhs; whnf; arg 1; whnf)
        case r0_hq2 => exact fun _ _ _ h => h
        case r0_hy2 => (refine Or.inl ⟨by rfl, ?_⟩; intro w hSw; (try dsimp only at hSw); first | (go_simp; done) | (go_simp; with_reducible rfl))
        try simp only [Act.put, List.setIfInBounds_toArray, List.set_cons_zero, List.set_cons_succ]
        refine wpAnyH_take (i := 3) (oi := ?r0_o3) (v := ?r0_v3) ?r0_ho3 (by kernel_rfl) (by kernel_rfl) (by kernel_rfl) ?r0_hq3 ?r0_hy3 (by assumption) ?_
        case r0_ho3 => (conv => lhs; whnf; arg 1; whnf)
        case r0_hq3 => exact fun _ _ _ h => h
        case r0_hy3 => (refine Or.inl ⟨by rfl, ?_⟩; intro w hSw; (try dsimp only at hSw); first | (go_simp; done) | (go_simp; with_reducible rfl))
        try simp only [Act.put, List.setIfInBounds_toArray, List.set_cons_zero, List.set_cons_succ]
        refine wpAnyH_take (i := 4) (oi := ?r0_o4) (v := ?r0_v4) ?r0_ho4 (by kernel_rfl) (by kernel_rfl) (by kernel_rfl) ?r0_hq4 ?r0_hy4 (by assumption) ?_
        case r0_ho4 => (conv => lhs; whnf; arg 1; whnf)
        case r0_hq4 => exact fun _ _ _ h => h
        case r0_hy4 => (refine Or.inl ⟨by rfl, ?_⟩; intro w hSw; (try dsimp only at hSw); first | (go_simp; done) | (go_simp; with_reducible rfl))
        try simp only [Act.put, List.setIfInBounds_toArray, List.set_cons_zero, List.set_cons_succ]
        refine wpAnyH_ready (rs := [5]) (by kernel_rfl) (by simp) ?_
        refine AllReadyH.cons (o := ?r0_o5) ?r0_ho5 (fun K hK => ?_) AllReadyH.nil
        case r0_ho5 => (conv => lhs; whnf; arg 1; whnf)
        refine step_call_gu rfl CEK.out _ _ rfl #[.int .i64 0, .int .i64 xp] rfl (CK0.out _) ?_; rintro r wa ⟨rfl, hwa⟩; refine ⟨_, rfl, ?_⟩; have hxa := Ex.trans (Ex.refl _).drew hwa
        refine hK.out _ _ ?r0_hS5 (fun hHeld5 => ?_)
        case r0_hS5 => exact FK9.out _ hxa
        clear hK K hHeld
        try simp only [Act.put, List.setIfInBounds_toArray, List.set_cons_zero, List.set_cons_succ]
        refine wpAnyH_ready (rs := [6]) (by kernel_rfl) (by simp) ?_
        refine AllReadyH.cons (o := ?r0_o6) ?r0_ho6 (fun K hK => ?_) AllReadyH.nil
        case r0_ho6 => (conv => lhs; whnf; arg 1; whnf)
        refine step_call_gu rfl CEF.out _ _ rfl #[.agg #[.slice A nb c, .slice B n d], .agg #[.int .i64 kk.space, .int .i64 kk.page]] rfl (CF0.out _ (HB.out.ex (E0.out.trans hxa)) (HF.out.ex (E0.out.trans hxa))) ?_; rintro r w3 ⟨⟨s2, rfl⟩, he⟩; refine ⟨_, rfl, ?_⟩; have hx3 := Ex.trans hxa he
        refine hK.out _ _ ?r0_hS6 (fun hHeld6 => ?_)
        case r0_hS6 => exact FK9.out _ hx3
        clear hK K hHeld5
        try simp only [Act.put, List.setIfInBounds_toArray, List.set_cons_zero, List.set_cons_succ]
        refine wpAnyH_take (i := 7) (oi := ?r0_o7) (v := ?r0_v7) ?r0_ho7 (by kernel_rfl) (by kernel_rfl) (by kernel_rfl) ?r0_hq7 ?r0_hy7 (by assumption) ?_
        case r0_ho7 => (conv => lhs; whnf; arg 1; whnf)
        case r0_hq7 => exact fun _ _ _ h => h
        case r0_hy7 => (refine Or.inl ⟨by rfl, ?_⟩; intro w hSw; (try dsimp only at hSw); first | (go_simp; done) | (go_simp; with_reducible rfl))
        try simp only [Act.put, List.setIfInBounds_toArray, List.set_cons_zero, List.set_cons_succ]
        refine wpAnyH_take (i := 8) (oi := ?r0_o8) (v := ?r0_v8) ?r0_ho8 (by kernel_rfl) (by kernel_rfl) (by kernel_rfl) ?r0_hq8 ?r0_hy8 (by assumption) ?_
        case r0_ho8 => (conv => lhs; whnf; arg 1; whnf)
        case r0_hq8 => exact fun _ _ _ h => h
        case r0_hy8 => (refine Or.inl ⟨by rfl, ?_⟩; intro w hSw; (try dsimp only at hSw); first | (go_simp; done) | (go_simp; with_reducible rfl))
        try simp only [Act.put, List.setIfInBounds_toArray, List.set_cons_zero, List.set_cons_succ]
        refine wpAnyH_take (i := 9) (oi := ?r0_o9) (v := ?r0_v9) ?r0_ho9 (by kernel_rfl) (by kernel_rfl) (by kernel_rfl) ?r0_hq9 ?r0_hy9 (by assumption) ?_
        case r0_ho9 => (conv => lhs; whnf; arg 1; whnf)
        case r0_hq9 => exact fun _ _ _ h => h
        case r0_hy9 => (refine Or.inl ⟨by rfl, ?_⟩; intro w hSw; (try dsimp only at hSw); first | (go_simp; done) | (go_simp; with_reducible rfl))
        try simp only [Act.put, List.setIfInBounds_toArray, List.set_cons_zero, List.set_cons_succ]
        refine wpAnyH_take (i := 10) (oi := ?r0_o10) (v := ?r0_v10) ?r0_ho10 (by kernel_rfl) (by kernel_rfl) (by kernel_rfl) ?r0_hq10 ?r0_hy10 (by assumption) ?_
        case r0_ho10 => (conv => lhs; whnf; arg 1; whnf)
        case r0_hq10 => exact fun _ _ _ h => h
        case r0_hy10 => (refine Or.inl ⟨by rfl, ?_⟩; intro w hSw; (try dsimp only at hSw); first | (go_simp; done) | (go_simp; with_reducible rfl))
        try simp only [Act.put, List.setIfInBounds_toArray, List.set_cons_zero, List.set_cons_succ]
        refine wpAnyH_take (i := 11) (oi := ?r0_o11) (v := ?r0_v11) ?r0_ho11 (by kernel_rfl) (by kernel_rfl) (by kernel_rfl) ?r0_hq11 ?r0_hy11 (by assumption) ?_
        case r0_ho11 => (conv => lhs; whnf; arg 1; whnf)
        case r0_hq11 => exact fun _ _ _ h => h
        case r0_hy11 => (refine Or.inl ⟨by rfl, ?_⟩; intro w hSw; (try dsimp only at hSw); first | (go_simp; done) | (go_simp; with_reducible rfl))
        try simp only [Act.put, List.setIfInBounds_toArray, List.set_cons_zero, List.set_cons_succ]
        refine wpAnyH_done (by kernel_rfl) ?_ _
        have HX3 := Lib.hid hx3
        clear hx3 hxa he hwa
        go_wp2_with fail
        have FK10 : Hid (∀ w', Ex w3 w' → True) := Lib.hid (fun w' h => trivial)
        refine wp_region_held_drew (S := (fun w' => True)) (by kernel_rfl) ?r1_hS0 (fun hHeld => ?_)
        case r1_hS0 => exact FK10.out _ (Ex.refl _).drew
        refine wpAnyH_take (i := 0) (oi := ?r1_o0) (v := ?r1_v0) ?r1_ho0 (by kernel_rfl) (by kernel_rfl) (by kernel_rfl) ?r1_hq0 ?r1_hy0 (by assumption) ?_
        case r1_ho0 => (conv => lhs; whnf; arg 1; whnf)
        case r1_hq0 => exact fun _ _ _ h => h
        case r1_hy0 => (refine Or.inl ⟨by rfl, ?_⟩; intro w hSw; (try dsimp only at hSw); first | (go_simp; done) | (go_simp; with_reducible rfl))
        try simp only [Act.put, List.setIfInBounds_toArray, List.set_cons_zero, List.set_cons_succ]
        refine wpAnyH_take (i := 1) (oi := ?r1_o1) (v := ?r1_v1) ?r1_ho1 (by kernel_rfl) (by kernel_rfl) (by kernel_rfl) ?r1_hq1 ?r1_hy1 (by assumption) ?_
        case r1_ho1 => (conv => lhs; whnf; arg 1; whnf)
        case r1_hq1 => exact fun _ _ _ h => h
        case r1_hy1 => (refine Or.inl ⟨by rfl, ?_⟩; intro w hSw; (try dsimp only at hSw); first | (go_simp; done) | (go_simp; with_reducible rfl))
        try simp only [Act.put, List.setIfInBounds_toArray, List.set_cons_zero, List.set_cons_succ]
        refine wpAnyH_take (i := 2) (oi := ?r1_o2) (v := ?r1_v2) ?r1_ho2 (by kernel_rfl) (by kernel_rfl) (by kernel_rfl) ?r1_hq2 ?r1_hy2 (by assumption) ?_
        case r1_ho2 => (conv => lhs; whnf; arg 1; whnf)
        case r1_hq2 => exact fun _ _ _ h => h
        case r1_hy2 => (refine Or.inl ⟨by rfl, ?_⟩; intro w hSw; (try dsimp only at hSw); first | (go_simp; done) | (go_simp; with_reducible rfl))
        try simp only [Act.put, List.setIfInBounds_toArray, List.set_cons_zero, List.set_cons_succ]
        refine wpAnyH_take (i := 3) (oi := ?r1_o3) (v := undef) ?r1_ho3 (by kernel_rfl) (by kernel_rfl) (by kernel_rfl) ?r1_hq3 ?r1_hy3 (by assumption) ?_
        case r1_ho3 => (conv => lhs; whnf; arg 1; whnf)
        case r1_hq3 => exact fun _ _ _ h => h
        case r1_hy3 => exact Or.inr ⟨by rfl, rfl⟩
        try simp only [Act.put, List.setIfInBounds_toArray, List.set_cons_zero, List.set_cons_succ]
        refine wpAnyH_take (i := 4) (oi := ?r1_o4) (v := undef) ?r1_ho4 (by kernel_rfl) (by kernel_rfl) (by kernel_rfl) ?r1_hq4 ?r1_hy4 (by assumption) ?_
        case r1_ho4 => (conv => lhs; whnf; arg 1; whnf)
        case r1_hq4 => exact fun _ _ _ h => h
        case r1_hy4 => exact Or.inr ⟨by rfl, rfl⟩
        try simp only [Act.put, List.setIfInBounds_toArray, List.set_cons_zero, List.set_cons_succ]
        refine wpAnyH_take (i := 5) (oi := ?r1_o5) (v := undef) ?r1_ho5 (by kernel_rfl) (by kernel_rfl) (by kernel_rfl) ?r1_hq5 ?r1_hy5 (by assumption) ?_
        case r1_ho5 => (conv => lhs; whnf; arg 1; whnf)
        case r1_hq5 => exact fun _ _ _ h => h
        case r1_hy5 => exact Or.inr ⟨by rfl, rfl⟩
        try simp only [Act.put, List.setIfInBounds_toArray, List.set_cons_zero, List.set_cons_succ]
        refine wpAnyH_take (i := 6) (oi := ?r1_o6) (v := undef) ?r1_ho6 (by kernel_rfl) (by kernel_rfl) (by kernel_rfl) ?r1_hq6 ?r1_hy6 (by assumption) ?_
        case r1_ho6 => (conv => lhs; whnf; arg 1; whnf)
        case r1_hq6 => exact fun _ _ _ h => h
        case r1_hy6 => exact Or.inr ⟨by rfl, rfl⟩
        try simp only [Act.put, List.setIfInBounds_toArray, List.set_cons_zero, List.set_cons_succ]
        refine wpAnyH_take (i := 7) (oi := ?r1_o7) (v := ?r1_v7) ?r1_ho7 (by kernel_rfl) (by kernel_rfl) (by kernel_rfl) ?r1_hq7 ?r1_hy7 (by assumption) ?_
        case r1_ho7 => (conv => lhs; whnf; arg 1; whnf)
        case r1_hq7 => exact fun _ _ _ h => h
        case r1_hy7 => (refine Or.inl ⟨by rfl, ?_⟩; intro w hSw; (try dsimp only at hSw); first | (go_simp; done) | (go_simp; with_reducible rfl))
        try simp only [Act.put, List.setIfInBounds_toArray, List.set_cons_zero, List.set_cons_succ]
        refine wpAnyH_take (i := 8) (oi := ?r1_o8) (v := ?r1_v8) ?r1_ho8 (by kernel_rfl) (by kernel_rfl) (by kernel_rfl) ?r1_hq8 ?r1_hy8 (by assumption) ?_
        case r1_ho8 => (conv => lhs; whnf; arg 1; whnf)
        case r1_hq8 => exact fun _ _ _ h => h
        case r1_hy8 => (refine Or.inl ⟨by rfl, ?_⟩; intro w hSw; (try dsimp only at hSw); first | (go_simp; done) | (go_simp; with_reducible rfl))
        try simp only [Act.put, List.setIfInBounds_toArray, List.set_cons_zero, List.set_cons_succ]
        refine wpAnyH_take (i := 9) (oi := ?r1_o9) (v := undef) ?r1_ho9 (by kernel_rfl) (by kernel_rfl) (by kernel_rfl) ?r1_hq9 ?r1_hy9 (by assumption) ?_
        case r1_ho9 => (conv => lhs; whnf; arg 1; whnf)
        case r1_hq9 => exact fun _ _ _ h => h
        case r1_hy9 => exact Or.inr ⟨by rfl, rfl⟩
        try simp only [Act.put, List.setIfInBounds_toArray, List.set_cons_zero, List.set_cons_succ]
        refine wpAnyH_take (i := 10) (oi := ?r1_o10) (v := undef) ?r1_ho10 (by kernel_rfl) (by kernel_rfl) (by kernel_rfl) ?r1_hq10 ?r1_hy10 (by assumption) ?_
        case r1_ho10 => (conv => lhs; whnf; arg 1; whnf)
        case r1_hq10 => exact fun _ _ _ h => h
        case r1_hy10 => exact Or.inr ⟨by rfl, rfl⟩
        try simp only [Act.put, List.setIfInBounds_toArray, List.set_cons_zero, List.set_cons_succ]
        refine wpAnyH_take (i := 11) (oi := ?r1_o11) (v := undef) ?r1_ho11 (by kernel_rfl) (by kernel_rfl) (by kernel_rfl) ?r1_hq11 ?r1_hy11 (by assumption) ?_
        case r1_ho11 => (conv => lhs; whnf; arg 1; whnf)
        case r1_hq11 => exact fun _ _ _ h => h
        case r1_hy11 => exact Or.inr ⟨by rfl, rfl⟩
        try simp only [Act.put, List.setIfInBounds_toArray, List.set_cons_zero, List.set_cons_succ]
        refine wpAnyH_take (i := 12) (oi := ?r1_o12) (v := undef) ?r1_ho12 (by kernel_rfl) (by kernel_rfl) (by kernel_rfl) ?r1_hq12 ?r1_hy12 (by assumption) ?_
        case r1_ho12 => (conv => lhs; whnf; arg 1; whnf)
        case r1_hq12 => exact fun _ _ _ h => h
        case r1_hy12 => exact Or.inr ⟨by rfl, rfl⟩
        try simp only [Act.put, List.setIfInBounds_toArray, List.set_cons_zero, List.set_cons_succ]
        refine wpAnyH_take (i := 13) (oi := ?r1_o13) (v := undef) ?r1_ho13 (by kernel_rfl) (by kernel_rfl) (by kernel_rfl) ?r1_hq13 ?r1_hy13 (by assumption) ?_
        case r1_ho13 => (conv => lhs; whnf; arg 1; whnf)
        case r1_hq13 => exact fun _ _ _ h => h
        case r1_hy13 => exact Or.inr ⟨by rfl, rfl⟩
        try simp only [Act.put, List.setIfInBounds_toArray, List.set_cons_zero, List.set_cons_succ]
        refine wpAnyH_take (i := 14) (oi := ?r1_o14) (v := undef) ?r1_ho14 (by kernel_rfl) (by kernel_rfl) (by kernel_rfl) ?r1_hq14 ?r1_hy14 (by assumption) ?_
        case r1_ho14 => (conv => lhs; whnf; arg 1; whnf)
        case r1_hq14 => exact fun _ _ _ h => h
        case r1_hy14 => exact Or.inr ⟨by rfl, rfl⟩
        try simp only [Act.put, List.setIfInBounds_toArray, List.set_cons_zero, List.set_cons_succ]
        refine wpAnyH_take (i := 15) (oi := ?r1_o15) (v := undef) ?r1_ho15 (by kernel_rfl) (by kernel_rfl) (by kernel_rfl) ?r1_hq15 ?r1_hy15 (by assumption) ?_
        case r1_ho15 => (conv => lhs; whnf; arg 1; whnf)
        case r1_hq15 => exact fun _ _ _ h => h
        case r1_hy15 => exact Or.inr ⟨by rfl, rfl⟩
        try simp only [Act.put, List.setIfInBounds_toArray, List.set_cons_zero, List.set_cons_succ]
        refine wpAnyH_take (i := 16) (oi := ?r1_o16) (v := undef) ?r1_ho16 (by kernel_rfl) (by kernel_rfl) (by kernel_rfl) ?r1_hq16 ?r1_hy16 (by assumption) ?_
        case r1_ho16 => (conv => lhs; whnf; arg 1; whnf)
        case r1_hq16 => exact fun _ _ _ h => h
        case r1_hy16 => exact Or.inr ⟨by rfl, rfl⟩
        try simp only [Act.put, List.setIfInBounds_toArray, List.set_cons_zero, List.set_cons_succ]
        refine wpAnyH_take (i := 17) (oi := ?r1_o17) (v := undef) ?r1_ho17 (by kernel_rfl) (by kernel_rfl) (by kernel_rfl) ?r1_hq17 ?r1_hy17 (by assumption) ?_
        case r1_ho17 => (conv => lhs; whnf; arg 1; whnf)
        case r1_hq17 => exact fun _ _ _ h => h
        case r1_hy17 => exact Or.inr ⟨by rfl, rfl⟩
        try simp only [Act.put, List.setIfInBounds_toArray, List.set_cons_zero, List.set_cons_succ]
        refine wpAnyH_take (i := 18) (oi := ?r1_o18) (v := undef) ?r1_ho18 (by kernel_rfl) (by kernel_rfl) (by kernel_rfl) ?r1_hq18 ?r1_hy18 (by assumption) ?_
        case r1_ho18 => (conv => lhs; whnf; arg 1; whnf)
        case r1_hq18 => exact fun _ _ _ h => h
        case r1_hy18 => exact Or.inr ⟨by rfl, rfl⟩
        try simp only [Act.put, List.setIfInBounds_toArray, List.set_cons_zero, List.set_cons_succ]
        refine wpAnyH_take (i := 19) (oi := ?r1_o19) (v := ?r1_v19) ?r1_ho19 (by kernel_rfl) (by kernel_rfl) (by kernel_rfl) ?r1_hq19 ?r1_hy19 (by assumption) ?_
        case r1_ho19 => (conv => lhs; whnf; arg 1; whnf)
        case r1_hq19 => exact fun _ _ _ h => h
        case r1_hy19 => (refine Or.inl ⟨by rfl, ?_⟩; intro w hSw; (try dsimp only at hSw); first | (go_simp; done) | (go_simp; with_reducible rfl))
        try simp only [Act.put, List.setIfInBounds_toArray, List.set_cons_zero, List.set_cons_succ]
        refine wpAnyH_take (i := 20) (oi := ?r1_o20) (v := ?r1_v20) ?r1_ho20 (by kernel_rfl) (by kernel_rfl) (by kernel_rfl) ?r1_hq20 ?r1_hy20 (by assumption) ?_
        case r1_ho20 => (conv => lhs; whnf; arg 1; whnf)
        case r1_hq20 => exact fun _ _ _ h => h
        case r1_hy20 => (refine Or.inl ⟨by rfl, ?_⟩; intro w hSw; (try dsimp only at hSw); first | (go_simp; done) | (go_simp; with_reducible rfl))
        try simp only [Act.put, List.setIfInBounds_toArray, List.set_cons_zero, List.set_cons_succ]
        refine wpAnyH_take (i := 21) (oi := ?r1_o21) (v := undef) ?r1_ho21 (by kernel_rfl) (by kernel_rfl) (by kernel_rfl) ?r1_hq21 ?r1_hy21 (by assumption) ?_
        case r1_ho21 => (conv => lhs; whnf; arg 1; whnf)
        case r1_hq21 => exact fun _ _ _ h => h
        case r1_hy21 => exact Or.inr ⟨by rfl, rfl⟩
        try simp only [Act.put, List.setIfInBounds_toArray, List.set_cons_zero, List.set_cons_succ]
        refine wpAnyH_take (i := 22) (oi := ?r1_o22) (v := undef) ?r1_ho22 (by kernel_rfl) (by kernel_rfl) (by kernel_rfl) ?r1_hq22 ?r1_hy22 (by assumption) ?_
        case r1_ho22 => (conv => lhs; whnf; arg 1; whnf)
        case r1_hq22 => exact fun _ _ _ h => h
        case r1_hy22 => exact Or.inr ⟨by rfl, rfl⟩
        try simp only [Act.put, List.setIfInBounds_toArray, List.set_cons_zero, List.set_cons_succ]
        refine wpAnyH_take (i := 23) (oi := ?r1_o23) (v := undef) ?r1_ho23 (by kernel_rfl) (by kernel_rfl) (by kernel_rfl) ?r1_hq23 ?r1_hy23 (by assumption) ?_
        case r1_ho23 => (conv => lhs; whnf; arg 1; whnf)
        case r1_hq23 => exact fun _ _ _ h => h
        case r1_hy23 => exact Or.inr ⟨by rfl, rfl⟩
        try simp only [Act.put, List.setIfInBounds_toArray, List.set_cons_zero, List.set_cons_succ]
        refine wpAnyH_take (i := 24) (oi := ?r1_o24) (v := undef) ?r1_ho24 (by kernel_rfl) (by kernel_rfl) (by kernel_rfl) ?r1_hq24 ?r1_hy24 (by assumption) ?_
        case r1_ho24 => (conv => lhs; whnf; arg 1; whnf)
        case r1_hq24 => exact fun _ _ _ h => h
        case r1_hy24 => exact Or.inr ⟨by rfl, rfl⟩
        try simp only [Act.put, List.setIfInBounds_toArray, List.set_cons_zero, List.set_cons_succ]
        refine wpAnyH_take (i := 25) (oi := ?r1_o25) (v := undef) ?r1_ho25 (by kernel_rfl) (by kernel_rfl) (by kernel_rfl) ?r1_hq25 ?r1_hy25 (by assumption) ?_
        case r1_ho25 => (conv => lhs; whnf; arg 1; whnf)
        case r1_hq25 => exact fun _ _ _ h => h
        case r1_hy25 => exact Or.inr ⟨by rfl, rfl⟩
        try simp only [Act.put, List.setIfInBounds_toArray, List.set_cons_zero, List.set_cons_succ]
        refine wpAnyH_take (i := 26) (oi := ?r1_o26) (v := undef) ?r1_ho26 (by kernel_rfl) (by kernel_rfl) (by kernel_rfl) ?r1_hq26 ?r1_hy26 (by assumption) ?_
        case r1_ho26 => (conv => lhs; whnf; arg 1; whnf)
        case r1_hq26 => exact fun _ _ _ h => h
        case r1_hy26 => exact Or.inr ⟨by rfl, rfl⟩
        try simp only [Act.put, List.setIfInBounds_toArray, List.set_cons_zero, List.set_cons_succ]
        refine wpAnyH_take (i := 27) (oi := ?r1_o27) (v := undef) ?r1_ho27 (by kernel_rfl) (by kernel_rfl) (by kernel_rfl) ?r1_hq27 ?r1_hy27 (by assumption) ?_
        case r1_ho27 => (conv => lhs; whnf; arg 1; whnf)
        case r1_hq27 => exact fun _ _ _ h => h
        case r1_hy27 => exact Or.inr ⟨by rfl, rfl⟩
        try simp only [Act.put, List.setIfInBounds_toArray, List.set_cons_zero, List.set_cons_succ]
        refine wpAnyH_take (i := 28) (oi := ?r1_o28) (v := undef) ?r1_ho28 (by kernel_rfl) (by kernel_rfl) (by kernel_rfl) ?r1_hq28 ?r1_hy28 (by assumption) ?_
        case r1_ho28 => (conv => lhs; whnf; arg 1; whnf)
        case r1_hq28 => exact fun _ _ _ h => h
        case r1_hy28 => exact Or.inr ⟨by rfl, rfl⟩
        try simp only [Act.put, List.setIfInBounds_toArray, List.set_cons_zero, List.set_cons_succ]
        refine wpAnyH_take (i := 29) (oi := ?r1_o29) (v := ?r1_v29) ?r1_ho29 (by kernel_rfl) (by kernel_rfl) (by kernel_rfl) ?r1_hq29 ?r1_hy29 (by assumption) ?_
        case r1_ho29 => (conv => lhs; whnf; arg 1; whnf)
        case r1_hq29 => exact fun _ _ _ h => h
        case r1_hy29 => (refine Or.inl ⟨by rfl, ?_⟩; intro w hSw; (try dsimp only at hSw); first | (go_simp; done) | (go_simp; with_reducible rfl))
        try simp only [Act.put, List.setIfInBounds_toArray, List.set_cons_zero, List.set_cons_succ]
        refine wpAnyH_take (i := 30) (oi := ?r1_o30) (v := ?r1_v30) ?r1_ho30 (by kernel_rfl) (by kernel_rfl) (by kernel_rfl) ?r1_hq30 ?r1_hy30 (by assumption) ?_
        case r1_ho30 => (conv => lhs; whnf; arg 1; whnf)
        case r1_hq30 => exact fun _ _ _ h => h
        case r1_hy30 => (refine Or.inl ⟨by rfl, ?_⟩; intro w hSw; (try dsimp only at hSw); first | (go_simp; done) | (go_simp; with_reducible rfl))
        try simp only [Act.put, List.setIfInBounds_toArray, List.set_cons_zero, List.set_cons_succ]
        refine wpAnyH_done (by kernel_rfl) ?_ _
        go_wp2
        go_ret
        exact ⟨rfl, (E0.out.trans HX3.out).drew⟩
      rw [hm] at CF0 hq
      have hin := getElem?_lt hfi
      obtain ⟨b2, o2, f', rfl, hb2, hfi', k0, k1, k2, k3, k4⟩ := HF.out.frame hin
      have e : f = f' := by rw [hfi] at hfi'; injection hfi'
      subst e
      have HB2 := Lib.hid hb2
      have K3 := Lib.hid k3
      have HIFF : Hid (LineFits m ⟨xv, (-1), xp, xf, xr, xw⟩ ↔ (i : Int) = xf ∧ f.rights = xr ∧ (xw = true → (-1) = -1)) := Lib.hid (by
        constructor
        · rintro ⟨_, _, ⟨i', f', h1, h2, h3, h4⟩, h5⟩
          have e : i' = i := by rw [hq] at h1; omega
          subst e
          rw [hfi] at h3
          injection h3 with h3
          rw [h3]
          exact ⟨h2, h4, h5⟩
        · rintro ⟨h1, h2, h3⟩
          exact ⟨HT1.out, HT2.out, ⟨i, f, hq, h1, hfi, h2⟩, h3⟩)
      clear hb2 k0 k1 k2 k3 k4 hq hm hfi hfi' CF CK
      generalize m.table.frames.length = n at CF0 hin ⊢
      generalize m.table.buckets.length = nb at CF0 ⊢
      have hi0 : (0 : Int) ≤ (i : Int) := by omega
      by_cases hfr : (i : Int) = xf
      rotate_left
      · rw [lineFitsB_no (fun h => hfr (HIFF.out.1 h).1)]
        have hbb : ((i : Int) == xf) = false := by simpa using hfr
        go_enter Tryd.func25, Tryd.ntmps25
        go_wp2_with fail
        obtain ⟨w0, hw0⟩ : ∃ w0 : World, w0 = (w.alloc (.cells #[.slice A nb c, .slice (some ⟨b2, o2, none⟩) n d, .slice L nl e, .int .i64 m.cache.hand, .int .i64 m.tags.count, .int .i64 m.tags.next, .int .i64 m.tags.round, .slice O no g, .int .i64 m.space] 46)).alloc (.cells #[.bool xv, .int .i64 (-1), .int .i64 xp, .int .i64 xf, .int .i64 xr, .bool xw] 74) := ⟨_, rfl⟩
        obtain ⟨gm, hgm⟩ : ∃ gm : Nat, gm = w.heap.size := ⟨_, rfl⟩
        obtain ⟨gl, hgl⟩ : ∃ gl : Nat, gl = w.heap.size + 1 := ⟨_, rfl⟩
        have K0 : Hid (Blk w0 gm 46 [.slice A nb c, .slice (some ⟨b2, o2, none⟩) n d, .slice L nl e, .int .i64 m.cache.hand, .int .i64 m.tags.count, .int .i64 m.tags.next, .int .i64 m.tags.round, .slice O no g, .int .i64 m.space]) := Lib.hid (by rw [hw0, hgm]; exact (Blk.new w _ _).alloc _)
        have K1 : Hid (Blk w0 gl 74 [.bool xv, .int .i64 (-1), .int .i64 xp, .int .i64 xf, .int .i64 xr, .bool xw]) := Lib.hid (by rw [hw0, hgl]; exact Blk.new_at _ _ _ (by simp))
        have E0 : Hid (Ex w w0) := Lib.hid (by rw [hw0]; exact ((Ex.refl w).alloc _).alloc _)
        rw [← hw0]
        rw [← hgl]
        rw [← hgm]
        clear hw0 hgm hgl
        have FK9 : Hid (∀ w', Ex w0 w' → (w'.cell? ⟨gm, 0, none⟩ = some (.slice A nb c) ∧ w'.cell? ⟨gm, 1, none⟩ = some (.slice (some ⟨b2, o2, none⟩) n d) ∧ w'.cell? ⟨gl, 2, none⟩ = some (.int .i64 xp))) := Lib.hid (fun w' h => ⟨(K0.out.ex h).c9.1, (K0.out.ex h).c9.2.1, (K1.out.ex h).c6.2.2.1⟩)
        refine wp_region_held_drew (S := (fun w' => (w'.cell? ⟨gm, 0, none⟩ = some (.slice A nb c) ∧ w'.cell? ⟨gm, 1, none⟩ = some (.slice (some ⟨b2, o2, none⟩) n d) ∧ w'.cell? ⟨gl, 2, none⟩ = some (.int .i64 xp)))) (by kernel_rfl) ?r2_hS0 (fun hHeld => ?_)
        case r2_hS0 => exact FK9.out _ (Ex.refl _).drew
        refine wpAnyH_take (i := 0) (oi := ?r2_o0) (v := ?r2_v0) ?r2_ho0 (by kernel_rfl) (by kernel_rfl) (by kernel_rfl) ?r2_hq0 ?r2_hy0 (by assumption) ?_
        case r2_ho0 => (conv => lhs; whnf; arg 1; whnf)
        case r2_hq0 => exact fun _ _ _ h => h
        case r2_hy0 => (refine Or.inl ⟨by rfl, ?_⟩; intro w hSw; (try dsimp only at hSw); first | (go_simp; done) | (go_simp; with_reducible rfl))
        try simp only [Act.put, List.setIfInBounds_toArray, List.set_cons_zero, List.set_cons_succ]
        refine wpAnyH_take (i := 1) (oi := ?r2_o1) (v := ?r2_v1) ?r2_ho1 (by kernel_rfl) (by kernel_rfl) (by kernel_rfl) ?r2_hq1 ?r2_hy1 (by assumption) ?_
        case r2_ho1 => (conv => lhs; whnf; arg 1; whnf)
        case r2_hq1 => exact fun _ _ _ h => h
        case r2_hy1 => (refine Or.inl ⟨by rfl, ?_⟩; intro w hSw; (try dsimp only at hSw); first | (go_simp; done) | (go_simp; with_reducible rfl))
        try simp only [Act.put, List.setIfInBounds_toArray, List.set_cons_zero, List.set_cons_succ]
        refine wpAnyH_take (i := 2) (oi := ?r2_o2) (v := ?r2_v2) ?r2_ho2 (by kernel_rfl) (by kernel_rfl) (by kernel_rfl) ?r2_hq2 ?r2_hy2 (by assumption) ?_
        case r2_ho2 => (conv => lhs; whnf; arg 1; whnf)
        case r2_hq2 => exact fun _ _ _ h => h
        case r2_hy2 => (refine Or.inl ⟨by rfl, ?_⟩; intro w hSw; (try dsimp only at hSw); first | (go_simp; done) | (go_simp; with_reducible rfl))
        try simp only [Act.put, List.setIfInBounds_toArray, List.set_cons_zero, List.set_cons_succ]
        refine wpAnyH_take (i := 3) (oi := ?r2_o3) (v := ?r2_v3) ?r2_ho3 (by kernel_rfl) (by kernel_rfl) (by kernel_rfl) ?r2_hq3 ?r2_hy3 (by assumption) ?_
        case r2_ho3 => (conv => lhs; whnf; arg 1; whnf)
        case r2_hq3 => exact fun _ _ _ h => h
        case r2_hy3 => (refine Or.inl ⟨by rfl, ?_⟩; intro w hSw; (try dsimp only at hSw); first | (go_simp; done) | (go_simp; with_reducible rfl))
        try simp only [Act.put, List.setIfInBounds_toArray, List.set_cons_zero, List.set_cons_succ]
        refine wpAnyH_take (i := 4) (oi := ?r2_o4) (v := ?r2_v4) ?r2_ho4 (by kernel_rfl) (by kernel_rfl) (by kernel_rfl) ?r2_hq4 ?r2_hy4 (by assumption) ?_
        case r2_ho4 => (conv => lhs; whnf; arg 1; whnf)
        case r2_hq4 => exact fun _ _ _ h => h
        case r2_hy4 => (refine Or.inl ⟨by rfl, ?_⟩; intro w hSw; (try dsimp only at hSw); first | (go_simp; done) | (go_simp; with_reducible rfl))
        try simp only [Act.put, List.setIfInBounds_toArray, List.set_cons_zero, List.set_cons_succ]
        refine wpAnyH_ready (rs := [5]) (by kernel_rfl) (by simp) ?_
        refine AllReadyH.cons (o := ?r2_o5) ?r2_ho5 (fun K hK => ?_) AllReadyH.nil
        case r2_ho5 => (conv => lhs; whnf; arg 1; whnf)
        refine step_call_gu rfl CEK.out _ _ rfl #[.int .i64 0, .int .i64 xp] rfl (CK0.out _) ?_; rintro r wa ⟨rfl, hwa⟩; refine ⟨_, rfl, ?_⟩; have hxa := Ex.trans (Ex.refl _).drew hwa
        refine hK.out _ _ ?r2_hS5 (fun hHeld5 => ?_)
        case r2_hS5 => exact FK9.out _ hxa
        clear hK K hHeld
        try simp only [Act.put, List.setIfInBounds_toArray, List.set_cons_zero, List.set_cons_succ]
        refine wpAnyH_ready (rs := [6]) (by kernel_rfl) (by simp) ?_
        refine AllReadyH.cons (o := ?r2_o6) ?r2_ho6 (fun K hK => ?_) AllReadyH.nil
        case r2_ho6 => (conv => lhs; whnf; arg 1; whnf)
        refine step_call_gu rfl CEF.out _ _ rfl #[.agg #[.slice A nb c, .slice (some ⟨b2, o2, none⟩) n d], .agg #[.int .i64 kk.space, .int .i64 kk.page]] rfl (CF0.out _ (HB.out.ex (E0.out.trans hxa)) (HF.out.ex (E0.out.trans hxa))) ?_; rintro r w3 ⟨⟨s2, rfl⟩, he⟩; refine ⟨_, rfl, ?_⟩; have hx3 := Ex.trans hxa he
        refine hK.out _ _ ?r2_hS6 (fun hHeld6 => ?_)
        case r2_hS6 => exact FK9.out _ hx3
        clear hK K hHeld5
        try simp only [Act.put, List.setIfInBounds_toArray, List.set_cons_zero, List.set_cons_succ]
        refine wpAnyH_take (i := 7) (oi := ?r2_o7) (v := ?r2_v7) ?r2_ho7 (by kernel_rfl) (by kernel_rfl) (by kernel_rfl) ?r2_hq7 ?r2_hy7 (by assumption) ?_
        case r2_ho7 => (conv => lhs; whnf; arg 1; whnf)
        case r2_hq7 => exact fun _ _ _ h => h
        case r2_hy7 => (refine Or.inl ⟨by rfl, ?_⟩; intro w hSw; (try dsimp only at hSw); first | (go_simp; done) | (go_simp; with_reducible rfl))
        try simp only [Act.put, List.setIfInBounds_toArray, List.set_cons_zero, List.set_cons_succ]
        refine wpAnyH_take (i := 8) (oi := ?r2_o8) (v := ?r2_v8) ?r2_ho8 (by kernel_rfl) (by kernel_rfl) (by kernel_rfl) ?r2_hq8 ?r2_hy8 (by assumption) ?_
        case r2_ho8 => (conv => lhs; whnf; arg 1; whnf)
        case r2_hq8 => exact fun _ _ _ h => h
        case r2_hy8 => (refine Or.inl ⟨by rfl, ?_⟩; intro w hSw; (try dsimp only at hSw); first | (go_simp; done) | (go_simp; with_reducible rfl))
        try simp only [Act.put, List.setIfInBounds_toArray, List.set_cons_zero, List.set_cons_succ]
        refine wpAnyH_take (i := 9) (oi := ?r2_o9) (v := ?r2_v9) ?r2_ho9 (by kernel_rfl) (by kernel_rfl) (by kernel_rfl) ?r2_hq9 ?r2_hy9 (by assumption) ?_
        case r2_ho9 => (conv => lhs; whnf; arg 1; whnf)
        case r2_hq9 => exact fun _ _ _ h => h
        case r2_hy9 => (refine Or.inl ⟨by rfl, ?_⟩; intro w hSw; (try dsimp only at hSw); first | (go_simp; done) | (go_simp; with_reducible rfl))
        try simp only [Act.put, List.setIfInBounds_toArray, List.set_cons_zero, List.set_cons_succ]
        refine wpAnyH_take (i := 10) (oi := ?r2_o10) (v := ?r2_v10) ?r2_ho10 (by kernel_rfl) (by kernel_rfl) (by kernel_rfl) ?r2_hq10 ?r2_hy10 (by assumption) ?_
        case r2_ho10 => (conv => lhs; whnf; arg 1; whnf)
        case r2_hq10 => exact fun _ _ _ h => h
        case r2_hy10 => (refine Or.inl ⟨by rfl, ?_⟩; intro w hSw; (try dsimp only at hSw); first | (go_simp; done) | (go_simp; with_reducible rfl))
        try simp only [Act.put, List.setIfInBounds_toArray, List.set_cons_zero, List.set_cons_succ]
        refine wpAnyH_take (i := 11) (oi := ?r2_o11) (v := ?r2_v11) ?r2_ho11 (by kernel_rfl) (by kernel_rfl) (by kernel_rfl) ?r2_hq11 ?r2_hy11 (by assumption) ?_
        case r2_ho11 => (conv => lhs; whnf; arg 1; whnf)
        case r2_hq11 => exact fun _ _ _ h => h
        case r2_hy11 => (refine Or.inl ⟨by rfl, ?_⟩; intro w hSw; (try dsimp only at hSw); first | (go_simp; done) | (go_simp; with_reducible rfl))
        try simp only [Act.put, List.setIfInBounds_toArray, List.set_cons_zero, List.set_cons_succ]
        refine wpAnyH_done (by kernel_rfl) ?_ _
        have HX3 := Lib.hid hx3
        clear hx3 hxa he hwa
        go_wp2_with fail
        have FK10 : Hid (∀ w', Ex w3 w' → (w'.cell? ⟨gl, 3, none⟩ = some (.int .i64 xf))) := Lib.hid (fun w' h => (K1.out.ex (HX3.out.trans h)).c6.2.2.2.1)
        refine wp_region_held_drew (S := (fun w' => (w'.cell? ⟨gl, 3, none⟩ = some (.int .i64 xf)))) (by kernel_rfl) ?r3_hS0 (fun hHeld => ?_)
        case r3_hS0 => exact FK10.out _ (Ex.refl _).drew
        refine wpAnyH_take (i := 0) (oi := ?r3_o0) (v := ?r3_v0) ?r3_ho0 (by kernel_rfl) (by kernel_rfl) (by kernel_rfl) ?r3_hq0 ?r3_hy0 (by assumption) ?_
        case r3_ho0 => (conv => lhs; whnf; arg 1; whnf)
        case r3_hq0 => exact fun _ _ _ h => h
        case r3_hy0 => (refine Or.inl ⟨by rfl, ?_⟩; intro w hSw; (try dsimp only at hSw); first | (go_simp; done) | (go_simp; with_reducible rfl))
        try simp only [Act.put, List.setIfInBounds_toArray, List.set_cons_zero, List.set_cons_succ]
        refine wpAnyH_take (i := 1) (oi := ?r3_o1) (v := ?r3_v1) ?r3_ho1 (by kernel_rfl) (by kernel_rfl) (by kernel_rfl) ?r3_hq1 ?r3_hy1 (by assumption) ?_
        case r3_ho1 => (conv => lhs; whnf; arg 1; whnf)
        case r3_hq1 => exact fun _ _ _ h => h
        case r3_hy1 => (refine Or.inl ⟨by rfl, ?_⟩; intro w hSw; (try dsimp only at hSw); first | (go_simp; done) | (go_simp; with_reducible rfl))
        try simp only [Act.put, List.setIfInBounds_toArray, List.set_cons_zero, List.set_cons_succ]
        refine wpAnyH_take (i := 2) (oi := ?r3_o2) (v := ?r3_v2) ?r3_ho2 (by kernel_rfl) (by kernel_rfl) (by kernel_rfl) ?r3_hq2 ?r3_hy2 (by assumption) ?_
        case r3_ho2 => (conv => lhs; whnf; arg 1; whnf)
        case r3_hq2 => exact fun _ _ _ h => h
        case r3_hy2 => (refine Or.inl ⟨by rfl, ?_⟩; intro w hSw; (try dsimp only at hSw); first | (go_simp; done) | (go_simp; with_reducible rfl))
        try simp only [Act.put, List.setIfInBounds_toArray, List.set_cons_zero, List.set_cons_succ]
        refine wpAnyH_take (i := 3) (oi := ?r3_o3) (v := ?r3_v3) ?r3_ho3 (by kernel_rfl) (by kernel_rfl) (by kernel_rfl) ?r3_hq3 ?r3_hy3 (by assumption) ?_
        case r3_ho3 => (conv => lhs; whnf; arg 1; whnf)
        case r3_hq3 => exact fun _ _ _ h => h
        case r3_hy3 => (refine Or.inl ⟨by rfl, ?_⟩; intro w hSw; (try dsimp only at hSw); first | (go_simp; done) | (go_simp; with_reducible rfl))
        try simp only [Act.put, List.setIfInBounds_toArray, List.set_cons_zero, List.set_cons_succ]
        refine wpAnyH_take (i := 4) (oi := ?r3_o4) (v := ?r3_v4) ?r3_ho4 (by kernel_rfl) (by kernel_rfl) (by kernel_rfl) ?r3_hq4 ?r3_hy4 (by assumption) ?_
        case r3_ho4 => (conv => lhs; whnf; arg 1; whnf)
        case r3_hq4 => exact fun _ _ _ h => h
        case r3_hy4 => (refine Or.inl ⟨by rfl, ?_⟩; intro w hSw; (try dsimp only at hSw); first | (go_simp; done) | (go_simp; with_reducible rfl))
        try simp only [Act.put, List.setIfInBounds_toArray, List.set_cons_zero, List.set_cons_succ]
        refine wpAnyH_take (i := 5) (oi := ?r3_o5) (v := ?r3_v5) ?r3_ho5 (by kernel_rfl) (by kernel_rfl) (by kernel_rfl) ?r3_hq5 ?r3_hy5 (by assumption) ?_
        case r3_ho5 => (conv => lhs; whnf; arg 1; whnf)
        case r3_hq5 => exact fun _ _ _ h => h
        case r3_hy5 => (refine Or.inl ⟨by rfl, ?_⟩; intro w hSw; (try dsimp only at hSw); first | (go_simp; done) | (go_simp; with_reducible rfl))
        try simp only [Act.put, List.setIfInBounds_toArray, List.set_cons_zero, List.set_cons_succ]
        refine wpAnyH_take (i := 6) (oi := ?r3_o6) (v := ?r3_v6) ?r3_ho6 (by kernel_rfl) (by kernel_rfl) (by kernel_rfl) ?r3_hq6 ?r3_hy6 (by assumption) ?_
        case r3_ho6 => (conv => lhs; whnf; arg 1; whnf)
        case r3_hq6 => exact fun _ _ _ h => h
        case r3_hy6 => (refine Or.inl ⟨by rfl, ?_⟩; intro w hSw; (try dsimp only at hSw); first | (go_simp; done) | (go_simp; with_reducible rfl))
        try simp only [Act.put, List.setIfInBounds_toArray, List.set_cons_zero, List.set_cons_succ]
        refine wpAnyH_take (i := 7) (oi := ?r3_o7) (v := ?r3_v7) ?r3_ho7 (by kernel_rfl) (by kernel_rfl) (by kernel_rfl) ?r3_hq7 ?r3_hy7 (by assumption) ?_
        case r3_ho7 => (conv => lhs; whnf; arg 1; whnf)
        case r3_hq7 => exact fun _ _ _ h => h
        case r3_hy7 => (refine Or.inl ⟨by rfl, ?_⟩; intro w hSw; (try dsimp only at hSw); first | (go_simp; done) | (go_simp; with_reducible rfl))
        try simp only [Act.put, List.setIfInBounds_toArray, List.set_cons_zero, List.set_cons_succ]
        refine wpAnyH_take (i := 8) (oi := ?r3_o8) (v := ?r3_v8) ?r3_ho8 (by kernel_rfl) (by kernel_rfl) (by kernel_rfl) ?r3_hq8 ?r3_hy8 (by assumption) ?_
        case r3_ho8 => (conv => lhs; whnf; arg 1; whnf)
        case r3_hq8 => exact fun _ _ _ h => h
        case r3_hy8 => (refine Or.inl ⟨by rfl, ?_⟩; intro w hSw; (try dsimp only at hSw); first | (go_simp; done) | (go_simp; with_reducible rfl))
        try simp only [Act.put, List.setIfInBounds_toArray, List.set_cons_zero, List.set_cons_succ]
        refine wpAnyH_take (i := 9) (oi := ?r3_o9) (v := undef) ?r3_ho9 (by kernel_rfl) (by kernel_rfl) (by kernel_rfl) ?r3_hq9 ?r3_hy9 (by assumption) ?_
        case r3_ho9 => (conv => lhs; whnf; arg 1; whnf)
        case r3_hq9 => exact fun _ _ _ h => h
        case r3_hy9 => exact Or.inr ⟨by rfl, rfl⟩
        try simp only [Act.put, List.setIfInBounds_toArray, List.set_cons_zero, List.set_cons_succ]
        refine wpAnyH_take (i := 10) (oi := ?r3_o10) (v := undef) ?r3_ho10 (by kernel_rfl) (by kernel_rfl) (by kernel_rfl) ?r3_hq10 ?r3_hy10 (by assumption) ?_
        case r3_ho10 => (conv => lhs; whnf; arg 1; whnf)
        case r3_hq10 => exact fun _ _ _ h => h
        case r3_hy10 => exact Or.inr ⟨by rfl, rfl⟩
        try simp only [Act.put, List.setIfInBounds_toArray, List.set_cons_zero, List.set_cons_succ]
        refine wpAnyH_take (i := 11) (oi := ?r3_o11) (v := undef) ?r3_ho11 (by kernel_rfl) (by kernel_rfl) (by kernel_rfl) ?r3_hq11 ?r3_hy11 (by assumption) ?_
        case r3_ho11 => (conv => lhs; whnf; arg 1; whnf)
        case r3_hq11 => exact fun _ _ _ h => h
        case r3_hy11 => exact Or.inr ⟨by rfl, rfl⟩
        try simp only [Act.put, List.setIfInBounds_toArray, List.set_cons_zero, List.set_cons_succ]
        refine wpAnyH_take (i := 12) (oi := ?r3_o12) (v := undef) ?r3_ho12 (by kernel_rfl) (by kernel_rfl) (by kernel_rfl) ?r3_hq12 ?r3_hy12 (by assumption) ?_
        case r3_ho12 => (conv => lhs; whnf; arg 1; whnf)
        case r3_hq12 => exact fun _ _ _ h => h
        case r3_hy12 => exact Or.inr ⟨by rfl, rfl⟩
        try simp only [Act.put, List.setIfInBounds_toArray, List.set_cons_zero, List.set_cons_succ]
        refine wpAnyH_take (i := 13) (oi := ?r3_o13) (v := undef) ?r3_ho13 (by kernel_rfl) (by kernel_rfl) (by kernel_rfl) ?r3_hq13 ?r3_hy13 (by assumption) ?_
        case r3_ho13 => (conv => lhs; whnf; arg 1; whnf)
        case r3_hq13 => exact fun _ _ _ h => h
        case r3_hy13 => exact Or.inr ⟨by rfl, rfl⟩
        try simp only [Act.put, List.setIfInBounds_toArray, List.set_cons_zero, List.set_cons_succ]
        refine wpAnyH_take (i := 14) (oi := ?r3_o14) (v := undef) ?r3_ho14 (by kernel_rfl) (by kernel_rfl) (by kernel_rfl) ?r3_hq14 ?r3_hy14 (by assumption) ?_
        case r3_ho14 => (conv => lhs; whnf; arg 1; whnf)
        case r3_hq14 => exact fun _ _ _ h => h
        case r3_hy14 => exact Or.inr ⟨by rfl, rfl⟩
        try simp only [Act.put, List.setIfInBounds_toArray, List.set_cons_zero, List.set_cons_succ]
        refine wpAnyH_take (i := 15) (oi := ?r3_o15) (v := undef) ?r3_ho15 (by kernel_rfl) (by kernel_rfl) (by kernel_rfl) ?r3_hq15 ?r3_hy15 (by assumption) ?_
        case r3_ho15 => (conv => lhs; whnf; arg 1; whnf)
        case r3_hq15 => exact fun _ _ _ h => h
        case r3_hy15 => exact Or.inr ⟨by rfl, rfl⟩
        try simp only [Act.put, List.setIfInBounds_toArray, List.set_cons_zero, List.set_cons_succ]
        refine wpAnyH_take (i := 16) (oi := ?r3_o16) (v := undef) ?r3_ho16 (by kernel_rfl) (by kernel_rfl) (by kernel_rfl) ?r3_hq16 ?r3_hy16 (by assumption) ?_
        case r3_ho16 => (conv => lhs; whnf; arg 1; whnf)
        case r3_hq16 => exact fun _ _ _ h => h
        case r3_hy16 => exact Or.inr ⟨by rfl, rfl⟩
        try simp only [Act.put, List.setIfInBounds_toArray, List.set_cons_zero, List.set_cons_succ]
        refine wpAnyH_take (i := 17) (oi := ?r3_o17) (v := undef) ?r3_ho17 (by kernel_rfl) (by kernel_rfl) (by kernel_rfl) ?r3_hq17 ?r3_hy17 (by assumption) ?_
        case r3_ho17 => (conv => lhs; whnf; arg 1; whnf)
        case r3_hq17 => exact fun _ _ _ h => h
        case r3_hy17 => exact Or.inr ⟨by rfl, rfl⟩
        try simp only [Act.put, List.setIfInBounds_toArray, List.set_cons_zero, List.set_cons_succ]
        refine wpAnyH_take (i := 18) (oi := ?r3_o18) (v := undef) ?r3_ho18 (by kernel_rfl) (by kernel_rfl) (by kernel_rfl) ?r3_hq18 ?r3_hy18 (by assumption) ?_
        case r3_ho18 => (conv => lhs; whnf; arg 1; whnf)
        case r3_hq18 => exact fun _ _ _ h => h
        case r3_hy18 => exact Or.inr ⟨by rfl, rfl⟩
        try simp only [Act.put, List.setIfInBounds_toArray, List.set_cons_zero, List.set_cons_succ]
        refine wpAnyH_take (i := 19) (oi := ?r3_o19) (v := ?r3_v19) ?r3_ho19 (by kernel_rfl) (by kernel_rfl) (by kernel_rfl) ?r3_hq19 ?r3_hy19 (by assumption) ?_
        case r3_ho19 => (conv => lhs; whnf; arg 1; whnf)
        case r3_hq19 => exact fun _ _ _ h => h
        case r3_hy19 => (refine Or.inl ⟨by rfl, ?_⟩; intro w hSw; (try dsimp only at hSw); first | (go_simp; done) | (go_simp; with_reducible rfl))
        try simp only [Act.put, List.setIfInBounds_toArray, List.set_cons_zero, List.set_cons_succ]
        refine wpAnyH_take (i := 20) (oi := ?r3_o20) (v := ?r3_v20) ?r3_ho20 (by kernel_rfl) (by kernel_rfl) (by kernel_rfl) ?r3_hq20 ?r3_hy20 (by assumption) ?_
        case r3_ho20 => (conv => lhs; whnf; arg 1; whnf)
        case r3_hq20 => exact fun _ _ _ h => h
        case r3_hy20 => (refine Or.inl ⟨by rfl, ?_⟩; intro w hSw; (try dsimp only at hSw); first | (go_simp; done) | (go_simp; with_reducible rfl))
        try simp only [Act.put, List.setIfInBounds_toArray, List.set_cons_zero, List.set_cons_succ]
        refine wpAnyH_take (i := 21) (oi := ?r3_o21) (v := undef) ?r3_ho21 (by kernel_rfl) (by kernel_rfl) (by kernel_rfl) ?r3_hq21 ?r3_hy21 (by assumption) ?_
        case r3_ho21 => (conv => lhs; whnf; arg 1; whnf)
        case r3_hq21 => exact fun _ _ _ h => h
        case r3_hy21 => exact Or.inr ⟨by rfl, rfl⟩
        try simp only [Act.put, List.setIfInBounds_toArray, List.set_cons_zero, List.set_cons_succ]
        refine wpAnyH_take (i := 22) (oi := ?r3_o22) (v := undef) ?r3_ho22 (by kernel_rfl) (by kernel_rfl) (by kernel_rfl) ?r3_hq22 ?r3_hy22 (by assumption) ?_
        case r3_ho22 => (conv => lhs; whnf; arg 1; whnf)
        case r3_hq22 => exact fun _ _ _ h => h
        case r3_hy22 => exact Or.inr ⟨by rfl, rfl⟩
        try simp only [Act.put, List.setIfInBounds_toArray, List.set_cons_zero, List.set_cons_succ]
        refine wpAnyH_take (i := 23) (oi := ?r3_o23) (v := undef) ?r3_ho23 (by kernel_rfl) (by kernel_rfl) (by kernel_rfl) ?r3_hq23 ?r3_hy23 (by assumption) ?_
        case r3_ho23 => (conv => lhs; whnf; arg 1; whnf)
        case r3_hq23 => exact fun _ _ _ h => h
        case r3_hy23 => exact Or.inr ⟨by rfl, rfl⟩
        try simp only [Act.put, List.setIfInBounds_toArray, List.set_cons_zero, List.set_cons_succ]
        refine wpAnyH_take (i := 24) (oi := ?r3_o24) (v := undef) ?r3_ho24 (by kernel_rfl) (by kernel_rfl) (by kernel_rfl) ?r3_hq24 ?r3_hy24 (by assumption) ?_
        case r3_ho24 => (conv => lhs; whnf; arg 1; whnf)
        case r3_hq24 => exact fun _ _ _ h => h
        case r3_hy24 => exact Or.inr ⟨by rfl, rfl⟩
        try simp only [Act.put, List.setIfInBounds_toArray, List.set_cons_zero, List.set_cons_succ]
        refine wpAnyH_take (i := 25) (oi := ?r3_o25) (v := undef) ?r3_ho25 (by kernel_rfl) (by kernel_rfl) (by kernel_rfl) ?r3_hq25 ?r3_hy25 (by assumption) ?_
        case r3_ho25 => (conv => lhs; whnf; arg 1; whnf)
        case r3_hq25 => exact fun _ _ _ h => h
        case r3_hy25 => exact Or.inr ⟨by rfl, rfl⟩
        try simp only [Act.put, List.setIfInBounds_toArray, List.set_cons_zero, List.set_cons_succ]
        refine wpAnyH_take (i := 26) (oi := ?r3_o26) (v := undef) ?r3_ho26 (by kernel_rfl) (by kernel_rfl) (by kernel_rfl) ?r3_hq26 ?r3_hy26 (by assumption) ?_
        case r3_ho26 => (conv => lhs; whnf; arg 1; whnf)
        case r3_hq26 => exact fun _ _ _ h => h
        case r3_hy26 => exact Or.inr ⟨by rfl, rfl⟩
        try simp only [Act.put, List.setIfInBounds_toArray, List.set_cons_zero, List.set_cons_succ]
        refine wpAnyH_take (i := 27) (oi := ?r3_o27) (v := undef) ?r3_ho27 (by kernel_rfl) (by kernel_rfl) (by kernel_rfl) ?r3_hq27 ?r3_hy27 (by assumption) ?_
        case r3_ho27 => (conv => lhs; whnf; arg 1; whnf)
        case r3_hq27 => exact fun _ _ _ h => h
        case r3_hy27 => exact Or.inr ⟨by rfl, rfl⟩
        try simp only [Act.put, List.setIfInBounds_toArray, List.set_cons_zero, List.set_cons_succ]
        refine wpAnyH_take (i := 28) (oi := ?r3_o28) (v := undef) ?r3_ho28 (by kernel_rfl) (by kernel_rfl) (by kernel_rfl) ?r3_hq28 ?r3_hy28 (by assumption) ?_
        case r3_ho28 => (conv => lhs; whnf; arg 1; whnf)
        case r3_hq28 => exact fun _ _ _ h => h
        case r3_hy28 => exact Or.inr ⟨by rfl, rfl⟩
        try simp only [Act.put, List.setIfInBounds_toArray, List.set_cons_zero, List.set_cons_succ]
        refine wpAnyH_take (i := 29) (oi := ?r3_o29) (v := ?r3_v29) ?r3_ho29 (by kernel_rfl) (by kernel_rfl) (by kernel_rfl) ?r3_hq29 ?r3_hy29 (by assumption) ?_
        case r3_ho29 => (conv => lhs; whnf; arg 1; whnf)
        case r3_hq29 => exact fun _ _ _ h => h
        case r3_hy29 => (refine Or.inl ⟨by rfl, ?_⟩; intro w hSw; (try dsimp only at hSw); first | (go_simp; done) | (go_simp; with_reducible rfl))
        try simp only [Act.put, List.setIfInBounds_toArray, List.set_cons_zero, List.set_cons_succ]
        refine wpAnyH_take (i := 30) (oi := ?r3_o30) (v := ?r3_v30) ?r3_ho30 (by kernel_rfl) (by kernel_rfl) (by kernel_rfl) ?r3_hq30 ?r3_hy30 (by assumption) ?_
        case r3_ho30 => (conv => lhs; whnf; arg 1; whnf)
        case r3_hq30 => exact fun _ _ _ h => h
        case r3_hy30 => (refine Or.inl ⟨by rfl, ?_⟩; intro w hSw; (try dsimp only at hSw); first | (go_simp; done) | (go_simp; with_reducible rfl))
        try simp only [Act.put, List.setIfInBounds_toArray, List.set_cons_zero, List.set_cons_succ]
        refine wpAnyH_done (by kernel_rfl) ?_ _
        go_wp2
        go_ret
        exact ⟨rfl, (E0.out.trans HX3.out).drew⟩
      by_cases hr : f.rights = xr
      rotate_left
      · rw [lineFitsB_no (fun h => hr (HIFF.out.1 h).2.1)]
        have hbb : (f.rights == xr) = false := by simpa using hr
        clear HIFF
        subst hfr
        go_enter Tryd.func25, Tryd.ntmps25
        go_wp2_with fail
        obtain ⟨w0, hw0⟩ : ∃ w0 : World, w0 = (w.alloc (.cells #[.slice A nb c, .slice (some ⟨b2, o2, none⟩) n d, .slice L nl e, .int .i64 m.cache.hand, .int .i64 m.tags.count, .int .i64 m.tags.next, .int .i64 m.tags.round, .slice O no g, .int .i64 m.space] 46)).alloc (.cells #[.bool xv, .int .i64 (-1), .int .i64 xp, .int .i64 (i : Int), .int .i64 xr, .bool xw] 74) := ⟨_, rfl⟩
        obtain ⟨gm, hgm⟩ : ∃ gm : Nat, gm = w.heap.size := ⟨_, rfl⟩
        obtain ⟨gl, hgl⟩ : ∃ gl : Nat, gl = w.heap.size + 1 := ⟨_, rfl⟩
        have K0 : Hid (Blk w0 gm 46 [.slice A nb c, .slice (some ⟨b2, o2, none⟩) n d, .slice L nl e, .int .i64 m.cache.hand, .int .i64 m.tags.count, .int .i64 m.tags.next, .int .i64 m.tags.round, .slice O no g, .int .i64 m.space]) := Lib.hid (by rw [hw0, hgm]; exact (Blk.new w _ _).alloc _)
        have K1 : Hid (Blk w0 gl 74 [.bool xv, .int .i64 (-1), .int .i64 xp, .int .i64 (i : Int), .int .i64 xr, .bool xw]) := Lib.hid (by rw [hw0, hgl]; exact Blk.new_at _ _ _ (by simp))
        have E0 : Hid (Ex w w0) := Lib.hid (by rw [hw0]; exact ((Ex.refl w).alloc _).alloc _)
        rw [← hw0]
        rw [← hgl]
        rw [← hgm]
        clear hw0 hgm hgl
        have FK9 : Hid (∀ w', Ex w0 w' → (w'.cell? ⟨gm, 0, none⟩ = some (.slice A nb c) ∧ w'.cell? ⟨gm, 1, none⟩ = some (.slice (some ⟨b2, o2, none⟩) n d) ∧ w'.cell? ⟨gl, 2, none⟩ = some (.int .i64 xp))) := Lib.hid (fun w' h => ⟨(K0.out.ex h).c9.1, (K0.out.ex h).c9.2.1, (K1.out.ex h).c6.2.2.1⟩)
        refine wp_region_held_drew (S := (fun w' => (w'.cell? ⟨gm, 0, none⟩ = some (.slice A nb c) ∧ w'.cell? ⟨gm, 1, none⟩ = some (.slice (some ⟨b2, o2, none⟩) n d) ∧ w'.cell? ⟨gl, 2, none⟩ = some (.int .i64 xp)))) (by kernel_rfl) ?r4_hS0 (fun hHeld => ?_)
        case r4_hS0 => exact FK9.out _ (Ex.refl _).drew
        refine wpAnyH_take (i := 0) (oi := ?r4_o0) (v := ?r4_v0) ?r4_ho0 (by kernel_rfl) (by kernel_rfl) (by kernel_rfl) ?r4_hq0 ?r4_hy0 (by assumption) ?_
        case r4_ho0 => (conv => lhs; whnf; arg 1; whnf)
        case r4_hq0 => exact fun _ _ _ h => h
        case r4_hy0 => (refine Or.inl ⟨by rfl, ?_⟩; intro w hSw; (try dsimp only at hSw); first | (go_simp; done) | (go_simp; with_reducible rfl))
        try simp only [Act.put, List.setIfInBounds_toArray, List.set_cons_zero, List.set_cons_succ]
        refine wpAnyH_take (i := 1) (oi := ?r4_o1) (v := ?r4_v1) ?r4_ho1 (by kernel_rfl) (by kernel_rfl) (by kernel_rfl) ?r4_hq1 ?r4_hy1 (by assumption) ?_
        case r4_ho1 => (conv => lhs; whnf; arg 1; whnf)
        case r4_hq1 => exact fun _ _ _ h => h
        case r4_hy1 => (refine Or.inl ⟨by rfl, ?_⟩; intro w hSw; (try dsimp only at hSw); first | (go_simp; done) | (go_simp; with_reducible rfl))
        try simp only [Act.put, List.setIfInBounds_toArray, List.set_cons_zero, List.set_cons_succ]
        refine wpAnyH_take (i := 2) (oi := ?r4_o2) (v := ?r4_v2) ?r4_ho2 (by kernel_rfl) (by kernel_rfl) (by kernel_rfl) ?r4_hq2 ?r4_hy2 (by assumption) ?_
        case r4_ho2 => (conv => lhs; whnf; arg 1; whnf)
        case r4_hq2 => exact fun _ _ _ h => h
        case r4_hy2 => (refine Or.inl ⟨by rfl, ?_⟩; intro w hSw; (try dsimp only at hSw); first | (go_simp; done) | (go_simp; with_reducible rfl))
        try simp only [Act.put, List.setIfInBounds_toArray, List.set_cons_zero, List.set_cons_succ]
        refine wpAnyH_take (i := 3) (oi := ?r4_o3) (v := ?r4_v3) ?r4_ho3 (by kernel_rfl) (by kernel_rfl) (by kernel_rfl) ?r4_hq3 ?r4_hy3 (by assumption) ?_
        case r4_ho3 => (conv => lhs; whnf; arg 1; whnf)
        case r4_hq3 => exact fun _ _ _ h => h
        case r4_hy3 => (refine Or.inl ⟨by rfl, ?_⟩; intro w hSw; (try dsimp only at hSw); first | (go_simp; done) | (go_simp; with_reducible rfl))
        try simp only [Act.put, List.setIfInBounds_toArray, List.set_cons_zero, List.set_cons_succ]
        refine wpAnyH_take (i := 4) (oi := ?r4_o4) (v := ?r4_v4) ?r4_ho4 (by kernel_rfl) (by kernel_rfl) (by kernel_rfl) ?r4_hq4 ?r4_hy4 (by assumption) ?_
        case r4_ho4 => (conv => lhs; whnf; arg 1; whnf)
        case r4_hq4 => exact fun _ _ _ h => h
        case r4_hy4 => (refine Or.inl ⟨by rfl, ?_⟩; intro w hSw; (try dsimp only at hSw); first | (go_simp; done) | (go_simp; with_reducible rfl))
        try simp only [Act.put, List.setIfInBounds_toArray, List.set_cons_zero, List.set_cons_succ]
        refine wpAnyH_ready (rs := [5]) (by kernel_rfl) (by simp) ?_
        refine AllReadyH.cons (o := ?r4_o5) ?r4_ho5 (fun K hK => ?_) AllReadyH.nil
        case r4_ho5 => (conv => lhs; whnf; arg 1; whnf)
        refine step_call_gu rfl CEK.out _ _ rfl #[.int .i64 0, .int .i64 xp] rfl (CK0.out _) ?_; rintro r wa ⟨rfl, hwa⟩; refine ⟨_, rfl, ?_⟩; have hxa := Ex.trans (Ex.refl _).drew hwa
        refine hK.out _ _ ?r4_hS5 (fun hHeld5 => ?_)
        case r4_hS5 => exact FK9.out _ hxa
        clear hK K hHeld
        try simp only [Act.put, List.setIfInBounds_toArray, List.set_cons_zero, List.set_cons_succ]
        refine wpAnyH_ready (rs := [6]) (by kernel_rfl) (by simp) ?_
        refine AllReadyH.cons (o := ?r4_o6) ?r4_ho6 (fun K hK => ?_) AllReadyH.nil
        case r4_ho6 => (conv => lhs; whnf; arg 1; whnf)
        refine step_call_gu rfl CEF.out _ _ rfl #[.agg #[.slice A nb c, .slice (some ⟨b2, o2, none⟩) n d], .agg #[.int .i64 kk.space, .int .i64 kk.page]] rfl (CF0.out _ (HB.out.ex (E0.out.trans hxa)) (HF.out.ex (E0.out.trans hxa))) ?_; rintro r w3 ⟨⟨s2, rfl⟩, he⟩; refine ⟨_, rfl, ?_⟩; have hx3 := Ex.trans hxa he
        refine hK.out _ _ ?r4_hS6 (fun hHeld6 => ?_)
        case r4_hS6 => exact FK9.out _ hx3
        clear hK K hHeld5
        try simp only [Act.put, List.setIfInBounds_toArray, List.set_cons_zero, List.set_cons_succ]
        refine wpAnyH_take (i := 7) (oi := ?r4_o7) (v := ?r4_v7) ?r4_ho7 (by kernel_rfl) (by kernel_rfl) (by kernel_rfl) ?r4_hq7 ?r4_hy7 (by assumption) ?_
        case r4_ho7 => (conv => lhs; whnf; arg 1; whnf)
        case r4_hq7 => exact fun _ _ _ h => h
        case r4_hy7 => (refine Or.inl ⟨by rfl, ?_⟩; intro w hSw; (try dsimp only at hSw); first | (go_simp; done) | (go_simp; with_reducible rfl))
        try simp only [Act.put, List.setIfInBounds_toArray, List.set_cons_zero, List.set_cons_succ]
        refine wpAnyH_take (i := 8) (oi := ?r4_o8) (v := ?r4_v8) ?r4_ho8 (by kernel_rfl) (by kernel_rfl) (by kernel_rfl) ?r4_hq8 ?r4_hy8 (by assumption) ?_
        case r4_ho8 => (conv => lhs; whnf; arg 1; whnf)
        case r4_hq8 => exact fun _ _ _ h => h
        case r4_hy8 => (refine Or.inl ⟨by rfl, ?_⟩; intro w hSw; (try dsimp only at hSw); first | (go_simp; done) | (go_simp; with_reducible rfl))
        try simp only [Act.put, List.setIfInBounds_toArray, List.set_cons_zero, List.set_cons_succ]
        refine wpAnyH_take (i := 9) (oi := ?r4_o9) (v := ?r4_v9) ?r4_ho9 (by kernel_rfl) (by kernel_rfl) (by kernel_rfl) ?r4_hq9 ?r4_hy9 (by assumption) ?_
        case r4_ho9 => (conv => lhs; whnf; arg 1; whnf)
        case r4_hq9 => exact fun _ _ _ h => h
        case r4_hy9 => (refine Or.inl ⟨by rfl, ?_⟩; intro w hSw; (try dsimp only at hSw); first | (go_simp; done) | (go_simp; with_reducible rfl))
        try simp only [Act.put, List.setIfInBounds_toArray, List.set_cons_zero, List.set_cons_succ]
        refine wpAnyH_take (i := 10) (oi := ?r4_o10) (v := ?r4_v10) ?r4_ho10 (by kernel_rfl) (by kernel_rfl) (by kernel_rfl) ?r4_hq10 ?r4_hy10 (by assumption) ?_
        case r4_ho10 => (conv => lhs; whnf; arg 1; whnf)
        case r4_hq10 => exact fun _ _ _ h => h
        case r4_hy10 => (refine Or.inl ⟨by rfl, ?_⟩; intro w hSw; (try dsimp only at hSw); first | (go_simp; done) | (go_simp; with_reducible rfl))
        try simp only [Act.put, List.setIfInBounds_toArray, List.set_cons_zero, List.set_cons_succ]
        refine wpAnyH_take (i := 11) (oi := ?r4_o11) (v := ?r4_v11) ?r4_ho11 (by kernel_rfl) (by kernel_rfl) (by kernel_rfl) ?r4_hq11 ?r4_hy11 (by assumption) ?_
        case r4_ho11 => (conv => lhs; whnf; arg 1; whnf)
        case r4_hq11 => exact fun _ _ _ h => h
        case r4_hy11 => (refine Or.inl ⟨by rfl, ?_⟩; intro w hSw; (try dsimp only at hSw); first | (go_simp; done) | (go_simp; with_reducible rfl))
        try simp only [Act.put, List.setIfInBounds_toArray, List.set_cons_zero, List.set_cons_succ]
        refine wpAnyH_done (by kernel_rfl) ?_ _
        have HX3 := Lib.hid hx3
        clear hx3 hxa he hwa
        go_wp2_with fail
        have FK10 : Hid (∀ w', Ex w3 w' → (w'.cell? ⟨gl, 3, none⟩ = some (.int .i64 (i : Int)) ∧ w'.cell? ⟨gl, 4, none⟩ = some (.int .i64 xr) ∧ w'.cell? ⟨gm, 1, none⟩ = some (.slice (some ⟨b2, o2, none⟩) n d) ∧ w'.cell? ⟨b2, o2 + i * 5 + 3, none⟩ = some (.int .i64 f.rights))) := Lib.hid (fun w' h => ⟨(K1.out.ex (HX3.out.trans h)).c6.2.2.2.1, (K1.out.ex (HX3.out.trans h)).c6.2.2.2.2.1, (K0.out.ex (HX3.out.trans h)).c9.2.1, (((E0.out.trans HX3.out).trans h).cell HB2.out).trans K3.out⟩)
        refine wp_region_held_drew (S := (fun w' => (w'.cell? ⟨gl, 3, none⟩ = some (.int .i64 (i : Int)) ∧ w'.cell? ⟨gl, 4, none⟩ = some (.int .i64 xr) ∧ w'.cell? ⟨gm, 1, none⟩ = some (.slice (some ⟨b2, o2, none⟩) n d) ∧ w'.cell? ⟨b2, o2 + i * 5 + 3, none⟩ = some (.int .i64 f.rights)))) (by kernel_rfl) ?r5_hS0 (fun hHeld => ?_)
        case r5_hS0 => exact FK10.out _ (Ex.refl _).drew
        refine wpAnyH_take (i := 0) (oi := ?r5_o0) (v := ?r5_v0) ?r5_ho0 (by kernel_rfl) (by kernel_rfl) (by kernel_rfl) ?r5_hq0 ?r5_hy0 (by assumption) ?_
        case r5_ho0 => (conv => lhs; whnf; arg 1; whnf)
        case r5_hq0 => exact fun _ _ _ h => h
        case r5_hy0 => (refine Or.inl ⟨by rfl, ?_⟩; intro w hSw; (try dsimp only at hSw); first | (go_simp; done) | (go_simp; with_reducible rfl))
        try simp only [Act.put, List.setIfInBounds_toArray, List.set_cons_zero, List.set_cons_succ]
        refine wpAnyH_take (i := 1) (oi := ?r5_o1) (v := ?r5_v1) ?r5_ho1 (by kernel_rfl) (by kernel_rfl) (by kernel_rfl) ?r5_hq1 ?r5_hy1 (by assumption) ?_
        case r5_ho1 => (conv => lhs; whnf; arg 1; whnf)
        case r5_hq1 => exact fun _ _ _ h => h
        case r5_hy1 => (refine Or.inl ⟨by rfl, ?_⟩; intro w hSw; (try dsimp only at hSw); first | (go_simp; done) | (go_simp; with_reducible rfl))
        try simp only [Act.put, List.setIfInBounds_toArray, List.set_cons_zero, List.set_cons_succ]
        refine wpAnyH_take (i := 2) (oi := ?r5_o2) (v := ?r5_v2) ?r5_ho2 (by kernel_rfl) (by kernel_rfl) (by kernel_rfl) ?r5_hq2 ?r5_hy2 (by assumption) ?_
        case r5_ho2 => (conv => lhs; whnf; arg 1; whnf)
        case r5_hq2 => exact fun _ _ _ h => h
        case r5_hy2 => (refine Or.inl ⟨by rfl, ?_⟩; intro w hSw; (try dsimp only at hSw); first | (go_simp; done) | (go_simp; with_reducible rfl))
        try simp only [Act.put, List.setIfInBounds_toArray, List.set_cons_zero, List.set_cons_succ]
        refine wpAnyH_take (i := 3) (oi := ?r5_o3) (v := ?r5_v3) ?r5_ho3 (by kernel_rfl) (by kernel_rfl) (by kernel_rfl) ?r5_hq3 ?r5_hy3 (by assumption) ?_
        case r5_ho3 => (conv => lhs; whnf; arg 1; whnf)
        case r5_hq3 => exact fun _ _ _ h => h
        case r5_hy3 => (refine Or.inl ⟨by rfl, ?_⟩; intro w hSw; (try dsimp only at hSw); first | (go_simp; done) | (go_simp; with_reducible rfl))
        try simp only [Act.put, List.setIfInBounds_toArray, List.set_cons_zero, List.set_cons_succ]
        refine wpAnyH_take (i := 4) (oi := ?r5_o4) (v := ?r5_v4) ?r5_ho4 (by kernel_rfl) (by kernel_rfl) (by kernel_rfl) ?r5_hq4 ?r5_hy4 (by assumption) ?_
        case r5_ho4 => (conv => lhs; whnf; arg 1; whnf)
        case r5_hq4 => exact fun _ _ _ h => h
        case r5_hy4 => (refine Or.inl ⟨by rfl, ?_⟩; intro w hSw; (try dsimp only at hSw); first | (go_simp; done) | (go_simp; with_reducible rfl))
        try simp only [Act.put, List.setIfInBounds_toArray, List.set_cons_zero, List.set_cons_succ]
        refine wpAnyH_take (i := 5) (oi := ?r5_o5) (v := ?r5_v5) ?r5_ho5 (by kernel_rfl) (by kernel_rfl) (by kernel_rfl) ?r5_hq5 ?r5_hy5 (by assumption) ?_
        case r5_ho5 => (conv => lhs; whnf; arg 1; whnf)
        case r5_hq5 => exact fun _ _ _ h => h
        case r5_hy5 => (refine Or.inl ⟨by rfl, ?_⟩; intro w hSw; (try dsimp only at hSw); first | (go_simp; done) | (go_simp; with_reducible rfl))
        try simp only [Act.put, List.setIfInBounds_toArray, List.set_cons_zero, List.set_cons_succ]
        refine wpAnyH_take (i := 6) (oi := ?r5_o6) (v := ?r5_v6) ?r5_ho6 (by kernel_rfl) (by kernel_rfl) (by kernel_rfl) ?r5_hq6 ?r5_hy6 (by assumption) ?_
        case r5_ho6 => (conv => lhs; whnf; arg 1; whnf)
        case r5_hq6 => exact fun _ _ _ h => h
        case r5_hy6 => (refine Or.inl ⟨by rfl, ?_⟩; intro w hSw; (try dsimp only at hSw); first | (go_simp; done) | (go_simp; with_reducible rfl))
        try simp only [Act.put, List.setIfInBounds_toArray, List.set_cons_zero, List.set_cons_succ]
        refine wpAnyH_take (i := 7) (oi := ?r5_o7) (v := ?r5_v7) ?r5_ho7 (by kernel_rfl) (by kernel_rfl) (by kernel_rfl) ?r5_hq7 ?r5_hy7 (by assumption) ?_
        case r5_ho7 => (conv => lhs; whnf; arg 1; whnf)
        case r5_hq7 => exact fun _ _ _ h => h
        case r5_hy7 => (refine Or.inl ⟨by rfl, ?_⟩; intro w hSw; (try dsimp only at hSw); first | (go_simp; done) | (go_simp; with_reducible rfl))
        try simp only [Act.put, List.setIfInBounds_toArray, List.set_cons_zero, List.set_cons_succ]
        refine wpAnyH_take (i := 8) (oi := ?r5_o8) (v := ?r5_v8) ?r5_ho8 (by kernel_rfl) (by kernel_rfl) (by kernel_rfl) ?r5_hq8 ?r5_hy8 (by assumption) ?_
        case r5_ho8 => (conv => lhs; whnf; arg 1; whnf)
        case r5_hq8 => exact fun _ _ _ h => h
        case r5_hy8 => (refine Or.inl ⟨by rfl, ?_⟩; intro w hSw; (try dsimp only at hSw); first | (go_simp; done) | (go_simp; with_reducible rfl))
        try simp only [Act.put, List.setIfInBounds_toArray, List.set_cons_zero, List.set_cons_succ]
        refine wpAnyH_take (i := 9) (oi := ?r5_o9) (v := ?r5_v9) ?r5_ho9 (by kernel_rfl) (by kernel_rfl) (by kernel_rfl) ?r5_hq9 ?r5_hy9 (by assumption) ?_
        case r5_ho9 => (conv => lhs; whnf; arg 1; whnf)
        case r5_hq9 => exact fun _ _ _ h => h
        case r5_hy9 => (refine Or.inl ⟨by rfl, ?_⟩; intro w hSw; (try dsimp only at hSw); first | (go_simp; done) | (go_simp; with_reducible rfl))
        try simp only [Act.put, List.setIfInBounds_toArray, List.set_cons_zero, List.set_cons_succ]
        refine wpAnyH_take (i := 10) (oi := ?r5_o10) (v := ?r5_v10) ?r5_ho10 (by kernel_rfl) (by kernel_rfl) (by kernel_rfl) ?r5_hq10 ?r5_hy10 (by assumption) ?_
        case r5_ho10 => (conv => lhs; whnf; arg 1; whnf)
        case r5_hq10 => exact fun _ _ _ h => h
        case r5_hy10 => (refine Or.inl ⟨by rfl, ?_⟩; intro w hSw; (try dsimp only at hSw); first | (go_simp; done) | (go_simp; with_reducible rfl))
        try simp only [Act.put, List.setIfInBounds_toArray, List.set_cons_zero, List.set_cons_succ]
        refine wpAnyH_take (i := 11) (oi := ?r5_o11) (v := ?r5_v11) ?r5_ho11 (by kernel_rfl) (by kernel_rfl) (by kernel_rfl) ?r5_hq11 ?r5_hy11 (by assumption) ?_
        case r5_ho11 => (conv => lhs; whnf; arg 1; whnf)
        case r5_hq11 => exact fun _ _ _ h => h
        case r5_hy11 => (refine Or.inl ⟨by rfl, ?_⟩; intro w hSw; (try dsimp only at hSw); first | (go_simp; done) | (go_simp; with_reducible rfl))
        try simp only [Act.put, List.setIfInBounds_toArray, List.set_cons_zero, List.set_cons_succ]
        refine wpAnyH_take (i := 12) (oi := ?r5_o12) (v := ?r5_v12) ?r5_ho12 (by kernel_rfl) (by kernel_rfl) (by kernel_rfl) ?r5_hq12 ?r5_hy12 (by assumption) ?_
        case r5_ho12 => (conv => lhs; whnf; arg 1; whnf)
        case r5_hq12 => exact fun _ _ _ h => h
        case r5_hy12 => (refine Or.inl ⟨by rfl, ?_⟩; intro w hSw; (try dsimp only at hSw); first | (go_simp; done) | (go_simp; with_reducible rfl))
        try simp only [Act.put, List.setIfInBounds_toArray, List.set_cons_zero, List.set_cons_succ]
        refine wpAnyH_take (i := 13) (oi := ?r5_o13) (v := ?r5_v13) ?r5_ho13 (by kernel_rfl) (by kernel_rfl) (by kernel_rfl) ?r5_hq13 ?r5_hy13 (by assumption) ?_
        case r5_ho13 => (conv => lhs; whnf; arg 1; whnf)
        case r5_hq13 => exact fun _ _ _ h => h
        case r5_hy13 => (refine Or.inl ⟨by rfl, ?_⟩; intro w hSw; (try dsimp only at hSw); first | (go_simp; done) | (go_simp; with_reducible rfl))
        try simp only [Act.put, List.setIfInBounds_toArray, List.set_cons_zero, List.set_cons_succ]
        refine wpAnyH_take (i := 14) (oi := ?r5_o14) (v := ?r5_v14) ?r5_ho14 (by kernel_rfl) (by kernel_rfl) (by kernel_rfl) ?r5_hq14 ?r5_hy14 (by assumption) ?_
        case r5_ho14 => (conv => lhs; whnf; arg 1; whnf)
        case r5_hq14 => exact fun _ _ _ h => h
        case r5_hy14 => (refine Or.inl ⟨by rfl, ?_⟩; intro w hSw; (try dsimp only at hSw); first | (go_simp; done) | (go_simp; with_reducible rfl))
        try simp only [Act.put, List.setIfInBounds_toArray, List.set_cons_zero, List.set_cons_succ]
        refine wpAnyH_take (i := 15) (oi := ?r5_o15) (v := ?r5_v15) ?r5_ho15 (by kernel_rfl) (by kernel_rfl) (by kernel_rfl) ?r5_hq15 ?r5_hy15 (by assumption) ?_
        case r5_ho15 => (conv => lhs; whnf; arg 1; whnf)
        case r5_hq15 => exact fun _ _ _ h => h
        case r5_hy15 => (refine Or.inl ⟨by rfl, ?_⟩; intro w hSw; (try dsimp only at hSw); first | (go_simp; done) | (go_simp; with_reducible rfl))
        try simp only [Act.put, List.setIfInBounds_toArray, List.set_cons_zero, List.set_cons_succ]
        refine wpAnyH_take (i := 16) (oi := ?r5_o16) (v := ?r5_v16) ?r5_ho16 (by kernel_rfl) (by kernel_rfl) (by kernel_rfl) ?r5_hq16 ?r5_hy16 (by assumption) ?_
        case r5_ho16 => (conv => lhs; whnf; arg 1; whnf)
        case r5_hq16 => exact fun _ _ _ h => h
        case r5_hy16 => (refine Or.inl ⟨by rfl, ?_⟩; intro w hSw; (try dsimp only at hSw); first | (go_simp; done) | (go_simp; with_reducible rfl))
        try simp only [Act.put, List.setIfInBounds_toArray, List.set_cons_zero, List.set_cons_succ]
        refine wpAnyH_take (i := 17) (oi := ?r5_o17) (v := ?r5_v17) ?r5_ho17 (by kernel_rfl) (by kernel_rfl) (by kernel_rfl) ?r5_hq17 ?r5_hy17 (by assumption) ?_
        case r5_ho17 => (conv => lhs; whnf; arg 1; whnf)
        case r5_hq17 => exact fun _ _ _ h => h
        case r5_hy17 => (refine Or.inl ⟨by rfl, ?_⟩; intro w hSw; (try dsimp only at hSw); first | (go_simp; done) | (go_simp; with_reducible rfl))
        try simp only [Act.put, List.setIfInBounds_toArray, List.set_cons_zero, List.set_cons_succ]
        refine wpAnyH_take (i := 18) (oi := ?r5_o18) (v := ?r5_v18) ?r5_ho18 (by kernel_rfl) (by kernel_rfl) (by kernel_rfl) ?r5_hq18 ?r5_hy18 (by assumption) ?_
        case r5_ho18 => (conv => lhs; whnf; arg 1; whnf)
        case r5_hq18 => exact fun _ _ _ h => h
        case r5_hy18 => (refine Or.inl ⟨by rfl, ?_⟩; intro w hSw; (try dsimp only at hSw); first | (go_simp; done) | (go_simp; with_reducible rfl))
        try simp only [Act.put, List.setIfInBounds_toArray, List.set_cons_zero, List.set_cons_succ]
        refine wpAnyH_take (i := 19) (oi := ?r5_o19) (v := ?r5_v19) ?r5_ho19 (by kernel_rfl) (by kernel_rfl) (by kernel_rfl) ?r5_hq19 ?r5_hy19 (by assumption) ?_
        case r5_ho19 => (conv => lhs; whnf; arg 1; whnf)
        case r5_hq19 => exact fun _ _ _ h => h
        case r5_hy19 => (refine Or.inl ⟨by rfl, ?_⟩; intro w hSw; (try dsimp only at hSw); first | (go_simp; done) | (go_simp; with_reducible rfl))
        try simp only [Act.put, List.setIfInBounds_toArray, List.set_cons_zero, List.set_cons_succ]
        refine wpAnyH_take (i := 20) (oi := ?r5_o20) (v := ?r5_v20) ?r5_ho20 (by kernel_rfl) (by kernel_rfl) (by kernel_rfl) ?r5_hq20 ?r5_hy20 (by assumption) ?_
        case r5_ho20 => (conv => lhs; whnf; arg 1; whnf)
        case r5_hq20 => exact fun _ _ _ h => h
        case r5_hy20 => (refine Or.inl ⟨by rfl, ?_⟩; intro w hSw; (try dsimp only at hSw); first | (go_simp; done) | (go_simp; with_reducible rfl))
        try simp only [Act.put, List.setIfInBounds_toArray, List.set_cons_zero, List.set_cons_succ]
        refine wpAnyH_take (i := 21) (oi := ?r5_o21) (v := undef) ?r5_ho21 (by kernel_rfl) (by kernel_rfl) (by kernel_rfl) ?r5_hq21 ?r5_hy21 (by assumption) ?_
        case r5_ho21 => (conv => lhs; whnf; arg 1; whnf)
        case r5_hq21 => exact fun _ _ _ h => h
        case r5_hy21 => exact Or.inr ⟨by rfl, rfl⟩
        try simp only [Act.put, List.setIfInBounds_toArray, List.set_cons_zero, List.set_cons_succ]
        refine wpAnyH_take (i := 22) (oi := ?r5_o22) (v := undef) ?r5_ho22 (by kernel_rfl) (by kernel_rfl) (by kernel_rfl) ?r5_hq22 ?r5_hy22 (by assumption) ?_
        case r5_ho22 => (conv => lhs; whnf; arg 1; whnf)
        case r5_hq22 => exact fun _ _ _ h => h
        case r5_hy22 => exact Or.inr ⟨by rfl, rfl⟩
        try simp only [Act.put, List.setIfInBounds_toArray, List.set_cons_zero, List.set_cons_succ]
        refine wpAnyH_take (i := 23) (oi := ?r5_o23) (v := undef) ?r5_ho23 (by kernel_rfl) (by kernel_rfl) (by kernel_rfl) ?r5_hq23 ?r5_hy23 (by assumption) ?_
        case r5_ho23 => (conv => lhs; whnf; arg 1; whnf)
        case r5_hq23 => exact fun _ _ _ h => h
        case r5_hy23 => exact Or.inr ⟨by rfl, rfl⟩
        try simp only [Act.put, List.setIfInBounds_toArray, List.set_cons_zero, List.set_cons_succ]
        refine wpAnyH_take (i := 24) (oi := ?r5_o24) (v := undef) ?r5_ho24 (by kernel_rfl) (by kernel_rfl) (by kernel_rfl) ?r5_hq24 ?r5_hy24 (by assumption) ?_
        case r5_ho24 => (conv => lhs; whnf; arg 1; whnf)
        case r5_hq24 => exact fun _ _ _ h => h
        case r5_hy24 => exact Or.inr ⟨by rfl, rfl⟩
        try simp only [Act.put, List.setIfInBounds_toArray, List.set_cons_zero, List.set_cons_succ]
        refine wpAnyH_take (i := 25) (oi := ?r5_o25) (v := undef) ?r5_ho25 (by kernel_rfl) (by kernel_rfl) (by kernel_rfl) ?r5_hq25 ?r5_hy25 (by assumption) ?_
        case r5_ho25 => (conv => lhs; whnf; arg 1; whnf)
        case r5_hq25 => exact fun _ _ _ h => h
        case r5_hy25 => exact Or.inr ⟨by rfl, rfl⟩
        try simp only [Act.put, List.setIfInBounds_toArray, List.set_cons_zero, List.set_cons_succ]
        refine wpAnyH_take (i := 26) (oi := ?r5_o26) (v := undef) ?r5_ho26 (by kernel_rfl) (by kernel_rfl) (by kernel_rfl) ?r5_hq26 ?r5_hy26 (by assumption) ?_
        case r5_ho26 => (conv => lhs; whnf; arg 1; whnf)
        case r5_hq26 => exact fun _ _ _ h => h
        case r5_hy26 => exact Or.inr ⟨by rfl, rfl⟩
        try simp only [Act.put, List.setIfInBounds_toArray, List.set_cons_zero, List.set_cons_succ]
        refine wpAnyH_take (i := 27) (oi := ?r5_o27) (v := undef) ?r5_ho27 (by kernel_rfl) (by kernel_rfl) (by kernel_rfl) ?r5_hq27 ?r5_hy27 (by assumption) ?_
        case r5_ho27 => (conv => lhs; whnf; arg 1; whnf)
        case r5_hq27 => exact fun _ _ _ h => h
        case r5_hy27 => exact Or.inr ⟨by rfl, rfl⟩
        try simp only [Act.put, List.setIfInBounds_toArray, List.set_cons_zero, List.set_cons_succ]
        refine wpAnyH_take (i := 28) (oi := ?r5_o28) (v := undef) ?r5_ho28 (by kernel_rfl) (by kernel_rfl) (by kernel_rfl) ?r5_hq28 ?r5_hy28 (by assumption) ?_
        case r5_ho28 => (conv => lhs; whnf; arg 1; whnf)
        case r5_hq28 => exact fun _ _ _ h => h
        case r5_hy28 => exact Or.inr ⟨by rfl, rfl⟩
        try simp only [Act.put, List.setIfInBounds_toArray, List.set_cons_zero, List.set_cons_succ]
        refine wpAnyH_take (i := 29) (oi := ?r5_o29) (v := ?r5_v29) ?r5_ho29 (by kernel_rfl) (by kernel_rfl) (by kernel_rfl) ?r5_hq29 ?r5_hy29 (by assumption) ?_
        case r5_ho29 => (conv => lhs; whnf; arg 1; whnf)
        case r5_hq29 => exact fun _ _ _ h => h
        case r5_hy29 => (refine Or.inl ⟨by rfl, ?_⟩; intro w hSw; (try dsimp only at hSw); first | (go_simp; done) | (go_simp; with_reducible rfl))
        try simp only [Act.put, List.setIfInBounds_toArray, List.set_cons_zero, List.set_cons_succ]
        refine wpAnyH_take (i := 30) (oi := ?r5_o30) (v := ?r5_v30) ?r5_ho30 (by kernel_rfl) (by kernel_rfl) (by kernel_rfl) ?r5_hq30 ?r5_hy30 (by assumption) ?_
        case r5_ho30 => (conv => lhs; whnf; arg 1; whnf)
        case r5_hq30 => exact fun _ _ _ h => h
        case r5_hy30 => (refine Or.inl ⟨by rfl, ?_⟩; intro w hSw; (try dsimp only at hSw); first | (go_simp; done) | (go_simp; with_reducible rfl))
        try simp only [Act.put, List.setIfInBounds_toArray, List.set_cons_zero, List.set_cons_succ]
        refine wpAnyH_done (by kernel_rfl) ?_ _
        go_wp2
        go_ret
        exact ⟨rfl, (E0.out.trans HX3.out).drew⟩
      cases xw
      · rw [lineFitsB_iff.2 (HIFF.out.2 ⟨hfr, hr, (fun h => by cases h)⟩)]
        clear HIFF
        subst hfr
        subst hr
        go_enter Tryd.func25, Tryd.ntmps25
        go_wp2_with fail
        obtain ⟨w0, hw0⟩ : ∃ w0 : World, w0 = (w.alloc (.cells #[.slice A nb c, .slice (some ⟨b2, o2, none⟩) n d, .slice L nl e, .int .i64 m.cache.hand, .int .i64 m.tags.count, .int .i64 m.tags.next, .int .i64 m.tags.round, .slice O no g, .int .i64 m.space] 46)).alloc (.cells #[.bool xv, .int .i64 (-1), .int .i64 xp, .int .i64 (i : Int), .int .i64 f.rights, .bool false] 74) := ⟨_, rfl⟩
        obtain ⟨gm, hgm⟩ : ∃ gm : Nat, gm = w.heap.size := ⟨_, rfl⟩
        obtain ⟨gl, hgl⟩ : ∃ gl : Nat, gl = w.heap.size + 1 := ⟨_, rfl⟩
        have K0 : Hid (Blk w0 gm 46 [.slice A nb c, .slice (some ⟨b2, o2, none⟩) n d, .slice L nl e, .int .i64 m.cache.hand, .int .i64 m.tags.count, .int .i64 m.tags.next, .int .i64 m.tags.round, .slice O no g, .int .i64 m.space]) := Lib.hid (by rw [hw0, hgm]; exact (Blk.new w _ _).alloc _)
        have K1 : Hid (Blk w0 gl 74 [.bool xv, .int .i64 (-1), .int .i64 xp, .int .i64 (i : Int), .int .i64 f.rights, .bool false]) := Lib.hid (by rw [hw0, hgl]; exact Blk.new_at _ _ _ (by simp))
        have E0 : Hid (Ex w w0) := Lib.hid (by rw [hw0]; exact ((Ex.refl w).alloc _).alloc _)
        rw [← hw0]
        rw [← hgl]
        rw [← hgm]
        clear hw0 hgm hgl
        have FK9 : Hid (∀ w', Ex w0 w' → (w'.cell? ⟨gm, 0, none⟩ = some (.slice A nb c) ∧ w'.cell? ⟨gm, 1, none⟩ = some (.slice (some ⟨b2, o2, none⟩) n d) ∧ w'.cell? ⟨gl, 2, none⟩ = some (.int .i64 xp))) := Lib.hid (fun w' h => ⟨(K0.out.ex h).c9.1, (K0.out.ex h).c9.2.1, (K1.out.ex h).c6.2.2.1⟩)
        refine wp_region_held_drew (S := (fun w' => (w'.cell? ⟨gm, 0, none⟩ = some (.slice A nb c) ∧ w'.cell? ⟨gm, 1, none⟩ = some (.slice (some ⟨b2, o2, none⟩) n d) ∧ w'.cell? ⟨gl, 2, none⟩ = some (.int .i64 xp)))) (by kernel_rfl) ?r6_hS0 (fun hHeld => ?_)
        case r6_hS0 => exact FK9.out _ (Ex.refl _).drew
        refine wpAnyH_take (i := 0) (oi := ?r6_o0) (v := ?r6_v0) ?r6_ho0 (by kernel_rfl) (by kernel_rfl) (by kernel_rfl) ?r6_hq0 ?r6_hy0 (by assumption) ?_
        case r6_ho0 => (conv => lhs; whnf; arg 1; whnf)
        case r6_hq0 => exact fun _ _ _ h => h
        case r6_hy0 => (refine Or.inl ⟨by rfl, ?_⟩; intro w hSw; (try dsimp only at hSw); first | (go_simp; done) | (go_simp; with_reducible rfl))
        try simp only [Act.put, List.setIfInBounds_toArray, List.set_cons_zero, List.set_cons_succ]
        refine wpAnyH_take (i := 1) (oi := ?r6_o1) (v := ?r6_v1) ?r6_ho1 (by kernel_rfl) (by kernel_rfl) (by kernel_rfl) ?r6_hq1 ?r6_hy1 (by assumption) ?_
        case r6_ho1 => (conv => lhs; whnf; arg 1; whnf)
        case r6_hq1 => exact fun _ _ _ h => h
        case r6_hy1 => (refine Or.inl ⟨by rfl, ?_⟩; intro w hSw; (try dsimp only at hSw); first | (go_simp; done) | (go_simp; with_reducible rfl))
        try simp only [Act.put, List.setIfInBounds_toArray, List.set_cons_zero, List.set_cons_succ]
        refine wpAnyH_take (i := 2) (oi := ?r6_o2) (v := ?r6_v2) ?r6_ho2 (by kernel_rfl) (by kernel_rfl) (by kernel_rfl) ?r6_hq2 ?r6_hy2 (by assumption) ?_
        case r6_ho2 => (conv => lhs; whnf; arg 1; whnf)
        case r6_hq2 => exact fun _ _ _ h => h
        case r6_hy2 => (refine Or.inl ⟨by rfl, ?_⟩; intro w hSw; (try dsimp only at hSw); first | (go_simp; done) | (go_simp; with_reducible rfl))
        try simp only [Act.put, List.setIfInBounds_toArray, List.set_cons_zero, List.set_cons_succ]
        refine wpAnyH_take (i := 3) (oi := ?r6_o3) (v := ?r6_v3) ?r6_ho3 (by kernel_rfl) (by kernel_rfl) (by kernel_rfl) ?r6_hq3 ?r6_hy3 (by assumption) ?_
        case r6_ho3 => (conv => lhs; whnf; arg 1; whnf)
        case r6_hq3 => exact fun _ _ _ h => h
        case r6_hy3 => (refine Or.inl ⟨by rfl, ?_⟩; intro w hSw; (try dsimp only at hSw); first | (go_simp; done) | (go_simp; with_reducible rfl))
        try simp only [Act.put, List.setIfInBounds_toArray, List.set_cons_zero, List.set_cons_succ]
        refine wpAnyH_take (i := 4) (oi := ?r6_o4) (v := ?r6_v4) ?r6_ho4 (by kernel_rfl) (by kernel_rfl) (by kernel_rfl) ?r6_hq4 ?r6_hy4 (by assumption) ?_
        case r6_ho4 => (conv => lhs; whnf; arg 1; whnf)
        case r6_hq4 => exact fun _ _ _ h => h
        case r6_hy4 => (refine Or.inl ⟨by rfl, ?_⟩; intro w hSw; (try dsimp only at hSw); first | (go_simp; done) | (go_simp; with_reducible rfl))
        try simp only [Act.put, List.setIfInBounds_toArray, List.set_cons_zero, List.set_cons_succ]
        refine wpAnyH_ready (rs := [5]) (by kernel_rfl) (by simp) ?_
        refine AllReadyH.cons (o := ?r6_o5) ?r6_ho5 (fun K hK => ?_) AllReadyH.nil
        case r6_ho5 => (conv => lhs; whnf; arg 1; whnf)
        refine step_call_gu rfl CEK.out _ _ rfl #[.int .i64 0, .int .i64 xp] rfl (CK0.out _) ?_; rintro r wa ⟨rfl, hwa⟩; refine ⟨_, rfl, ?_⟩; have hxa := Ex.trans (Ex.refl _).drew hwa
        refine hK.out _ _ ?r6_hS5 (fun hHeld5 => ?_)
        case r6_hS5 => exact FK9.out _ hxa
        clear hK K hHeld
        try simp only [Act.put, List.setIfInBounds_toArray, List.set_cons_zero, List.set_cons_succ]
        refine wpAnyH_ready (rs := [6]) (by kernel_rfl) (by simp) ?_
        refine AllReadyH.cons (o := ?r6_o6) ?r6_ho6 (fun K hK => ?_) AllReadyH.nil
        case r6_ho6 => (conv => lhs; whnf; arg 1; whnf)
        refine step_call_gu rfl CEF.out _ _ rfl #[.agg #[.slice A nb c, .slice (some ⟨b2, o2, none⟩) n d], .agg #[.int .i64 kk.space, .int .i64 kk.page]] rfl (CF0.out _ (HB.out.ex (E0.out.trans hxa)) (HF.out.ex (E0.out.trans hxa))) ?_; rintro r w3 ⟨⟨s2, rfl⟩, he⟩; refine ⟨_, rfl, ?_⟩; have hx3 := Ex.trans hxa he
        refine hK.out _ _ ?r6_hS6 (fun hHeld6 => ?_)
        case r6_hS6 => exact FK9.out _ hx3
        clear hK K hHeld5
        try simp only [Act.put, List.setIfInBounds_toArray, List.set_cons_zero, List.set_cons_succ]
        refine wpAnyH_take (i := 7) (oi := ?r6_o7) (v := ?r6_v7) ?r6_ho7 (by kernel_rfl) (by kernel_rfl) (by kernel_rfl) ?r6_hq7 ?r6_hy7 (by assumption) ?_
        case r6_ho7 => (conv => lhs; whnf; arg 1; whnf)
        case r6_hq7 => exact fun _ _ _ h => h
        case r6_hy7 => (refine Or.inl ⟨by rfl, ?_⟩; intro w hSw; (try dsimp only at hSw); first | (go_simp; done) | (go_simp; with_reducible rfl))
        try simp only [Act.put, List.setIfInBounds_toArray, List.set_cons_zero, List.set_cons_succ]
        refine wpAnyH_take (i := 8) (oi := ?r6_o8) (v := ?r6_v8) ?r6_ho8 (by kernel_rfl) (by kernel_rfl) (by kernel_rfl) ?r6_hq8 ?r6_hy8 (by assumption) ?_
        case r6_ho8 => (conv => lhs; whnf; arg 1; whnf)
        case r6_hq8 => exact fun _ _ _ h => h
        case r6_hy8 => (refine Or.inl ⟨by rfl, ?_⟩; intro w hSw; (try dsimp only at hSw); first | (go_simp; done) | (go_simp; with_reducible rfl))
        try simp only [Act.put, List.setIfInBounds_toArray, List.set_cons_zero, List.set_cons_succ]
        refine wpAnyH_take (i := 9) (oi := ?r6_o9) (v := ?r6_v9) ?r6_ho9 (by kernel_rfl) (by kernel_rfl) (by kernel_rfl) ?r6_hq9 ?r6_hy9 (by assumption) ?_
        case r6_ho9 => (conv => lhs; whnf; arg 1; whnf)
        case r6_hq9 => exact fun _ _ _ h => h
        case r6_hy9 => (refine Or.inl ⟨by rfl, ?_⟩; intro w hSw; (try dsimp only at hSw); first | (go_simp; done) | (go_simp; with_reducible rfl))
        try simp only [Act.put, List.setIfInBounds_toArray, List.set_cons_zero, List.set_cons_succ]
        refine wpAnyH_take (i := 10) (oi := ?r6_o10) (v := ?r6_v10) ?r6_ho10 (by kernel_rfl) (by kernel_rfl) (by kernel_rfl) ?r6_hq10 ?r6_hy10 (by assumption) ?_
        case r6_ho10 => (conv => lhs; whnf; arg 1; whnf)
        case r6_hq10 => exact fun _ _ _ h => h
        case r6_hy10 => (refine Or.inl ⟨by rfl, ?_⟩; intro w hSw; (try dsimp only at hSw); first | (go_simp; done) | (go_simp; with_reducible rfl))
        try simp only [Act.put, List.setIfInBounds_toArray, List.set_cons_zero, List.set_cons_succ]
        refine wpAnyH_take (i := 11) (oi := ?r6_o11) (v := ?r6_v11) ?r6_ho11 (by kernel_rfl) (by kernel_rfl) (by kernel_rfl) ?r6_hq11 ?r6_hy11 (by assumption) ?_
        case r6_ho11 => (conv => lhs; whnf; arg 1; whnf)
        case r6_hq11 => exact fun _ _ _ h => h
        case r6_hy11 => (refine Or.inl ⟨by rfl, ?_⟩; intro w hSw; (try dsimp only at hSw); first | (go_simp; done) | (go_simp; with_reducible rfl))
        try simp only [Act.put, List.setIfInBounds_toArray, List.set_cons_zero, List.set_cons_succ]
        refine wpAnyH_done (by kernel_rfl) ?_ _
        have HX3 := Lib.hid hx3
        clear hx3 hxa he hwa
        go_wp2_with fail
        have FK10 : Hid (∀ w', Ex w3 w' → (w'.cell? ⟨gl, 3, none⟩ = some (.int .i64 (i : Int)) ∧ w'.cell? ⟨gl, 4, none⟩ = some (.int .i64 f.rights) ∧ w'.cell? ⟨gl, 5, none⟩ = some (.bool false) ∧ w'.cell? ⟨gm, 1, none⟩ = some (.slice (some ⟨b2, o2, none⟩) n d) ∧ w'.cell? ⟨b2, o2 + i * 5 + 3, none⟩ = some (.int .i64 f.rights))) := Lib.hid (fun w' h => ⟨(K1.out.ex (HX3.out.trans h)).c6.2.2.2.1, (K1.out.ex (HX3.out.trans h)).c6.2.2.2.2.1, (K1.out.ex (HX3.out.trans h)).c6.2.2.2.2.2, (K0.out.ex (HX3.out.trans h)).c9.2.1, (((E0.out.trans HX3.out).trans h).cell HB2.out).trans K3.out⟩)
        refine wp_region_held_drew (S := (fun w' => (w'.cell? ⟨gl, 3, none⟩ = some (.int .i64 (i : Int)) ∧ w'.cell? ⟨gl, 4, none⟩ = some (.int .i64 f.rights) ∧ w'.cell? ⟨gl, 5, none⟩ = some (.bool false) ∧ w'.cell? ⟨gm, 1, none⟩ = some (.slice (some ⟨b2, o2, none⟩) n d) ∧ w'.cell? ⟨b2, o2 + i * 5 + 3, none⟩ = some (.int .i64 f.rights)))) (by kernel_rfl) ?r7_hS0 (fun hHeld => ?_)
        case r7_hS0 => exact FK10.out _ (Ex.refl _).drew
        refine wpAnyH_take (i := 0) (oi := ?r7_o0) (v := ?r7_v0) ?r7_ho0 (by kernel_rfl) (by kernel_rfl) (by kernel_rfl) ?r7_hq0 ?r7_hy0 (by assumption) ?_
        case r7_ho0 => (conv => lhs; whnf; arg 1; whnf)
        case r7_hq0 => exact fun _ _ _ h => h
        case r7_hy0 => (refine Or.inl ⟨by rfl, ?_⟩; intro w hSw; (try dsimp only at hSw); first | (go_simp; done) | (go_simp; with_reducible rfl))
        try simp only [Act.put, List.setIfInBounds_toArray, List.set_cons_zero, List.set_cons_succ]
        refine wpAnyH_take (i := 1) (oi := ?r7_o1) (v := ?r7_v1) ?r7_ho1 (by kernel_rfl) (by kernel_rfl) (by kernel_rfl) ?r7_hq1 ?r7_hy1 (by assumption) ?_
        case r7_ho1 => (conv => lhs; whnf; arg 1; whnf)
        case r7_hq1 => exact fun _ _ _ h => h
        case r7_hy1 => (refine Or.inl ⟨by rfl, ?_⟩; intro w hSw; (try dsimp only at hSw); first | (go_simp; done) | (go_simp; with_reducible rfl))
        try simp only [Act.put, List.setIfInBounds_toArray, List.set_cons_zero, List.set_cons_succ]
        refine wpAnyH_take (i := 2) (oi := ?r7_o2) (v := ?r7_v2) ?r7_ho2 (by kernel_rfl) (by kernel_rfl) (by kernel_rfl) ?r7_hq2 ?r7_hy2 (by assumption) ?_
        case r7_ho2 => (conv => lhs; whnf; arg 1; whnf)
        case r7_hq2 => exact fun _ _ _ h => h
        case r7_hy2 => (refine Or.inl ⟨by rfl, ?_⟩; intro w hSw; (try dsimp only at hSw); first | (go_simp; done) | (go_simp; with_reducible rfl))
        try simp only [Act.put, List.setIfInBounds_toArray, List.set_cons_zero, List.set_cons_succ]
        refine wpAnyH_take (i := 3) (oi := ?r7_o3) (v := ?r7_v3) ?r7_ho3 (by kernel_rfl) (by kernel_rfl) (by kernel_rfl) ?r7_hq3 ?r7_hy3 (by assumption) ?_
        case r7_ho3 => (conv => lhs; whnf; arg 1; whnf)
        case r7_hq3 => exact fun _ _ _ h => h
        case r7_hy3 => (refine Or.inl ⟨by rfl, ?_⟩; intro w hSw; (try dsimp only at hSw); first | (go_simp; done) | (go_simp; with_reducible rfl))
        try simp only [Act.put, List.setIfInBounds_toArray, List.set_cons_zero, List.set_cons_succ]
        refine wpAnyH_take (i := 4) (oi := ?r7_o4) (v := ?r7_v4) ?r7_ho4 (by kernel_rfl) (by kernel_rfl) (by kernel_rfl) ?r7_hq4 ?r7_hy4 (by assumption) ?_
        case r7_ho4 => (conv => lhs; whnf; arg 1; whnf)
        case r7_hq4 => exact fun _ _ _ h => h
        case r7_hy4 => (refine Or.inl ⟨by rfl, ?_⟩; intro w hSw; (try dsimp only at hSw); first | (go_simp; done) | (go_simp; with_reducible rfl))
        try simp only [Act.put, List.setIfInBounds_toArray, List.set_cons_zero, List.set_cons_succ]
        refine wpAnyH_take (i := 5) (oi := ?r7_o5) (v := ?r7_v5) ?r7_ho5 (by kernel_rfl) (by kernel_rfl) (by kernel_rfl) ?r7_hq5 ?r7_hy5 (by assumption) ?_
        case r7_ho5 => (conv => lhs; whnf; arg 1; whnf)
        case r7_hq5 => exact fun _ _ _ h => h
        case r7_hy5 => (refine Or.inl ⟨by rfl, ?_⟩; intro w hSw; (try dsimp only at hSw); first | (go_simp; done) | (go_simp; with_reducible rfl))
        try simp only [Act.put, List.setIfInBounds_toArray, List.set_cons_zero, List.set_cons_succ]
        refine wpAnyH_take (i := 6) (oi := ?r7_o6) (v := ?r7_v6) ?r7_ho6 (by kernel_rfl) (by kernel_rfl) (by kernel_rfl) ?r7_hq6 ?r7_hy6 (by assumption) ?_
        case r7_ho6 => (conv => lhs; whnf; arg 1; whnf)
        case r7_hq6 => exact fun _ _ _ h => h
        case r7_hy6 => (refine Or.inl ⟨by rfl, ?_⟩; intro w hSw; (try dsimp only at hSw); first | (go_simp; done) | (go_simp; with_reducible rfl))
        try simp only [Act.put, List.setIfInBounds_toArray, List.set_cons_zero, List.set_cons_succ]
        refine wpAnyH_take (i := 7) (oi := ?r7_o7) (v := ?r7_v7) ?r7_ho7 (by kernel_rfl) (by kernel_rfl) (by kernel_rfl) ?r7_hq7 ?r7_hy7 (by assumption) ?_
        case r7_ho7 => (conv => lhs; whnf; arg 1; whnf)
        case r7_hq7 => exact fun _ _ _ h => h
        case r7_hy7 => (refine Or.inl ⟨by rfl, ?_⟩; intro w hSw; (try dsimp only at hSw); first | (go_simp; done) | (go_simp; with_reducible rfl))
        try simp only [Act.put, List.setIfInBounds_toArray, List.set_cons_zero, List.set_cons_succ]
        refine wpAnyH_take (i := 8) (oi := ?r7_o8) (v := ?r7_v8) ?r7_ho8 (by kernel_rfl) (by kernel_rfl) (by kernel_rfl) ?r7_hq8 ?r7_hy8 (by assumption) ?_
        case r7_ho8 => (conv => lhs; whnf; arg 1; whnf)
        case r7_hq8 => exact fun _ _ _ h => h
        case r7_hy8 => (refine Or.inl ⟨by rfl, ?_⟩; intro w hSw; (try dsimp only at hSw); first | (go_simp; done) | (go_simp; with_reducible rfl))
        try simp only [Act.put, List.setIfInBounds_toArray, List.set_cons_zero, List.set_cons_succ]
        refine wpAnyH_take (i := 9) (oi := ?r7_o9) (v := ?r7_v9) ?r7_ho9 (by kernel_rfl) (by kernel_rfl) (by kernel_rfl) ?r7_hq9 ?r7_hy9 (by assumption) ?_
        case r7_ho9 => (conv => lhs; whnf; arg 1; whnf)
        case r7_hq9 => exact fun _ _ _ h => h
        case r7_hy9 => (refine Or.inl ⟨by rfl, ?_⟩; intro w hSw; (try dsimp only at hSw); first | (go_simp; done) | (go_simp; with_reducible rfl))
        try simp only [Act.put, List.setIfInBounds_toArray, List.set_cons_zero, List.set_cons_succ]
        refine wpAnyH_take (i := 10) (oi := ?r7_o10) (v := ?r7_v10) ?r7_ho10 (by kernel_rfl) (by kernel_rfl) (by kernel_rfl) ?r7_hq10 ?r7_hy10 (by assumption) ?_
        case r7_ho10 => (conv => lhs; whnf; arg 1; whnf)
        case r7_hq10 => exact fun _ _ _ h => h
        case r7_hy10 => (refine Or.inl ⟨by rfl, ?_⟩; intro w hSw; (try dsimp only at hSw); first | (go_simp; done) | (go_simp; with_reducible rfl))
        try simp only [Act.put, List.setIfInBounds_toArray, List.set_cons_zero, List.set_cons_succ]
        refine wpAnyH_take (i := 11) (oi := ?r7_o11) (v := ?r7_v11) ?r7_ho11 (by kernel_rfl) (by kernel_rfl) (by kernel_rfl) ?r7_hq11 ?r7_hy11 (by assumption) ?_
        case r7_ho11 => (conv => lhs; whnf; arg 1; whnf)
        case r7_hq11 => exact fun _ _ _ h => h
        case r7_hy11 => (refine Or.inl ⟨by rfl, ?_⟩; intro w hSw; (try dsimp only at hSw); first | (go_simp; done) | (go_simp; with_reducible rfl))
        try simp only [Act.put, List.setIfInBounds_toArray, List.set_cons_zero, List.set_cons_succ]
        refine wpAnyH_take (i := 12) (oi := ?r7_o12) (v := ?r7_v12) ?r7_ho12 (by kernel_rfl) (by kernel_rfl) (by kernel_rfl) ?r7_hq12 ?r7_hy12 (by assumption) ?_
        case r7_ho12 => (conv => lhs; whnf; arg 1; whnf)
        case r7_hq12 => exact fun _ _ _ h => h
        case r7_hy12 => (refine Or.inl ⟨by rfl, ?_⟩; intro w hSw; (try dsimp only at hSw); first | (go_simp; done) | (go_simp; with_reducible rfl))
        try simp only [Act.put, List.setIfInBounds_toArray, List.set_cons_zero, List.set_cons_succ]
        refine wpAnyH_take (i := 13) (oi := ?r7_o13) (v := ?r7_v13) ?r7_ho13 (by kernel_rfl) (by kernel_rfl) (by kernel_rfl) ?r7_hq13 ?r7_hy13 (by assumption) ?_
        case r7_ho13 => (conv => lhs; whnf; arg 1; whnf)
        case r7_hq13 => exact fun _ _ _ h => h
        case r7_hy13 => (refine Or.inl ⟨by rfl, ?_⟩; intro w hSw; (try dsimp only at hSw); first | (go_simp; done) | (go_simp; with_reducible rfl))
        try simp only [Act.put, List.setIfInBounds_toArray, List.set_cons_zero, List.set_cons_succ]
        refine wpAnyH_take (i := 14) (oi := ?r7_o14) (v := ?r7_v14) ?r7_ho14 (by kernel_rfl) (by kernel_rfl) (by kernel_rfl) ?r7_hq14 ?r7_hy14 (by assumption) ?_
        case r7_ho14 => (conv => lhs; whnf; arg 1; whnf)
        case r7_hq14 => exact fun _ _ _ h => h
        case r7_hy14 => (refine Or.inl ⟨by rfl, ?_⟩; intro w hSw; (try dsimp only at hSw); first | (go_simp; done) | (go_simp; with_reducible rfl))
        try simp only [Act.put, List.setIfInBounds_toArray, List.set_cons_zero, List.set_cons_succ]
        refine wpAnyH_take (i := 15) (oi := ?r7_o15) (v := ?r7_v15) ?r7_ho15 (by kernel_rfl) (by kernel_rfl) (by kernel_rfl) ?r7_hq15 ?r7_hy15 (by assumption) ?_
        case r7_ho15 => (conv => lhs; whnf; arg 1; whnf)
        case r7_hq15 => exact fun _ _ _ h => h
        case r7_hy15 => (refine Or.inl ⟨by rfl, ?_⟩; intro w hSw; (try dsimp only at hSw); first | (go_simp; done) | (go_simp; with_reducible rfl))
        try simp only [Act.put, List.setIfInBounds_toArray, List.set_cons_zero, List.set_cons_succ]
        refine wpAnyH_take (i := 16) (oi := ?r7_o16) (v := ?r7_v16) ?r7_ho16 (by kernel_rfl) (by kernel_rfl) (by kernel_rfl) ?r7_hq16 ?r7_hy16 (by assumption) ?_
        case r7_ho16 => (conv => lhs; whnf; arg 1; whnf)
        case r7_hq16 => exact fun _ _ _ h => h
        case r7_hy16 => (refine Or.inl ⟨by rfl, ?_⟩; intro w hSw; (try dsimp only at hSw); first | (go_simp; done) | (go_simp; with_reducible rfl))
        try simp only [Act.put, List.setIfInBounds_toArray, List.set_cons_zero, List.set_cons_succ]
        refine wpAnyH_take (i := 17) (oi := ?r7_o17) (v := ?r7_v17) ?r7_ho17 (by kernel_rfl) (by kernel_rfl) (by kernel_rfl) ?r7_hq17 ?r7_hy17 (by assumption) ?_
        case r7_ho17 => (conv => lhs; whnf; arg 1; whnf)
        case r7_hq17 => exact fun _ _ _ h => h
        case r7_hy17 => (refine Or.inl ⟨by rfl, ?_⟩; intro w hSw; (try dsimp only at hSw); first | (go_simp; done) | (go_simp; with_reducible rfl))
        try simp only [Act.put, List.setIfInBounds_toArray, List.set_cons_zero, List.set_cons_succ]
        refine wpAnyH_take (i := 18) (oi := ?r7_o18) (v := ?r7_v18) ?r7_ho18 (by kernel_rfl) (by kernel_rfl) (by kernel_rfl) ?r7_hq18 ?r7_hy18 (by assumption) ?_
        case r7_ho18 => (conv => lhs; whnf; arg 1; whnf)
        case r7_hq18 => exact fun _ _ _ h => h
        case r7_hy18 => (refine Or.inl ⟨by rfl, ?_⟩; intro w hSw; (try dsimp only at hSw); first | (go_simp; done) | (go_simp; with_reducible rfl))
        try simp only [Act.put, List.setIfInBounds_toArray, List.set_cons_zero, List.set_cons_succ]
        refine wpAnyH_take (i := 19) (oi := ?r7_o19) (v := ?r7_v19) ?r7_ho19 (by kernel_rfl) (by kernel_rfl) (by kernel_rfl) ?r7_hq19 ?r7_hy19 (by assumption) ?_
        case r7_ho19 => (conv => lhs; whnf; arg 1; whnf)
        case r7_hq19 => exact fun _ _ _ h => h
        case r7_hy19 => (refine Or.inl ⟨by rfl, ?_⟩; intro w hSw; (try dsimp only at hSw); first | (go_simp; done) | (go_simp; with_reducible rfl))
        try simp only [Act.put, List.setIfInBounds_toArray, List.set_cons_zero, List.set_cons_succ]
        refine wpAnyH_take (i := 20) (oi := ?r7_o20) (v := ?r7_v20) ?r7_ho20 (by kernel_rfl) (by kernel_rfl) (by kernel_rfl) ?r7_hq20 ?r7_hy20 (by assumption) ?_
        case r7_ho20 => (conv => lhs; whnf; arg 1; whnf)
        case r7_hq20 => exact fun _ _ _ h => h
        case r7_hy20 => (refine Or.inl ⟨by rfl, ?_⟩; intro w hSw; (try dsimp only at hSw); first | (go_simp; done) | (go_simp; with_reducible rfl))
        try simp only [Act.put, List.setIfInBounds_toArray, List.set_cons_zero, List.set_cons_succ]
        refine wpAnyH_take (i := 21) (oi := ?r7_o21) (v := ?r7_v21) ?r7_ho21 (by kernel_rfl) (by kernel_rfl) (by kernel_rfl) ?r7_hq21 ?r7_hy21 (by assumption) ?_
        case r7_ho21 => (conv => lhs; whnf; arg 1; whnf)
        case r7_hq21 => exact fun _ _ _ h => h
        case r7_hy21 => (refine Or.inl ⟨by rfl, ?_⟩; intro w hSw; (try dsimp only at hSw); first | (go_simp; done) | (go_simp; with_reducible rfl))
        try simp only [Act.put, List.setIfInBounds_toArray, List.set_cons_zero, List.set_cons_succ]
        refine wpAnyH_take (i := 22) (oi := ?r7_o22) (v := ?r7_v22) ?r7_ho22 (by kernel_rfl) (by kernel_rfl) (by kernel_rfl) ?r7_hq22 ?r7_hy22 (by assumption) ?_
        case r7_ho22 => (conv => lhs; whnf; arg 1; whnf)
        case r7_hq22 => exact fun _ _ _ h => h
        case r7_hy22 => (refine Or.inl ⟨by rfl, ?_⟩; intro w hSw; (try dsimp only at hSw); first | (go_simp; done) | (go_simp; with_reducible rfl))
        try simp only [Act.put, List.setIfInBounds_toArray, List.set_cons_zero, List.set_cons_succ]
        refine wpAnyH_take (i := 23) (oi := ?r7_o23) (v := ?r7_v23) ?r7_ho23 (by kernel_rfl) (by kernel_rfl) (by kernel_rfl) ?r7_hq23 ?r7_hy23 (by assumption) ?_
        case r7_ho23 => (conv => lhs; whnf; arg 1; whnf)
        case r7_hq23 => exact fun _ _ _ h => h
        case r7_hy23 => (refine Or.inl ⟨by rfl, ?_⟩; intro w hSw; (try dsimp only at hSw); first | (go_simp; done) | (go_simp; with_reducible rfl))
        try simp only [Act.put, List.setIfInBounds_toArray, List.set_cons_zero, List.set_cons_succ]
        refine wpAnyH_take (i := 24) (oi := ?r7_o24) (v := ?r7_v24) ?r7_ho24 (by kernel_rfl) (by kernel_rfl) (by kernel_rfl) ?r7_hq24 ?r7_hy24 (by assumption) ?_
        case r7_ho24 => (conv => lhs; whnf; arg 1; whnf)
        case r7_hq24 => exact fun _ _ _ h => h
        case r7_hy24 => (refine Or.inl ⟨by rfl, ?_⟩; intro w hSw; (try dsimp only at hSw); first | (go_simp; done) | (go_simp; with_reducible rfl))
        try simp only [Act.put, List.setIfInBounds_toArray, List.set_cons_zero, List.set_cons_succ]
        refine wpAnyH_take (i := 25) (oi := ?r7_o25) (v := undef) ?r7_ho25 (by kernel_rfl) (by kernel_rfl) (by kernel_rfl) ?r7_hq25 ?r7_hy25 (by assumption) ?_
        case r7_ho25 => (conv => lhs; whnf; arg 1; whnf)
        case r7_hq25 => exact fun _ _ _ h => h
        case r7_hy25 => exact Or.inr ⟨by rfl, rfl⟩
        try simp only [Act.put, List.setIfInBounds_toArray, List.set_cons_zero, List.set_cons_succ]
        refine wpAnyH_take (i := 26) (oi := ?r7_o26) (v := undef) ?r7_ho26 (by kernel_rfl) (by kernel_rfl) (by kernel_rfl) ?r7_hq26 ?r7_hy26 (by assumption) ?_
        case r7_ho26 => (conv => lhs; whnf; arg 1; whnf)
        case r7_hq26 => exact fun _ _ _ h => h
        case r7_hy26 => exact Or.inr ⟨by rfl, rfl⟩
        try simp only [Act.put, List.setIfInBounds_toArray, List.set_cons_zero, List.set_cons_succ]
        refine wpAnyH_take (i := 27) (oi := ?r7_o27) (v := undef) ?r7_ho27 (by kernel_rfl) (by kernel_rfl) (by kernel_rfl) ?r7_hq27 ?r7_hy27 (by assumption) ?_
        case r7_ho27 => (conv => lhs; whnf; arg 1; whnf)
        case r7_hq27 => exact fun _ _ _ h => h
        case r7_hy27 => exact Or.inr ⟨by rfl, rfl⟩
        try simp only [Act.put, List.setIfInBounds_toArray, List.set_cons_zero, List.set_cons_succ]
        refine wpAnyH_take (i := 28) (oi := ?r7_o28) (v := ?r7_v28) ?r7_ho28 (by kernel_rfl) (by kernel_rfl) (by kernel_rfl) ?r7_hq28 ?r7_hy28 (by assumption) ?_
        case r7_ho28 => (conv => lhs; whnf; arg 1; whnf)
        case r7_hq28 => exact fun _ _ _ h => h
        case r7_hy28 => (refine Or.inl ⟨by rfl, ?_⟩; intro w hSw; (try dsimp only at hSw); first | (go_simp; done) | (go_simp; with_reducible rfl))
        try simp only [Act.put, List.setIfInBounds_toArray, List.set_cons_zero, List.set_cons_succ]
        refine wpAnyH_take (i := 29) (oi := ?r7_o29) (v := ?r7_v29) ?r7_ho29 (by kernel_rfl) (by kernel_rfl) (by kernel_rfl) ?r7_hq29 ?r7_hy29 (by assumption) ?_
        case r7_ho29 => (conv => lhs; whnf; arg 1; whnf)
        case r7_hq29 => exact fun _ _ _ h => h
        case r7_hy29 => (refine Or.inl ⟨by rfl, ?_⟩; intro w hSw; (try dsimp only at hSw); first | (go_simp; done) | (go_simp; with_reducible rfl))
        try simp only [Act.put, List.setIfInBounds_toArray, List.set_cons_zero, List.set_cons_succ]
        refine wpAnyH_take (i := 30) (oi := ?r7_o30) (v := ?r7_v30) ?r7_ho30 (by kernel_rfl) (by kernel_rfl) (by kernel_rfl) ?r7_hq30 ?r7_hy30 (by assumption) ?_
        case r7_ho30 => (conv => lhs; whnf; arg 1; whnf)
        case r7_hq30 => exact fun _ _ _ h => h
        case r7_hy30 => (refine Or.inl ⟨by rfl, ?_⟩; intro w hSw; (try dsimp only at hSw); first | (go_simp; done) | (go_simp; with_reducible rfl))
        try simp only [Act.put, List.setIfInBounds_toArray, List.set_cons_zero, List.set_cons_succ]
        refine wpAnyH_done (by kernel_rfl) ?_ _
        go_wp2
        go_ret
        exact ⟨rfl, (E0.out.trans HX3.out).drew⟩
      · rw [lineFitsB_iff.2 (HIFF.out.2 ⟨hfr, hr, (fun _ => rfl)⟩)]
        clear HIFF
        subst hfr
        subst hr
        go_enter Tryd.func25, Tryd.ntmps25
        go_wp2_with fail
        obtain ⟨w0, hw0⟩ : ∃ w0 : World, w0 = (w.alloc (.cells #[.slice A nb c, .slice (some ⟨b2, o2, none⟩) n d, .slice L nl e, .int .i64 m.cache.hand, .int .i64 m.tags.count, .int .i64 m.tags.next, .int .i64 m.tags.round, .slice O no g, .int .i64 m.space] 46)).alloc (.cells #[.bool xv, .int .i64 (-1), .int .i64 xp, .int .i64 (i : Int), .int .i64 f.rights, .bool true] 74) := ⟨_, rfl⟩
        obtain ⟨gm, hgm⟩ : ∃ gm : Nat, gm = w.heap.size := ⟨_, rfl⟩
        obtain ⟨gl, hgl⟩ : ∃ gl : Nat, gl = w.heap.size + 1 := ⟨_, rfl⟩
        have K0 : Hid (Blk w0 gm 46 [.slice A nb c, .slice (some ⟨b2, o2, none⟩) n d, .slice L nl e, .int .i64 m.cache.hand, .int .i64 m.tags.count, .int .i64 m.tags.next, .int .i64 m.tags.round, .slice O no g, .int .i64 m.space]) := Lib.hid (by rw [hw0, hgm]; exact (Blk.new w _ _).alloc _)
        have K1 : Hid (Blk w0 gl 74 [.bool xv, .int .i64 (-1), .int .i64 xp, .int .i64 (i : Int), .int .i64 f.rights, .bool true]) := Lib.hid (by rw [hw0, hgl]; exact Blk.new_at _ _ _ (by simp))
        have E0 : Hid (Ex w w0) := Lib.hid (by rw [hw0]; exact ((Ex.refl w).alloc _).alloc _)
        rw [← hw0]
        rw [← hgl]
        rw [← hgm]
        clear hw0 hgm hgl
        have FK9 : Hid (∀ w', Ex w0 w' → (w'.cell? ⟨gm, 0, none⟩ = some (.slice A nb c) ∧ w'.cell? ⟨gm, 1, none⟩ = some (.slice (some ⟨b2, o2, none⟩) n d) ∧ w'.cell? ⟨gl, 2, none⟩ = some (.int .i64 xp))) := Lib.hid (fun w' h => ⟨(K0.out.ex h).c9.1, (K0.out.ex h).c9.2.1, (K1.out.ex h).c6.2.2.1⟩)
        refine wp_region_held_drew (S := (fun w' => (w'.cell? ⟨gm, 0, none⟩ = some (.slice A nb c) ∧ w'.cell? ⟨gm, 1, none⟩ = some (.slice (some ⟨b2, o2, none⟩) n d) ∧ w'.cell? ⟨gl, 2, none⟩ = some (.int .i64 xp)))) (by kernel_rfl) ?r8_hS0 (fun hHeld => ?_)
        case r8_hS0 => exact FK9.out _ (Ex.refl _).drew
        refine wpAnyH_take (i := 0) (oi := ?r8_o0) (v := ?r8_v0) ?r8_ho0 (by kernel_rfl) (by kernel_rfl) (by kernel_rfl) ?r8_hq0 ?r8_hy0 (by assumption) ?_
        case r8_ho0 => (conv => lhs; whnf; arg 1; whnf)
        case r8_hq0 => exact fun _ _ _ h => h
        case r8_hy0 => (refine Or.inl ⟨by rfl, ?_⟩; intro w hSw; (try dsimp only at hSw); first | (go_simp; done) | (go_simp; with_reducible rfl))
        try simp only [Act.put, List.setIfInBounds_toArray, List.set_cons_zero, List.set_cons_succ]
        refine wpAnyH_take (i := 1) (oi := ?r8_o1) (v := ?r8_v1) ?r8_ho1 (by kernel_rfl) (by kernel_rfl) (by kernel_rfl) ?r8_hq1 ?r8_hy1 (by assumption) ?_
        case r8_ho1 => (conv => lhs; whnf; arg 1; whnf)
        case r8_hq1 => exact fun _ _ _ h => h
        case r8_hy1 => (refine Or.inl ⟨by rfl, ?_⟩; intro w hSw; (try dsimp only at hSw); first | (go_simp; done) | (go_simp; with_reducible rfl))
        try simp only [Act.put, List.setIfInBounds_toArray, List.set_cons_zero, List.set_cons_succ]
        refine wpAnyH_take (i := 2) (oi := ?r8_o2) (v := ?r8_v2) ?r8_ho2 (by kernel_rfl) (by kernel_rfl) (by kernel_rfl) ?r8_hq2 ?r8_hy2 (by assumption) ?_
        case r8_ho2 => (conv => lhs; whnf; arg 1; whnf)
        case r8_hq2 => exact fun _ _ _ h => h
        case r8_hy2 => (refine Or.inl ⟨by rfl, ?_⟩; intro w hSw; (try dsimp only at hSw); first | (go_simp; done) | (go_simp; with_reducible rfl))
        try simp only [Act.put, List.setIfInBounds_toArray, List.set_cons_zero, List.set_cons_succ]
        refine wpAnyH_take (i := 3) (oi := ?r8_o3) (v := ?r8_v3) ?r8_ho3 (by kernel_rfl) (by kernel_rfl) (by kernel_rfl) ?r8_hq3 ?r8_hy3 (by assumption) ?_
        case r8_ho3 => (conv => lhs; whnf; arg 1; whnf)
        case r8_hq3 => exact fun _ _ _ h => h
        case r8_hy3 => (refine Or.inl ⟨by rfl, ?_⟩; intro w hSw; (try dsimp only at hSw); first | (go_simp; done) | (go_simp; with_reducible rfl))
        try simp only [Act.put, List.setIfInBounds_toArray, List.set_cons_zero, List.set_cons_succ]
        refine wpAnyH_take (i := 4) (oi := ?r8_o4) (v := ?r8_v4) ?r8_ho4 (by kernel_rfl) (by kernel_rfl) (by kernel_rfl) ?r8_hq4 ?r8_hy4 (by assumption) ?_
        case r8_ho4 => (conv => lhs; whnf; arg 1; whnf)
        case r8_hq4 => exact fun _ _ _ h => h
        case r8_hy4 => (refine Or.inl ⟨by rfl, ?_⟩; intro w hSw; (try dsimp only at hSw); first | (go_simp; done) | (go_simp; with_reducible rfl))
        try simp only [Act.put, List.setIfInBounds_toArray, List.set_cons_zero, List.set_cons_succ]
        refine wpAnyH_ready (rs := [5]) (by kernel_rfl) (by simp) ?_
        refine AllReadyH.cons (o := ?r8_o5) ?r8_ho5 (fun K hK => ?_) AllReadyH.nil
        case r8_ho5 => (conv => lhs; whnf; arg 1; whnf)
        refine step_call_gu rfl CEK.out _ _ rfl #[.int .i64 0, .int .i64 xp] rfl (CK0.out _) ?_; rintro r wa ⟨rfl, hwa⟩; refine ⟨_, rfl, ?_⟩; have hxa := Ex.trans (Ex.refl _).drew hwa
        refine hK.out _ _ ?r8_hS5 (fun hHeld5 => ?_)
        case r8_hS5 => exact FK9.out _ hxa
        clear hK K hHeld
        try simp only [Act.put, List.setIfInBounds_toArray, List.set_cons_zero, List.set_cons_succ]
        refine wpAnyH_ready (rs := [6]) (by kernel_rfl) (by simp) ?_
        refine AllReadyH.cons (o := ?r8_o6) ?r8_ho6 (fun K hK => ?_) AllReadyH.nil
        case r8_ho6 => (conv => lhs; whnf; arg 1; whnf)
        refine step_call_gu rfl CEF.out _ _ rfl #[.agg #[.slice A nb c, .slice (some ⟨b2, o2, none⟩) n d], .agg #[.int .i64 kk.space, .int .i64 kk.page]] rfl (CF0.out _ (HB.out.ex (E0.out.trans hxa)) (HF.out.ex (E0.out.trans hxa))) ?_; rintro r w3 ⟨⟨s2, rfl⟩, he⟩; refine ⟨_, rfl, ?_⟩; have hx3 := Ex.trans hxa he
        refine hK.out _ _ ?r8_hS6 (fun hHeld6 => ?_)
        case r8_hS6 => exact FK9.out _ hx3
        clear hK K hHeld5
        try simp only [Act.put, List.setIfInBounds_toArray, List.set_cons_zero, List.set_cons_succ]
        refine wpAnyH_take (i := 7) (oi := ?r8_o7) (v := ?r8_v7) ?r8_ho7 (by kernel_rfl) (by kernel_rfl) (by kernel_rfl) ?r8_hq7 ?r8_hy7 (by assumption) ?_
        case r8_ho7 => (conv => lhs; whnf; arg 1; whnf)
        case r8_hq7 => exact fun _ _ _ h => h
        case r8_hy7 => (refine Or.inl ⟨by rfl, ?_⟩; intro w hSw; (try dsimp only at hSw); first | (go_simp; done) | (go_simp; with_reducible rfl))
        try simp only [Act.put, List.setIfInBounds_toArray, List.set_cons_zero, List.set_cons_succ]
        refine wpAnyH_take (i := 8) (oi := ?r8_o8) (v := ?r8_v8) ?r8_ho8 (by kernel_rfl) (by kernel_rfl) (by kernel_rfl) ?r8_hq8 ?r8_hy8 (by assumption) ?_
        case r8_ho8 => (conv => lhs; whnf; arg 1; whnf)
        case r8_hq8 => exact fun _ _ _ h => h
        case r8_hy8 => (refine Or.inl ⟨by rfl, ?_⟩; intro w hSw; (try dsimp only at hSw); first | (go_simp; done) | (go_simp; with_reducible rfl))
        try simp only [Act.put, List.setIfInBounds_toArray, List.set_cons_zero, List.set_cons_succ]
        refine wpAnyH_take (i := 9) (oi := ?r8_o9) (v := ?r8_v9) ?r8_ho9 (by kernel_rfl) (by kernel_rfl) (by kernel_rfl) ?r8_hq9 ?r8_hy9 (by assumption) ?_
        case r8_ho9 => (conv => lhs; whnf; arg 1; whnf)
        case r8_hq9 => exact fun _ _ _ h => h
        case r8_hy9 => (refine Or.inl ⟨by rfl, ?_⟩; intro w hSw; (try dsimp only at hSw); first | (go_simp; done) | (go_simp; with_reducible rfl))
        try simp only [Act.put, List.setIfInBounds_toArray, List.set_cons_zero, List.set_cons_succ]
        refine wpAnyH_take (i := 10) (oi := ?r8_o10) (v := ?r8_v10) ?r8_ho10 (by kernel_rfl) (by kernel_rfl) (by kernel_rfl) ?r8_hq10 ?r8_hy10 (by assumption) ?_
        case r8_ho10 => (conv => lhs; whnf; arg 1; whnf)
        case r8_hq10 => exact fun _ _ _ h => h
        case r8_hy10 => (refine Or.inl ⟨by rfl, ?_⟩; intro w hSw; (try dsimp only at hSw); first | (go_simp; done) | (go_simp; with_reducible rfl))
        try simp only [Act.put, List.setIfInBounds_toArray, List.set_cons_zero, List.set_cons_succ]
        refine wpAnyH_take (i := 11) (oi := ?r8_o11) (v := ?r8_v11) ?r8_ho11 (by kernel_rfl) (by kernel_rfl) (by kernel_rfl) ?r8_hq11 ?r8_hy11 (by assumption) ?_
        case r8_ho11 => (conv => lhs; whnf; arg 1; whnf)
        case r8_hq11 => exact fun _ _ _ h => h
        case r8_hy11 => (refine Or.inl ⟨by rfl, ?_⟩; intro w hSw; (try dsimp only at hSw); first | (go_simp; done) | (go_simp; with_reducible rfl))
        try simp only [Act.put, List.setIfInBounds_toArray, List.set_cons_zero, List.set_cons_succ]
        refine wpAnyH_done (by kernel_rfl) ?_ _
        have HX3 := Lib.hid hx3
        clear hx3 hxa he hwa
        go_wp2_with fail
        have FK10 : Hid (∀ w', Ex w3 w' → (w'.cell? ⟨gl, 3, none⟩ = some (.int .i64 (i : Int)) ∧ w'.cell? ⟨gl, 4, none⟩ = some (.int .i64 f.rights) ∧ w'.cell? ⟨gl, 5, none⟩ = some (.bool true) ∧ w'.cell? ⟨gl, 1, none⟩ = some (.int .i64 (-1)) ∧ w'.cell? ⟨gm, 1, none⟩ = some (.slice (some ⟨b2, o2, none⟩) n d) ∧ w'.cell? ⟨b2, o2 + i * 5 + 3, none⟩ = some (.int .i64 f.rights))) := Lib.hid (fun w' h => ⟨(K1.out.ex (HX3.out.trans h)).c6.2.2.2.1, (K1.out.ex (HX3.out.trans h)).c6.2.2.2.2.1, (K1.out.ex (HX3.out.trans h)).c6.2.2.2.2.2, (K1.out.ex (HX3.out.trans h)).c6.2.1, (K0.out.ex (HX3.out.trans h)).c9.2.1, (((E0.out.trans HX3.out).trans h).cell HB2.out).trans K3.out⟩)
        refine wp_region_held_drew (S := (fun w' => (w'.cell? ⟨gl, 3, none⟩ = some (.int .i64 (i : Int)) ∧ w'.cell? ⟨gl, 4, none⟩ = some (.int .i64 f.rights) ∧ w'.cell? ⟨gl, 5, none⟩ = some (.bool true) ∧ w'.cell? ⟨gl, 1, none⟩ = some (.int .i64 (-1)) ∧ w'.cell? ⟨gm, 1, none⟩ = some (.slice (some ⟨b2, o2, none⟩) n d) ∧ w'.cell? ⟨b2, o2 + i * 5 + 3, none⟩ = some (.int .i64 f.rights)))) (by kernel_rfl) ?r9_hS0 (fun hHeld => ?_)
        case r9_hS0 => exact FK10.out _ (Ex.refl _).drew
        refine wpAnyH_take (i := 0) (oi := ?r9_o0) (v := ?r9_v0) ?r9_ho0 (by kernel_rfl) (by kernel_rfl) (by kernel_rfl) ?r9_hq0 ?r9_hy0 (by assumption) ?_
        case r9_ho0 => (conv => lhs; whnf; arg 1; whnf)
        case r9_hq0 => exact fun _ _ _ h => h
        case r9_hy0 => (refine Or.inl ⟨by rfl, ?_⟩; intro w hSw; (try dsimp only at hSw); first | (go_simp; done) | (go_simp; with_reducible rfl))
        try simp only [Act.put, List.setIfInBounds_toArray, List.set_cons_zero, List.set_cons_succ]
        refine wpAnyH_take (i := 1) (oi := ?r9_o1) (v := ?r9_v1) ?r9_ho1 (by kernel_rfl) (by kernel_rfl) (by kernel_rfl) ?r9_hq1 ?r9_hy1 (by assumption) ?_
        case r9_ho1 => (conv => lhs; whnf; arg 1; whnf)
        case r9_hq1 => exact fun _ _ _ h => h
        case r9_hy1 => (refine Or.inl ⟨by rfl, ?_⟩; intro w hSw; (try dsimp only at hSw); first | (go_simp; done) | (go_simp; with_reducible rfl))
        try simp only [Act.put, List.setIfInBounds_toArray, List.set_cons_zero, List.set_cons_succ]
        refine wpAnyH_take (i := 2) (oi := ?r9_o2) (v := ?r9_v2) ?r9_ho2 (by kernel_rfl) (by kernel_rfl) (by kernel_rfl) ?r9_hq2 ?r9_hy2 (by assumption) ?_
        case r9_ho2 => (conv => lhs; whnf; arg 1; whnf)
        case r9_hq2 => exact fun _ _ _ h => h
        case r9_hy2 => (refine Or.inl ⟨by rfl, ?_⟩; intro w hSw; (try dsimp only at hSw); first | (go_simp; done) | (go_simp; with_reducible rfl))
        try simp only [Act.put, List.setIfInBounds_toArray, List.set_cons_zero, List.set_cons_succ]
        refine wpAnyH_take (i := 3) (oi := ?r9_o3) (v := ?r9_v3) ?r9_ho3 (by kernel_rfl) (by kernel_rfl) (by kernel_rfl) ?r9_hq3 ?r9_hy3 (by assumption) ?_
        case r9_ho3 => (conv => lhs; whnf; arg 1; whnf)
        case r9_hq3 => exact fun _ _ _ h => h
        case r9_hy3 => (refine Or.inl ⟨by rfl, ?_⟩; intro w hSw; (try dsimp only at hSw); first | (go_simp; done) | (go_simp; with_reducible rfl))
        try simp only [Act.put, List.setIfInBounds_toArray, List.set_cons_zero, List.set_cons_succ]
        refine wpAnyH_take (i := 4) (oi := ?r9_o4) (v := ?r9_v4) ?r9_ho4 (by kernel_rfl) (by kernel_rfl) (by kernel_rfl) ?r9_hq4 ?r9_hy4 (by assumption) ?_
        case r9_ho4 => (conv => lhs; whnf; arg 1; whnf)
        case r9_hq4 => exact fun _ _ _ h => h
        case r9_hy4 => (refine Or.inl ⟨by rfl, ?_⟩; intro w hSw; (try dsimp only at hSw); first | (go_simp; done) | (go_simp; with_reducible rfl))
        try simp only [Act.put, List.setIfInBounds_toArray, List.set_cons_zero, List.set_cons_succ]
        refine wpAnyH_take (i := 5) (oi := ?r9_o5) (v := ?r9_v5) ?r9_ho5 (by kernel_rfl) (by kernel_rfl) (by kernel_rfl) ?r9_hq5 ?r9_hy5 (by assumption) ?_
        case r9_ho5 => (conv => lhs; whnf; arg 1; whnf)
        case r9_hq5 => exact fun _ _ _ h => h
        case r9_hy5 => (refine Or.inl ⟨by rfl, ?_⟩; intro w hSw; (try dsimp only at hSw); first | (go_simp; done) | (go_simp; with_reducible rfl))
        try simp only [Act.put, List.setIfInBounds_toArray, List.set_cons_zero, List.set_cons_succ]
        refine wpAnyH_take (i := 6) (oi := ?r9_o6) (v := ?r9_v6) ?r9_ho6 (by kernel_rfl) (by kernel_rfl) (by kernel_rfl) ?r9_hq6 ?r9_hy6 (by assumption) ?_
        case r9_ho6 => (conv => lhs; whnf; arg 1; whnf)
        case r9_hq6 => exact fun _ _ _ h => h
        case r9_hy6 => (refine Or.inl ⟨by rfl, ?_⟩; intro w hSw; (try dsimp only at hSw); first | (go_simp; done) | (go_simp; with_reducible rfl))
        try simp only [Act.put, List.setIfInBounds_toArray, List.set_cons_zero, List.set_cons_succ]
        refine wpAnyH_take (i := 7) (oi := ?r9_o7) (v := ?r9_v7) ?r9_ho7 (by kernel_rfl) (by kernel_rfl) (by kernel_rfl) ?r9_hq7 ?r9_hy7 (by assumption) ?_
        case r9_ho7 => (conv => lhs; whnf; arg 1; whnf)
        case r9_hq7 => exact fun _ _ _ h => h
        case r9_hy7 => (refine Or.inl ⟨by rfl, ?_⟩; intro w hSw; (try dsimp only at hSw); first | (go_simp; done) | (go_simp; with_reducible rfl))
        try simp only [Act.put, List.setIfInBounds_toArray, List.set_cons_zero, List.set_cons_succ]
        refine wpAnyH_take (i := 8) (oi := ?r9_o8) (v := ?r9_v8) ?r9_ho8 (by kernel_rfl) (by kernel_rfl) (by kernel_rfl) ?r9_hq8 ?r9_hy8 (by assumption) ?_
        case r9_ho8 => (conv => lhs; whnf; arg 1; whnf)
        case r9_hq8 => exact fun _ _ _ h => h
        case r9_hy8 => (refine Or.inl ⟨by rfl, ?_⟩; intro w hSw; (try dsimp only at hSw); first | (go_simp; done) | (go_simp; with_reducible rfl))
        try simp only [Act.put, List.setIfInBounds_toArray, List.set_cons_zero, List.set_cons_succ]
        refine wpAnyH_take (i := 9) (oi := ?r9_o9) (v := ?r9_v9) ?r9_ho9 (by kernel_rfl) (by kernel_rfl) (by kernel_rfl) ?r9_hq9 ?r9_hy9 (by assumption) ?_
        case r9_ho9 => (conv => lhs; whnf; arg 1; whnf)
        case r9_hq9 => exact fun _ _ _ h => h
        case r9_hy9 => (refine Or.inl ⟨by rfl, ?_⟩; intro w hSw; (try dsimp only at hSw); first | (go_simp; done) | (go_simp; with_reducible rfl))
        try simp only [Act.put, List.setIfInBounds_toArray, List.set_cons_zero, List.set_cons_succ]
        refine wpAnyH_take (i := 10) (oi := ?r9_o10) (v := ?r9_v10) ?r9_ho10 (by kernel_rfl) (by kernel_rfl) (by kernel_rfl) ?r9_hq10 ?r9_hy10 (by assumption) ?_
        case r9_ho10 => (conv => lhs; whnf; arg 1; whnf)
        case r9_hq10 => exact fun _ _ _ h => h
        case r9_hy10 => (refine Or.inl ⟨by rfl, ?_⟩; intro w hSw; (try dsimp only at hSw); first | (go_simp; done) | (go_simp; with_reducible rfl))
        try simp only [Act.put, List.setIfInBounds_toArray, List.set_cons_zero, List.set_cons_succ]
        refine wpAnyH_take (i := 11) (oi := ?r9_o11) (v := ?r9_v11) ?r9_ho11 (by kernel_rfl) (by kernel_rfl) (by kernel_rfl) ?r9_hq11 ?r9_hy11 (by assumption) ?_
        case r9_ho11 => (conv => lhs; whnf; arg 1; whnf)
        case r9_hq11 => exact fun _ _ _ h => h
        case r9_hy11 => (refine Or.inl ⟨by rfl, ?_⟩; intro w hSw; (try dsimp only at hSw); first | (go_simp; done) | (go_simp; with_reducible rfl))
        try simp only [Act.put, List.setIfInBounds_toArray, List.set_cons_zero, List.set_cons_succ]
        refine wpAnyH_take (i := 12) (oi := ?r9_o12) (v := ?r9_v12) ?r9_ho12 (by kernel_rfl) (by kernel_rfl) (by kernel_rfl) ?r9_hq12 ?r9_hy12 (by assumption) ?_
        case r9_ho12 => (conv => lhs; whnf; arg 1; whnf)
        case r9_hq12 => exact fun _ _ _ h => h
        case r9_hy12 => (refine Or.inl ⟨by rfl, ?_⟩; intro w hSw; (try dsimp only at hSw); first | (go_simp; done) | (go_simp; with_reducible rfl))
        try simp only [Act.put, List.setIfInBounds_toArray, List.set_cons_zero, List.set_cons_succ]
        refine wpAnyH_take (i := 13) (oi := ?r9_o13) (v := ?r9_v13) ?r9_ho13 (by kernel_rfl) (by kernel_rfl) (by kernel_rfl) ?r9_hq13 ?r9_hy13 (by assumption) ?_
        case r9_ho13 => (conv => lhs; whnf; arg 1; whnf)
        case r9_hq13 => exact fun _ _ _ h => h
        case r9_hy13 => (refine Or.inl ⟨by rfl, ?_⟩; intro w hSw; (try dsimp only at hSw); first | (go_simp; done) | (go_simp; with_reducible rfl))
        try simp only [Act.put, List.setIfInBounds_toArray, List.set_cons_zero, List.set_cons_succ]
        refine wpAnyH_take (i := 14) (oi := ?r9_o14) (v := ?r9_v14) ?r9_ho14 (by kernel_rfl) (by kernel_rfl) (by kernel_rfl) ?r9_hq14 ?r9_hy14 (by assumption) ?_
        case r9_ho14 => (conv => lhs; whnf; arg 1; whnf)
        case r9_hq14 => exact fun _ _ _ h => h
        case r9_hy14 => (refine Or.inl ⟨by rfl, ?_⟩; intro w hSw; (try dsimp only at hSw); first | (go_simp; done) | (go_simp; with_reducible rfl))
        try simp only [Act.put, List.setIfInBounds_toArray, List.set_cons_zero, List.set_cons_succ]
        refine wpAnyH_take (i := 15) (oi := ?r9_o15) (v := ?r9_v15) ?r9_ho15 (by kernel_rfl) (by kernel_rfl) (by kernel_rfl) ?r9_hq15 ?r9_hy15 (by assumption) ?_
        case r9_ho15 => (conv => lhs; whnf; arg 1; whnf)
        case r9_hq15 => exact fun _ _ _ h => h
        case r9_hy15 => (refine Or.inl ⟨by rfl, ?_⟩; intro w hSw; (try dsimp only at hSw); first | (go_simp; done) | (go_simp; with_reducible rfl))
        try simp only [Act.put, List.setIfInBounds_toArray, List.set_cons_zero, List.set_cons_succ]
        refine wpAnyH_take (i := 16) (oi := ?r9_o16) (v := ?r9_v16) ?r9_ho16 (by kernel_rfl) (by kernel_rfl) (by kernel_rfl) ?r9_hq16 ?r9_hy16 (by assumption) ?_
        case r9_ho16 => (conv => lhs; whnf; arg 1; whnf)
        case r9_hq16 => exact fun _ _ _ h => h
        case r9_hy16 => (refine Or.inl ⟨by rfl, ?_⟩; intro w hSw; (try dsimp only at hSw); first | (go_simp; done) | (go_simp; with_reducible rfl))
        try simp only [Act.put, List.setIfInBounds_toArray, List.set_cons_zero, List.set_cons_succ]
        refine wpAnyH_take (i := 17) (oi := ?r9_o17) (v := ?r9_v17) ?r9_ho17 (by kernel_rfl) (by kernel_rfl) (by kernel_rfl) ?r9_hq17 ?r9_hy17 (by assumption) ?_
        case r9_ho17 => (conv => lhs; whnf; arg 1; whnf)
        case r9_hq17 => exact fun _ _ _ h => h
        case r9_hy17 => (refine Or.inl ⟨by rfl, ?_⟩; intro w hSw; (try dsimp only at hSw); first | (go_simp; done) | (go_simp; with_reducible rfl))
        try simp only [Act.put, List.setIfInBounds_toArray, List.set_cons_zero, List.set_cons_succ]
        refine wpAnyH_take (i := 18) (oi := ?r9_o18) (v := ?r9_v18) ?r9_ho18 (by kernel_rfl) (by kernel_rfl) (by kernel_rfl) ?r9_hq18 ?r9_hy18 (by assumption) ?_
        case r9_ho18 => (conv => lhs; whnf; arg 1; whnf)
        case r9_hq18 => exact fun _ _ _ h => h
        case r9_hy18 => (refine Or.inl ⟨by rfl, ?_⟩; intro w hSw; (try dsimp only at hSw); first | (go_simp; done) | (go_simp; with_reducible rfl))
        try simp only [Act.put, List.setIfInBounds_toArray, List.set_cons_zero, List.set_cons_succ]
        refine wpAnyH_take (i := 19) (oi := ?r9_o19) (v := ?r9_v19) ?r9_ho19 (by kernel_rfl) (by kernel_rfl) (by kernel_rfl) ?r9_hq19 ?r9_hy19 (by assumption) ?_
        case r9_ho19 => (conv => lhs; whnf; arg 1; whnf)
        case r9_hq19 => exact fun _ _ _ h => h
        case r9_hy19 => (refine Or.inl ⟨by rfl, ?_⟩; intro w hSw; (try dsimp only at hSw); first | (go_simp; done) | (go_simp; with_reducible rfl))
        try simp only [Act.put, List.setIfInBounds_toArray, List.set_cons_zero, List.set_cons_succ]
        refine wpAnyH_take (i := 20) (oi := ?r9_o20) (v := ?r9_v20) ?r9_ho20 (by kernel_rfl) (by kernel_rfl) (by kernel_rfl) ?r9_hq20 ?r9_hy20 (by assumption) ?_
        case r9_ho20 => (conv => lhs; whnf; arg 1; whnf)
        case r9_hq20 => exact fun _ _ _ h => h
        case r9_hy20 => (refine Or.inl ⟨by rfl, ?_⟩; intro w hSw; (try dsimp only at hSw); first | (go_simp; done) | (go_simp; with_reducible rfl))
        try simp only [Act.put, List.setIfInBounds_toArray, List.set_cons_zero, List.set_cons_succ]
        refine wpAnyH_take (i := 21) (oi := ?r9_o21) (v := ?r9_v21) ?r9_ho21 (by kernel_rfl) (by kernel_rfl) (by kernel_rfl) ?r9_hq21 ?r9_hy21 (by assumption) ?_
        case r9_ho21 => (conv => lhs; whnf; arg 1; whnf)
        case r9_hq21 => exact fun _ _ _ h => h
        case r9_hy21 => (refine Or.inl ⟨by rfl, ?_⟩; intro w hSw; (try dsimp only at hSw); first | (go_simp; done) | (go_simp; with_reducible rfl))
        try simp only [Act.put, List.setIfInBounds_toArray, List.set_cons_zero, List.set_cons_succ]
        refine wpAnyH_take (i := 22) (oi := ?r9_o22) (v := ?r9_v22) ?r9_ho22 (by kernel_rfl) (by kernel_rfl) (by kernel_rfl) ?r9_hq22 ?r9_hy22 (by assumption) ?_
        case r9_ho22 => (conv => lhs; whnf; arg 1; whnf)
        case r9_hq22 => exact fun _ _ _ h => h
        case r9_hy22 => (refine Or.inl ⟨by rfl, ?_⟩; intro w hSw; (try dsimp only at hSw); first | (go_simp; done) | (go_simp; with_reducible rfl))
        try simp only [Act.put, List.setIfInBounds_toArray, List.set_cons_zero, List.set_cons_succ]
        refine wpAnyH_take (i := 23) (oi := ?r9_o23) (v := ?r9_v23) ?r9_ho23 (by kernel_rfl) (by kernel_rfl) (by kernel_rfl) ?r9_hq23 ?r9_hy23 (by assumption) ?_
        case r9_ho23 => (conv => lhs; whnf; arg 1; whnf)
        case r9_hq23 => exact fun _ _ _ h => h
        case r9_hy23 => (refine Or.inl ⟨by rfl, ?_⟩; intro w hSw; (try dsimp only at hSw); first | (go_simp; done) | (go_simp; with_reducible rfl))
        try simp only [Act.put, List.setIfInBounds_toArray, List.set_cons_zero, List.set_cons_succ]
        refine wpAnyH_take (i := 24) (oi := ?r9_o24) (v := ?r9_v24) ?r9_ho24 (by kernel_rfl) (by kernel_rfl) (by kernel_rfl) ?r9_hq24 ?r9_hy24 (by assumption) ?_
        case r9_ho24 => (conv => lhs; whnf; arg 1; whnf)
        case r9_hq24 => exact fun _ _ _ h => h
        case r9_hy24 => (refine Or.inl ⟨by rfl, ?_⟩; intro w hSw; (try dsimp only at hSw); first | (go_simp; done) | (go_simp; with_reducible rfl))
        try simp only [Act.put, List.setIfInBounds_toArray, List.set_cons_zero, List.set_cons_succ]
        refine wpAnyH_take (i := 25) (oi := ?r9_o25) (v := ?r9_v25) ?r9_ho25 (by kernel_rfl) (by kernel_rfl) (by kernel_rfl) ?r9_hq25 ?r9_hy25 (by assumption) ?_
        case r9_ho25 => (conv => lhs; whnf; arg 1; whnf)
        case r9_hq25 => exact fun _ _ _ h => h
        case r9_hy25 => (refine Or.inl ⟨by rfl, ?_⟩; intro w hSw; (try dsimp only at hSw); first | (go_simp; done) | (go_simp; with_reducible rfl))
        try simp only [Act.put, List.setIfInBounds_toArray, List.set_cons_zero, List.set_cons_succ]
        refine wpAnyH_take (i := 26) (oi := ?r9_o26) (v := ?r9_v26) ?r9_ho26 (by kernel_rfl) (by kernel_rfl) (by kernel_rfl) ?r9_hq26 ?r9_hy26 (by assumption) ?_
        case r9_ho26 => (conv => lhs; whnf; arg 1; whnf)
        case r9_hq26 => exact fun _ _ _ h => h
        case r9_hy26 => (refine Or.inl ⟨by rfl, ?_⟩; intro w hSw; (try dsimp only at hSw); first | (go_simp; done) | (go_simp; with_reducible rfl))
        try simp only [Act.put, List.setIfInBounds_toArray, List.set_cons_zero, List.set_cons_succ]
        refine wpAnyH_take (i := 27) (oi := ?r9_o27) (v := ?r9_v27) ?r9_ho27 (by kernel_rfl) (by kernel_rfl) (by kernel_rfl) ?r9_hq27 ?r9_hy27 (by assumption) ?_
        case r9_ho27 => (conv => lhs; whnf; arg 1; whnf)
        case r9_hq27 => exact fun _ _ _ h => h
        case r9_hy27 => (refine Or.inl ⟨by rfl, ?_⟩; intro w hSw; (try dsimp only at hSw); first | (go_simp; done) | (go_simp; with_reducible rfl))
        try simp only [Act.put, List.setIfInBounds_toArray, List.set_cons_zero, List.set_cons_succ]
        refine wpAnyH_take (i := 28) (oi := ?r9_o28) (v := ?r9_v28) ?r9_ho28 (by kernel_rfl) (by kernel_rfl) (by kernel_rfl) ?r9_hq28 ?r9_hy28 (by assumption) ?_
        case r9_ho28 => (conv => lhs; whnf; arg 1; whnf)
        case r9_hq28 => exact fun _ _ _ h => h
        case r9_hy28 => (refine Or.inl ⟨by rfl, ?_⟩; intro w hSw; (try dsimp only at hSw); first | (go_simp; done) | (go_simp; with_reducible rfl))
        try simp only [Act.put, List.setIfInBounds_toArray, List.set_cons_zero, List.set_cons_succ]
        refine wpAnyH_take (i := 29) (oi := ?r9_o29) (v := ?r9_v29) ?r9_ho29 (by kernel_rfl) (by kernel_rfl) (by kernel_rfl) ?r9_hq29 ?r9_hy29 (by assumption) ?_
        case r9_ho29 => (conv => lhs; whnf; arg 1; whnf)
        case r9_hq29 => exact fun _ _ _ h => h
        case r9_hy29 => (refine Or.inl ⟨by rfl, ?_⟩; intro w hSw; (try dsimp only at hSw); first | (go_simp; done) | (go_simp; with_reducible rfl))
        try simp only [Act.put, List.setIfInBounds_toArray, List.set_cons_zero, List.set_cons_succ]
        refine wpAnyH_take (i := 30) (oi := ?r9_o30) (v := ?r9_v30) ?r9_ho30 (by kernel_rfl) (by kernel_rfl) (by kernel_rfl) ?r9_hq30 ?r9_hy30 (by assumption) ?_
        case r9_ho30 => (conv => lhs; whnf; arg 1; whnf)
        case r9_hq30 => exact fun _ _ _ h => h
        case r9_hy30 => (refine Or.inl ⟨by rfl, ?_⟩; intro w hSw; (try dsimp only at hSw); first | (go_simp; done) | (go_simp; with_reducible rfl))
        try simp only [Act.put, List.setIfInBounds_toArray, List.set_cons_zero, List.set_cons_succ]
        refine wpAnyH_done (by kernel_rfl) ?_ _
        go_wp2
        go_ret
        exact ⟨rfl, (E0.out.trans HX3.out).drew⟩
    · rw [lineFitsB_no (fun h => hpg (h.1.1 htg))]
      subst htg
      clear CT CF CK hsr
      generalize m.table.frames.length = n
      generalize m.table.buckets.length = nb
      go_enter Tryd.func25, Tryd.ntmps25
      go_wp2
      go_ret
      exact ⟨rfl, ((Ex.refl _).alloc _).alloc _⟩
  · have hb1 : (xt == -1) = false := by simpa using htg
    have hb2 : (!xt == -1) = true := by simp [hb1]
    by_cases hpg : 128 ≤ xp
    · rw [lineFitsB_no (fun h => htg (h.1.2 hpg))]
      clear CT CF CK hsr
      generalize m.table.frames.length = n
      generalize m.table.buckets.length = nb
      go_enter Tryd.func25, Tryd.ntmps25
      go_wp2
      go_ret
      exact ⟨rfl, ((Ex.refl _).alloc _).alloc _⟩
    · cases hso : (spaceOf m.tags xt).2
      · rw [lineFitsB_no (fun h => by have h1 : (spaceOf m.tags xt).2 = true := h.2.1 htg; rw [hso] at h1; cases h1)]
        rw [hso] at CT
        generalize (spaceOf m.tags xt).1 = sp at CT
        clear CF CK hsr hso
        generalize m.table.frames.length = n
        generalize m.table.buckets.length = nb
        go_enter Tryd.func25, Tryd.ntmps25
        go_wp2_with fail
        refine (CT.out _ ((HO.out.alloc _).alloc _)).mono ?_
        rintro r w0 ⟨rfl, he⟩
        go_wp2
        go_ret
        exact ⟨rfl, (((Ex.refl _).alloc _).alloc _).trans he⟩
      · have hq : lineAt m ⟨xv, xt, xp, xf, xr, xw⟩ = findF m.table (keyFor (spaceOf m.tags xt).1 xp) := by unfold lineAt lineSpace; rw [if_neg htg]
        have HT1 : Hid (xt = -1 ↔ 128 ≤ xp) := Lib.hid (by simp [htg, hpg])
        have HT2 : Hid (xt ≠ -1 → (spaceOf m.tags xt).2 = true) := Lib.hid (fun h => hso)
        rw [hso] at CT
        generalize (spaceOf m.tags xt).1 = sp at CT hq hsr
        have CF0 := Lib.hid (fun w' h1 h2 => CF.out sp w' h1 h2 hsr)
        have CK0 := Lib.hid (fun w' => CK.out sp w')
        clear hsr hso
        generalize keyFor sp xp = kk at hq CF0 CK0
        rcases findF_range (t := m.table) kk with hm | ⟨i, f, hm, hfi⟩
        · rw [lineFitsB_no (fun h => by obtain ⟨i, f, h1, _⟩ := h.2.2.1; rw [hq, hm] at h1; omega)]
          rw [hm] at CF0
          clear hq hm CF CK
          generalize m.table.frames.length = n at CF0 ⊢
          generalize m.table.buckets.length = nb at CF0 ⊢
          go_enter Tryd.func25, Tryd.ntmps25
          go_wp2_with fail
          refine (CT.out _ ((HO.out.alloc _).alloc _)).mono ?_
          rintro r w0 ⟨rfl, he⟩
          obtain ⟨gm, hgm⟩ : ∃ gm : Nat, gm = w.heap.size := ⟨_, rfl⟩
          obtain ⟨gl, hgl⟩ : ∃ gl : Nat, gl = w.heap.size + 1 := ⟨_, rfl⟩
          have K0 : Hid (Blk w0 gm 46 [.slice A nb c, .slice B n d, .slice L nl e, .int .i64 m.cache.hand, .int .i64 m.tags.count, .int .i64 m.tags.next, .int .i64 m.tags.round, .slice O no g, .int .i64 m.space]) := Lib.hid (by rw [hgm]; exact ((Blk.new w _ _).alloc _).ex he)
          have K1 : Hid (Blk w0 gl 74 [.bool xv, .int .i64 xt, .int .i64 xp, .int .i64 xf, .int .i64 xr, .bool xw]) := Lib.hid (by rw [hgl]; exact (Blk.new_at _ _ _ (by simp)).ex he)
          have E0 : Hid (Ex w w0) := Lib.hid (((Ex.refl w).alloc _).alloc _ |>.trans he)
          clear he
          rw [← hgl]
          rw [← hgm]
          clear hgm hgl
          go_wp2_with fail
          have FK9 : Hid (∀ w', Ex w0 w' → (w'.cell? ⟨gm, 0, none⟩ = some (.slice A nb c) ∧ w'.cell? ⟨gm, 1, none⟩ = some (.slice B n d) ∧ w'.cell? ⟨gl, 2, none⟩ = some (.int .i64 xp))) := Lib.hid (fun w' h => ⟨(K0.out.ex h).c9.1, (K0.out.ex h).c9.2.1, (K1.out.ex h).c6.2.2.1⟩)
          refine wp_region_held_drew (S := (fun w' => (w'.cell? ⟨gm, 0, none⟩ = some (.slice A nb c) ∧ w'.cell? ⟨gm, 1, none⟩ = some (.slice B n d) ∧ w'.cell? ⟨gl, 2, none⟩ = some (.int .i64 xp)))) (by kernel_rfl) ?r10_hS0 (fun hHeld => ?_)
          case r10_hS0 => exact FK9.out _ (Ex.refl _).drew
          refine wpAnyH_take (i := 0) (oi := ?r10_o0) (v := ?r10_v0) ?r10_ho0 (by kernel_rfl) (by kernel_rfl) (by kernel_rfl) ?r10_hq0 ?r10_hy0 (by assumption) ?_
          case r10_ho0 => (conv => lhs; whnf; arg 1; whnf)
          case r10_hq0 => exact fun _ _ _ h => h
          case r10_hy0 => (refine Or.inl ⟨by rfl, ?_⟩; intro w hSw; (try dsimp only at hSw); first | (go_simp; done) | (go_simp; with_reducible rfl))
          try simp only [Act.put, List.setIfInBounds_toArray, List.set_cons_zero, List.set_cons_succ]
          refine wpAnyH_take (i := 1) (oi := ?r10_o1) (v := ?r10_v1) ?r10_ho1 (by kernel_rfl) (by kernel_rfl) (by kernel_rfl) ?r10_hq1 ?r10_hy1 (by assumption) ?_
          case r10_ho1 => (conv => lhs; whnf; arg 1; whnf)
          case r10_hq1 => exact fun _ _ _ h => h
          case r10_hy1 => (refine Or.inl ⟨by rfl, ?_⟩; intro w hSw; (try dsimp only at hSw); first | (go_simp; done) | (go_simp; with_reducible rfl))
          try simp only [Act.put, List.setIfInBounds_toArray, List.set_cons_zero, List.set_cons_succ]
          refine wpAnyH_take (i := 2) (oi := ?r10_o2) (v := ?r10_v2) ?r10_ho2 (by kernel_rfl) (by kernel_rfl) (by kernel_rfl) ?r10_hq2 ?r10_hy2 (by assumption) ?_
          case r10_ho2 => (conv => lhs; whnf; arg 1; whnf)
          case r10_hq2 => exact fun _ _ _ h => h
          case r10_hy2 => (refine Or.inl ⟨by rfl, ?_⟩; intro w hSw; (try dsimp only at hSw); first | (go_simp; done) | (go_simp; with_reducible rfl))
          try simp only [Act.put, List.setIfInBounds_toArray, List.set_cons_zero, List.set_cons_succ]
          refine wpAnyH_take (i := 3) (oi := ?r10_o3) (v := ?r10_v3) ?r10_ho3 (by kernel_rfl) (by kernel_rfl) (by kernel_rfl) ?r10_hq3 ?r10_hy3 (by assumption) ?_
          case r10_ho3 => (conv => lhs; whnf; arg 1; whnf)
          case r10_hq3 => exact fun _ _ _ h => h
          case r10_hy3 => (refine Or.inl ⟨by rfl, ?_⟩; intro w hSw; (try dsimp only at hSw); first | (go_simp; done) | (go_simp; with_reducible rfl))
          try simp only [Act.put, List.setIfInBounds_toArray, List.set_cons_zero, List.set_cons_succ]
          refine wpAnyH_take (i := 4) (oi := ?r10_o4) (v := ?r10_v4) ?r10_ho4 (by kernel_rfl) (by kernel_rfl) (by kernel_rfl) ?r10_hq4 ?r10_hy4 (by assumption) ?_
          case r10_ho4 => (conv => lhs; whnf; arg 1; whnf)
          case r10_hq4 => exact fun _ _ _ h => h
          case r10_hy4 => (refine Or.inl ⟨by rfl, ?_⟩; intro w hSw; (try dsimp only at hSw); first | (go_simp; done) | (go_simp; with_reducible rfl))
          try simp only [Act.put, List.setIfInBounds_toArray, List.set_cons_zero, List.set_cons_succ]
          refine wpAnyH_ready (rs := [5]) (by kernel_rfl) (by simp) ?_
          refine AllReadyH.cons (o := ?r10_o5) ?r10_ho5 (fun K hK => ?_) AllReadyH.nil
          case r10_ho5 => (conv => lhs; whnf; arg 1; whnf)
          refine step_call_gu rfl CEK.out _ _ rfl #[.int .i64 sp, .int .i64 xp] rfl (CK0.out _) ?_; rintro r wa ⟨rfl, hwa⟩; refine ⟨_, rfl, ?_⟩; have hxa := Ex.trans (Ex.refl _).drew hwa
          refine hK.out _ _ ?r10_hS5 (fun hHeld5 => ?_)
          case r10_hS5 => exact FK9.out _ hxa
          clear hK K hHeld
          try simp only [Act.put, List.setIfInBounds_toArray, List.set_cons_zero, List.set_cons_succ]
          refine wpAnyH_ready (rs := [6]) (by kernel_rfl) (by simp) ?_
          refine AllReadyH.cons (o := ?r10_o6) ?r10_ho6 (fun K hK => ?_) AllReadyH.nil
          case r10_ho6 => (conv => lhs; whnf; arg 1; whnf)
          refine step_call_gu rfl CEF.out _ _ rfl #[.agg #[.slice A nb c, .slice B n d], .agg #[.int .i64 kk.space, .int .i64 kk.page]] rfl (CF0.out _ (HB.out.ex (E0.out.trans hxa)) (HF.out.ex (E0.out.trans hxa))) ?_; rintro r w3 ⟨⟨s2, rfl⟩, he⟩; refine ⟨_, rfl, ?_⟩; have hx3 := Ex.trans hxa he
          refine hK.out _ _ ?r10_hS6 (fun hHeld6 => ?_)
          case r10_hS6 => exact FK9.out _ hx3
          clear hK K hHeld5
          try simp only [Act.put, List.setIfInBounds_toArray, List.set_cons_zero, List.set_cons_succ]
          refine wpAnyH_take (i := 7) (oi := ?r10_o7) (v := ?r10_v7) ?r10_ho7 (by kernel_rfl) (by kernel_rfl) (by kernel_rfl) ?r10_hq7 ?r10_hy7 (by assumption) ?_
          case r10_ho7 => (conv => lhs; whnf; arg 1; whnf)
          case r10_hq7 => exact fun _ _ _ h => h
          case r10_hy7 => (refine Or.inl ⟨by rfl, ?_⟩; intro w hSw; (try dsimp only at hSw); first | (go_simp; done) | (go_simp; with_reducible rfl))
          try simp only [Act.put, List.setIfInBounds_toArray, List.set_cons_zero, List.set_cons_succ]
          refine wpAnyH_take (i := 8) (oi := ?r10_o8) (v := ?r10_v8) ?r10_ho8 (by kernel_rfl) (by kernel_rfl) (by kernel_rfl) ?r10_hq8 ?r10_hy8 (by assumption) ?_
          case r10_ho8 => (conv => lhs; whnf; arg 1; whnf)
          case r10_hq8 => exact fun _ _ _ h => h
          case r10_hy8 => (refine Or.inl ⟨by rfl, ?_⟩; intro w hSw; (try dsimp only at hSw); first | (go_simp; done) | (go_simp; with_reducible rfl))
          try simp only [Act.put, List.setIfInBounds_toArray, List.set_cons_zero, List.set_cons_succ]
          refine wpAnyH_take (i := 9) (oi := ?r10_o9) (v := ?r10_v9) ?r10_ho9 (by kernel_rfl) (by kernel_rfl) (by kernel_rfl) ?r10_hq9 ?r10_hy9 (by assumption) ?_
          case r10_ho9 => (conv => lhs; whnf; arg 1; whnf)
          case r10_hq9 => exact fun _ _ _ h => h
          case r10_hy9 => (refine Or.inl ⟨by rfl, ?_⟩; intro w hSw; (try dsimp only at hSw); first | (go_simp; done) | (go_simp; with_reducible rfl))
          try simp only [Act.put, List.setIfInBounds_toArray, List.set_cons_zero, List.set_cons_succ]
          refine wpAnyH_take (i := 10) (oi := ?r10_o10) (v := ?r10_v10) ?r10_ho10 (by kernel_rfl) (by kernel_rfl) (by kernel_rfl) ?r10_hq10 ?r10_hy10 (by assumption) ?_
          case r10_ho10 => (conv => lhs; whnf; arg 1; whnf)
          case r10_hq10 => exact fun _ _ _ h => h
          case r10_hy10 => (refine Or.inl ⟨by rfl, ?_⟩; intro w hSw; (try dsimp only at hSw); first | (go_simp; done) | (go_simp; with_reducible rfl))
          try simp only [Act.put, List.setIfInBounds_toArray, List.set_cons_zero, List.set_cons_succ]
          refine wpAnyH_take (i := 11) (oi := ?r10_o11) (v := ?r10_v11) ?r10_ho11 (by kernel_rfl) (by kernel_rfl) (by kernel_rfl) ?r10_hq11 ?r10_hy11 (by assumption) ?_
          case r10_ho11 => (conv => lhs; whnf; arg 1; whnf)
          case r10_hq11 => exact fun _ _ _ h => h
          case r10_hy11 => (refine Or.inl ⟨by rfl, ?_⟩; intro w hSw; (try dsimp only at hSw); first | (go_simp; done) | (go_simp; with_reducible rfl))
          try simp only [Act.put, List.setIfInBounds_toArray, List.set_cons_zero, List.set_cons_succ]
          refine wpAnyH_done (by kernel_rfl) ?_ _
          have HX3 := Lib.hid hx3
          clear hx3 hxa he hwa
          go_wp2_with fail
          have FK10 : Hid (∀ w', Ex w3 w' → True) := Lib.hid (fun w' h => trivial)
          refine wp_region_held_drew (S := (fun w' => True)) (by kernel_rfl) ?r11_hS0 (fun hHeld => ?_)
          case r11_hS0 => exact FK10.out _ (Ex.refl _).drew
          refine wpAnyH_take (i := 0) (oi := ?r11_o0) (v := ?r11_v0) ?r11_ho0 (by kernel_rfl) (by kernel_rfl) (by kernel_rfl) ?r11_hq0 ?r11_hy0 (by assumption) ?_
          case r11_ho0 => (conv => lhs; whnf; arg 1; whnf)
          case r11_hq0 => exact fun _ _ _ h => h
          case r11_hy0 => (refine Or.inl ⟨by rfl, ?_⟩; intro w hSw; (try dsimp only at hSw); first | (go_simp; done) | (go_simp; with_reducible rfl))
          try simp only [Act.put, List.setIfInBounds_toArray, List.set_cons_zero, List.set_cons_succ]
          refine wpAnyH_take (i := 1) (oi := ?r11_o1) (v := ?r11_v1) ?r11_ho1 (by kernel_rfl) (by kernel_rfl) (by kernel_rfl) ?r11_hq1 ?r11_hy1 (by assumption) ?_
          case r11_ho1 => (conv => lhs; whnf; arg 1; whnf)
          case r11_hq1 => exact fun _ _ _ h => h
          case r11_hy1 => (refine Or.inl ⟨by rfl, ?_⟩; intro w hSw; (try dsimp only at hSw); first | (go_simp; done) | (go_simp; with_reducible rfl))
          try simp only [Act.put, List.setIfInBounds_toArray, List.set_cons_zero, List.set_cons_succ]
          refine wpAnyH_take (i := 2) (oi := ?r11_o2) (v := ?r11_v2) ?r11_ho2 (by kernel_rfl) (by kernel_rfl) (by kernel_rfl) ?r11_hq2 ?r11_hy2 (by assumption) ?_
          case r11_ho2 => (conv => lhs; whnf; arg 1; whnf)
          case r11_hq2 => exact fun _ _ _ h => h
          case r11_hy2 => (refine Or.inl ⟨by rfl, ?_⟩; intro w hSw; (try dsimp only at hSw); first | (go_simp; done) | (go_simp; with_reducible rfl))
          try simp only [Act.put, List.setIfInBounds_toArray, List.set_cons_zero, List.set_cons_succ]
          refine wpAnyH_take (i := 3) (oi := ?r11_o3) (v := undef) ?r11_ho3 (by kernel_rfl) (by kernel_rfl) (by kernel_rfl) ?r11_hq3 ?r11_hy3 (by assumption) ?_
          case r11_ho3 => (conv => lhs; whnf; arg 1; whnf)
          case r11_hq3 => exact fun _ _ _ h => h
          case r11_hy3 => exact Or.inr ⟨by rfl, rfl⟩
          try simp only [Act.put, List.setIfInBounds_toArray, List.set_cons_zero, List.set_cons_succ]
          refine wpAnyH_take (i := 4) (oi := ?r11_o4) (v := undef) ?r11_ho4 (by kernel_rfl) (by kernel_rfl) (by kernel_rfl) ?r11_hq4 ?r11_hy4 (by assumption) ?_
          case r11_ho4 => (conv => lhs; whnf; arg 1; whnf)
          case r11_hq4 => exact fun _ _ _ h => h
          case r11_hy4 => exact Or.inr ⟨by rfl, rfl⟩
          try simp only [Act.put, List.setIfInBounds_toArray, List.set_cons_zero, List.set_cons_succ]
          refine wpAnyH_take (i := 5) (oi := ?r11_o5) (v := undef) ?r11_ho5 (by kernel_rfl) (by kernel_rfl) (by kernel_rfl) ?r11_hq5 ?r11_hy5 (by assumption) ?_
          case r11_ho5 => (conv => lhs; whnf; arg 1; whnf)
          case r11_hq5 => exact fun _ _ _ h => h
          case r11_hy5 => exact Or.inr ⟨by rfl, rfl⟩
          try simp only [Act.put, List.setIfInBounds_toArray, List.set_cons_zero, List.set_cons_succ]
          refine wpAnyH_take (i := 6) (oi := ?r11_o6) (v := undef) ?r11_ho6 (by kernel_rfl) (by kernel_rfl) (by kernel_rfl) ?r11_hq6 ?r11_hy6 (by assumption) ?_
          case r11_ho6 => (conv => lhs; whnf; arg 1; whnf)
          case r11_hq6 => exact fun _ _ _ h => h
          case r11_hy6 => exact Or.inr ⟨by rfl, rfl⟩
          try simp only [Act.put, List.setIfInBounds_toArray, List.set_cons_zero, List.set_cons_succ]
          refine wpAnyH_take (i := 7) (oi := ?r11_o7) (v := ?r11_v7) ?r11_ho7 (by kernel_rfl) (by kernel_rfl) (by kernel_rfl) ?r11_hq7 ?r11_hy7 (by assumption) ?_
          case r11_ho7 => (conv => lhs; whnf; arg 1; whnf)
          case r11_hq7 => exact fun _ _ _ h => h
          case r11_hy7 => (refine Or.inl ⟨by rfl, ?_⟩; intro w hSw; (try dsimp only at hSw); first | (go_simp; done) | (go_simp; with_reducible rfl))
          try simp only [Act.put, List.setIfInBounds_toArray, List.set_cons_zero, List.set_cons_succ]
          refine wpAnyH_take (i := 8) (oi := ?r11_o8) (v := ?r11_v8) ?r11_ho8 (by kernel_rfl) (by kernel_rfl) (by kernel_rfl) ?r11_hq8 ?r11_hy8 (by assumption) ?_
          case r11_ho8 => (conv => lhs; whnf; arg 1; whnf)
          case r11_hq8 => exact fun _ _ _ h => h
          case r11_hy8 => (refine Or.inl ⟨by rfl, ?_⟩; intro w hSw; (try dsimp only at hSw); first | (go_simp; done) | (go_simp; with_reducible rfl))
          try simp only [Act.put, List.setIfInBounds_toArray, List.set_cons_zero, List.set_cons_succ]
          refine wpAnyH_take (i := 9) (oi := ?r11_o9) (v := undef) ?r11_ho9 (by kernel_rfl) (by kernel_rfl) (by kernel_rfl) ?r11_hq9 ?r11_hy9 (by assumption) ?_
          case r11_ho9 => (conv => lhs; whnf; arg 1; whnf)
          case r11_hq9 => exact fun _ _ _ h => h
          case r11_hy9 => exact Or.inr ⟨by rfl, rfl⟩
          try simp only [Act.put, List.setIfInBounds_toArray, List.set_cons_zero, List.set_cons_succ]
          refine wpAnyH_take (i := 10) (oi := ?r11_o10) (v := undef) ?r11_ho10 (by kernel_rfl) (by kernel_rfl) (by kernel_rfl) ?r11_hq10 ?r11_hy10 (by assumption) ?_
          case r11_ho10 => (conv => lhs; whnf; arg 1; whnf)
          case r11_hq10 => exact fun _ _ _ h => h
          case r11_hy10 => exact Or.inr ⟨by rfl, rfl⟩
          try simp only [Act.put, List.setIfInBounds_toArray, List.set_cons_zero, List.set_cons_succ]
          refine wpAnyH_take (i := 11) (oi := ?r11_o11) (v := undef) ?r11_ho11 (by kernel_rfl) (by kernel_rfl) (by kernel_rfl) ?r11_hq11 ?r11_hy11 (by assumption) ?_
          case r11_ho11 => (conv => lhs; whnf; arg 1; whnf)
          case r11_hq11 => exact fun _ _ _ h => h
          case r11_hy11 => exact Or.inr ⟨by rfl, rfl⟩
          try simp only [Act.put, List.setIfInBounds_toArray, List.set_cons_zero, List.set_cons_succ]
          refine wpAnyH_take (i := 12) (oi := ?r11_o12) (v := undef) ?r11_ho12 (by kernel_rfl) (by kernel_rfl) (by kernel_rfl) ?r11_hq12 ?r11_hy12 (by assumption) ?_
          case r11_ho12 => (conv => lhs; whnf; arg 1; whnf)
          case r11_hq12 => exact fun _ _ _ h => h
          case r11_hy12 => exact Or.inr ⟨by rfl, rfl⟩
          try simp only [Act.put, List.setIfInBounds_toArray, List.set_cons_zero, List.set_cons_succ]
          refine wpAnyH_take (i := 13) (oi := ?r11_o13) (v := undef) ?r11_ho13 (by kernel_rfl) (by kernel_rfl) (by kernel_rfl) ?r11_hq13 ?r11_hy13 (by assumption) ?_
          case r11_ho13 => (conv => lhs; whnf; arg 1; whnf)
          case r11_hq13 => exact fun _ _ _ h => h
          case r11_hy13 => exact Or.inr ⟨by rfl, rfl⟩
          try simp only [Act.put, List.setIfInBounds_toArray, List.set_cons_zero, List.set_cons_succ]
          refine wpAnyH_take (i := 14) (oi := ?r11_o14) (v := undef) ?r11_ho14 (by kernel_rfl) (by kernel_rfl) (by kernel_rfl) ?r11_hq14 ?r11_hy14 (by assumption) ?_
          case r11_ho14 => (conv => lhs; whnf; arg 1; whnf)
          case r11_hq14 => exact fun _ _ _ h => h
          case r11_hy14 => exact Or.inr ⟨by rfl, rfl⟩
          try simp only [Act.put, List.setIfInBounds_toArray, List.set_cons_zero, List.set_cons_succ]
          refine wpAnyH_take (i := 15) (oi := ?r11_o15) (v := undef) ?r11_ho15 (by kernel_rfl) (by kernel_rfl) (by kernel_rfl) ?r11_hq15 ?r11_hy15 (by assumption) ?_
          case r11_ho15 => (conv => lhs; whnf; arg 1; whnf)
          case r11_hq15 => exact fun _ _ _ h => h
          case r11_hy15 => exact Or.inr ⟨by rfl, rfl⟩
          try simp only [Act.put, List.setIfInBounds_toArray, List.set_cons_zero, List.set_cons_succ]
          refine wpAnyH_take (i := 16) (oi := ?r11_o16) (v := undef) ?r11_ho16 (by kernel_rfl) (by kernel_rfl) (by kernel_rfl) ?r11_hq16 ?r11_hy16 (by assumption) ?_
          case r11_ho16 => (conv => lhs; whnf; arg 1; whnf)
          case r11_hq16 => exact fun _ _ _ h => h
          case r11_hy16 => exact Or.inr ⟨by rfl, rfl⟩
          try simp only [Act.put, List.setIfInBounds_toArray, List.set_cons_zero, List.set_cons_succ]
          refine wpAnyH_take (i := 17) (oi := ?r11_o17) (v := undef) ?r11_ho17 (by kernel_rfl) (by kernel_rfl) (by kernel_rfl) ?r11_hq17 ?r11_hy17 (by assumption) ?_
          case r11_ho17 => (conv => lhs; whnf; arg 1; whnf)
          case r11_hq17 => exact fun _ _ _ h => h
          case r11_hy17 => exact Or.inr ⟨by rfl, rfl⟩
          try simp only [Act.put, List.setIfInBounds_toArray, List.set_cons_zero, List.set_cons_succ]
          refine wpAnyH_take (i := 18) (oi := ?r11_o18) (v := undef) ?r11_ho18 (by kernel_rfl) (by kernel_rfl) (by kernel_rfl) ?r11_hq18 ?r11_hy18 (by assumption) ?_
          case r11_ho18 => (conv => lhs; whnf; arg 1; whnf)
          case r11_hq18 => exact fun _ _ _ h => h
          case r11_hy18 => exact Or.inr ⟨by rfl, rfl⟩
          try simp only [Act.put, List.setIfInBounds_toArray, List.set_cons_zero, List.set_cons_succ]
          refine wpAnyH_take (i := 19) (oi := ?r11_o19) (v := ?r11_v19) ?r11_ho19 (by kernel_rfl) (by kernel_rfl) (by kernel_rfl) ?r11_hq19 ?r11_hy19 (by assumption) ?_
          case r11_ho19 => (conv => lhs; whnf; arg 1; whnf)
          case r11_hq19 => exact fun _ _ _ h => h
          case r11_hy19 => (refine Or.inl ⟨by rfl, ?_⟩; intro w hSw; (try dsimp only at hSw); first | (go_simp; done) | (go_simp; with_reducible rfl))
          try simp only [Act.put, List.setIfInBounds_toArray, List.set_cons_zero, List.set_cons_succ]
          refine wpAnyH_take (i := 20) (oi := ?r11_o20) (v := ?r11_v20) ?r11_ho20 (by kernel_rfl) (by kernel_rfl) (by kernel_rfl) ?r11_hq20 ?r11_hy20 (by assumption) ?_
          case r11_ho20 => (conv => lhs; whnf; arg 1; whnf)
          case r11_hq20 => exact fun _ _ _ h => h
          case r11_hy20 => (refine Or.inl ⟨by rfl, ?_⟩; intro w hSw; (try dsimp only at hSw); first | (go_simp; done) | (go_simp; with_reducible rfl))
          try simp only [Act.put, List.setIfInBounds_toArray, List.set_cons_zero, List.set_cons_succ]
          refine wpAnyH_take (i := 21) (oi := ?r11_o21) (v := undef) ?r11_ho21 (by kernel_rfl) (by kernel_rfl) (by kernel_rfl) ?r11_hq21 ?r11_hy21 (by assumption) ?_
          case r11_ho21 => (conv => lhs; whnf; arg 1; whnf)
          case r11_hq21 => exact fun _ _ _ h => h
          case r11_hy21 => exact Or.inr ⟨by rfl, rfl⟩
          try simp only [Act.put, List.setIfInBounds_toArray, List.set_cons_zero, List.set_cons_succ]
          refine wpAnyH_take (i := 22) (oi := ?r11_o22) (v := undef) ?r11_ho22 (by kernel_rfl) (by kernel_rfl) (by kernel_rfl) ?r11_hq22 ?r11_hy22 (by assumption) ?_
          case r11_ho22 => (conv => lhs; whnf; arg 1; whnf)
          case r11_hq22 => exact fun _ _ _ h => h
          case r11_hy22 => exact Or.inr ⟨by rfl, rfl⟩
          try simp only [Act.put, List.setIfInBounds_toArray, List.set_cons_zero, List.set_cons_succ]
          refine wpAnyH_take (i := 23) (oi := ?r11_o23) (v := undef) ?r11_ho23 (by kernel_rfl) (by kernel_rfl) (by kernel_rfl) ?r11_hq23 ?r11_hy23 (by assumption) ?_
          case r11_ho23 => (conv => lhs; whnf; arg 1; whnf)
          case r11_hq23 => exact fun _ _ _ h => h
          case r11_hy23 => exact Or.inr ⟨by rfl, rfl⟩
          try simp only [Act.put, List.setIfInBounds_toArray, List.set_cons_zero, List.set_cons_succ]
          refine wpAnyH_take (i := 24) (oi := ?r11_o24) (v := undef) ?r11_ho24 (by kernel_rfl) (by kernel_rfl) (by kernel_rfl) ?r11_hq24 ?r11_hy24 (by assumption) ?_
          case r11_ho24 => (conv => lhs; whnf; arg 1; whnf)
          case r11_hq24 => exact fun _ _ _ h => h
          case r11_hy24 => exact Or.inr ⟨by rfl, rfl⟩
          try simp only [Act.put, List.setIfInBounds_toArray, List.set_cons_zero, List.set_cons_succ]
          refine wpAnyH_take (i := 25) (oi := ?r11_o25) (v := undef) ?r11_ho25 (by kernel_rfl) (by kernel_rfl) (by kernel_rfl) ?r11_hq25 ?r11_hy25 (by assumption) ?_
          case r11_ho25 => (conv => lhs; whnf; arg 1; whnf)
          case r11_hq25 => exact fun _ _ _ h => h
          case r11_hy25 => exact Or.inr ⟨by rfl, rfl⟩
          try simp only [Act.put, List.setIfInBounds_toArray, List.set_cons_zero, List.set_cons_succ]
          refine wpAnyH_take (i := 26) (oi := ?r11_o26) (v := undef) ?r11_ho26 (by kernel_rfl) (by kernel_rfl) (by kernel_rfl) ?r11_hq26 ?r11_hy26 (by assumption) ?_
          case r11_ho26 => (conv => lhs; whnf; arg 1; whnf)
          case r11_hq26 => exact fun _ _ _ h => h
          case r11_hy26 => exact Or.inr ⟨by rfl, rfl⟩
          try simp only [Act.put, List.setIfInBounds_toArray, List.set_cons_zero, List.set_cons_succ]
          refine wpAnyH_take (i := 27) (oi := ?r11_o27) (v := undef) ?r11_ho27 (by kernel_rfl) (by kernel_rfl) (by kernel_rfl) ?r11_hq27 ?r11_hy27 (by assumption) ?_
          case r11_ho27 => (conv => lhs; whnf; arg 1; whnf)
          case r11_hq27 => exact fun _ _ _ h => h
          case r11_hy27 => exact Or.inr ⟨by rfl, rfl⟩
          try simp only [Act.put, List.setIfInBounds_toArray, List.set_cons_zero, List.set_cons_succ]
          refine wpAnyH_take (i := 28) (oi := ?r11_o28) (v := undef) ?r11_ho28 (by kernel_rfl) (by kernel_rfl) (by kernel_rfl) ?r11_hq28 ?r11_hy28 (by assumption) ?_
          case r11_ho28 => (conv => lhs; whnf; arg 1; whnf)
          case r11_hq28 => exact fun _ _ _ h => h
          case r11_hy28 => exact Or.inr ⟨by rfl, rfl⟩
          try simp only [Act.put, List.setIfInBounds_toArray, List.set_cons_zero, List.set_cons_succ]
          refine wpAnyH_take (i := 29) (oi := ?r11_o29) (v := ?r11_v29) ?r11_ho29 (by kernel_rfl) (by kernel_rfl) (by kernel_rfl) ?r11_hq29 ?r11_hy29 (by assumption) ?_
          case r11_ho29 => (conv => lhs; whnf; arg 1; whnf)
          case r11_hq29 => exact fun _ _ _ h => h
          case r11_hy29 => (refine Or.inl ⟨by rfl, ?_⟩; intro w hSw; (try dsimp only at hSw); first | (go_simp; done) | (go_simp; with_reducible rfl))
          try simp only [Act.put, List.setIfInBounds_toArray, List.set_cons_zero, List.set_cons_succ]
          refine wpAnyH_take (i := 30) (oi := ?r11_o30) (v := ?r11_v30) ?r11_ho30 (by kernel_rfl) (by kernel_rfl) (by kernel_rfl) ?r11_hq30 ?r11_hy30 (by assumption) ?_
          case r11_ho30 => (conv => lhs; whnf; arg 1; whnf)
          case r11_hq30 => exact fun _ _ _ h => h
          case r11_hy30 => (refine Or.inl ⟨by rfl, ?_⟩; intro w hSw; (try dsimp only at hSw); first | (go_simp; done) | (go_simp; with_reducible rfl))
          try simp only [Act.put, List.setIfInBounds_toArray, List.set_cons_zero, List.set_cons_succ]
          refine wpAnyH_done (by kernel_rfl) ?_ _
          go_wp2
          go_ret
          exact ⟨rfl, (E0.out.trans HX3.out).drew⟩
        rw [hm] at CF0 hq
        have hin := getElem?_lt hfi
        obtain ⟨b2, o2, f', rfl, hb2, hfi', k0, k1, k2, k3, k4⟩ := HF.out.frame hin
        have e : f = f' := by rw [hfi] at hfi'; injection hfi'
        subst e
        have HB2 := Lib.hid hb2
        have K3 := Lib.hid k3
        have HIFF : Hid (LineFits m ⟨xv, xt, xp, xf, xr, xw⟩ ↔ (i : Int) = xf ∧ f.rights = xr ∧ (xw = true → xt = -1)) := Lib.hid (by
          constructor
          · rintro ⟨_, _, ⟨i', f', h1, h2, h3, h4⟩, h5⟩
            have e : i' = i := by rw [hq] at h1; omega
            subst e
            rw [hfi] at h3
            injection h3 with h3
            rw [h3]
            exact ⟨h2, h4, h5⟩
          · rintro ⟨h1, h2, h3⟩
            exact ⟨HT1.out, HT2.out, ⟨i, f, hq, h1, hfi, h2⟩, h3⟩)
        clear hb2 k0 k1 k2 k3 k4 hq hm hfi hfi' CF CK
        generalize m.table.frames.length = n at CF0 hin ⊢
        generalize m.table.buckets.length = nb at CF0 ⊢
        have hi0 : (0 : Int) ≤ (i : Int) := by omega
        by_cases hfr : (i : Int) = xf
        rotate_left
        · rw [lineFitsB_no (fun h => hfr (HIFF.out.1 h).1)]
          have hbb : ((i : Int) == xf) = false := by simpa using hfr
          go_enter Tryd.func25, Tryd.ntmps25
          go_wp2_with fail
          refine (CT.out _ ((HO.out.alloc _).alloc _)).mono ?_
          rintro r w0 ⟨rfl, he⟩
          obtain ⟨gm, hgm⟩ : ∃ gm : Nat, gm = w.heap.size := ⟨_, rfl⟩
          obtain ⟨gl, hgl⟩ : ∃ gl : Nat, gl = w.heap.size + 1 := ⟨_, rfl⟩
          have K0 : Hid (Blk w0 gm 46 [.slice A nb c, .slice (some ⟨b2, o2, none⟩) n d, .slice L nl e, .int .i64 m.cache.hand, .int .i64 m.tags.count, .int .i64 m.tags.next, .int .i64 m.tags.round, .slice O no g, .int .i64 m.space]) := Lib.hid (by rw [hgm]; exact ((Blk.new w _ _).alloc _).ex he)
          have K1 : Hid (Blk w0 gl 74 [.bool xv, .int .i64 xt, .int .i64 xp, .int .i64 xf, .int .i64 xr, .bool xw]) := Lib.hid (by rw [hgl]; exact (Blk.new_at _ _ _ (by simp)).ex he)
          have E0 : Hid (Ex w w0) := Lib.hid (((Ex.refl w).alloc _).alloc _ |>.trans he)
          clear he
          rw [← hgl]
          rw [← hgm]
          clear hgm hgl
          go_wp2_with fail
          have FK9 : Hid (∀ w', Ex w0 w' → (w'.cell? ⟨gm, 0, none⟩ = some (.slice A nb c) ∧ w'.cell? ⟨gm, 1, none⟩ = some (.slice (some ⟨b2, o2, none⟩) n d) ∧ w'.cell? ⟨gl, 2, none⟩ = some (.int .i64 xp))) := Lib.hid (fun w' h => ⟨(K0.out.ex h).c9.1, (K0.out.ex h).c9.2.1, (K1.out.ex h).c6.2.2.1⟩)
          refine wp_region_held_drew (S := (fun w' => (w'.cell? ⟨gm, 0, none⟩ = some (.slice A nb c) ∧ w'.cell? ⟨gm, 1, none⟩ = some (.slice (some ⟨b2, o2, none⟩) n d) ∧ w'.cell? ⟨gl, 2, none⟩ = some (.int .i64 xp)))) (by kernel_rfl) ?r12_hS0 (fun hHeld => ?_)
          case r12_hS0 => exact FK9.out _ (Ex.refl _).drew
          refine wpAnyH_take (i := 0) (oi := ?r12_o0) (v := ?r12_v0) ?r12_ho0 (by kernel_rfl) (by kernel_rfl) (by kernel_rfl) ?r12_hq0 ?r12_hy0 (by assumption) ?_
          case r12_ho0 => (conv => lhs; whnf; arg 1; whnf)
          case r12_hq0 => exact fun _ _ _ h => h
          case r12_hy0 => (refine Or.inl ⟨by rfl, ?_⟩; intro w hSw; (try dsimp only at hSw); first | (go_simp; done) | (go_simp; with_reducible rfl))
          try simp only [Act.put, List.setIfInBounds_toArray, List.set_cons_zero, List.set_cons_succ]
          refine wpAnyH_take (i := 1) (oi := ?r12_o1) (v := ?r12_v1) ?r12_ho1 (by kernel_rfl) (by kernel_rfl) (by kernel_rfl) ?r12_hq1 ?r12_hy1 (by assumption) ?_
          case r12_ho1 => (conv => lhs; whnf; arg 1; whnf)
          case r12_hq1 => exact fun _ _ _ h => h
          case r12_hy1 => (refine Or.inl ⟨by rfl, ?_⟩; intro w hSw; (try dsimp only at hSw); first | (go_simp; done) | (go_simp; with_reducible rfl))
          try simp only [Act.put, List.setIfInBounds_toArray, List.set_cons_zero, List.set_cons_succ]
          refine wpAnyH_take (i := 2) (oi := ?r12_o2) (v := ?r12_v2) ?r12_ho2 (by kernel_rfl) (by kernel_rfl) (by kernel_rfl) ?r12_hq2 ?r12_hy2 (by assumption) ?_
          case r12_ho2 => (conv => lhs; whnf; arg 1; whnf)
          case r12_hq2 => exact fun _ _ _ h => h
          case r12_hy2 => (refine Or.inl ⟨by rfl, ?_⟩; intro w hSw; (try dsimp only at hSw); first | (go_simp; done) | (go_simp; with_reducible rfl))
          try simp only [Act.put, List.setIfInBounds_toArray, List.set_cons_zero, List.set_cons_succ]
          refine wpAnyH_take (i := 3) (oi := ?r12_o3) (v := ?r12_v3) ?r12_ho3 (by kernel_rfl) (by kernel_rfl) (by kernel_rfl) ?r12_hq3 ?r12_hy3 (by assumption) ?_
          case r12_ho3 => (conv => lhs; whnf; arg 1; whnf)
          case r12_hq3 => exact fun _ _ _ h => h
          case r12_hy3 => (refine Or.inl ⟨by rfl, ?_⟩; intro w hSw; (try dsimp only at hSw); first | (go_simp; done) | (go_simp; with_reducible rfl))
          try simp only [Act.put, List.setIfInBounds_toArray, List.set_cons_zero, List.set_cons_succ]
          refine wpAnyH_take (i := 4) (oi := ?r12_o4) (v := ?r12_v4) ?r12_ho4 (by kernel_rfl) (by kernel_rfl) (by kernel_rfl) ?r12_hq4 ?r12_hy4 (by assumption) ?_
          case r12_ho4 => (conv => lhs; whnf; arg 1; whnf)
          case r12_hq4 => exact fun _ _ _ h => h
          case r12_hy4 => (refine Or.inl ⟨by rfl, ?_⟩; intro w hSw; (try dsimp only at hSw); first | (go_simp; done) | (go_simp; with_reducible rfl))
          try simp only [Act.put, List.setIfInBounds_toArray, List.set_cons_zero, List.set_cons_succ]
          refine wpAnyH_ready (rs := [5]) (by kernel_rfl) (by simp) ?_
          refine AllReadyH.cons (o := ?r12_o5) ?r12_ho5 (fun K hK => ?_) AllReadyH.nil
          case r12_ho5 => (conv => lhs; whnf; arg 1; whnf)
          refine step_call_gu rfl CEK.out _ _ rfl #[.int .i64 sp, .int .i64 xp] rfl (CK0.out _) ?_; rintro r wa ⟨rfl, hwa⟩; refine ⟨_, rfl, ?_⟩; have hxa := Ex.trans (Ex.refl _).drew hwa
          refine hK.out _ _ ?r12_hS5 (fun hHeld5 => ?_)
          case r12_hS5 => exact FK9.out _ hxa
          clear hK K hHeld
          try simp only [Act.put, List.setIfInBounds_toArray, List.set_cons_zero, List.set_cons_succ]
          refine wpAnyH_ready (rs := [6]) (by kernel_rfl) (by simp) ?_
          refine AllReadyH.cons (o := ?r12_o6) ?r12_ho6 (fun K hK => ?_) AllReadyH.nil
          case r12_ho6 => (conv => lhs; whnf; arg 1; whnf)
          refine step_call_gu rfl CEF.out _ _ rfl #[.agg #[.slice A nb c, .slice (some ⟨b2, o2, none⟩) n d], .agg #[.int .i64 kk.space, .int .i64 kk.page]] rfl (CF0.out _ (HB.out.ex (E0.out.trans hxa)) (HF.out.ex (E0.out.trans hxa))) ?_; rintro r w3 ⟨⟨s2, rfl⟩, he⟩; refine ⟨_, rfl, ?_⟩; have hx3 := Ex.trans hxa he
          refine hK.out _ _ ?r12_hS6 (fun hHeld6 => ?_)
          case r12_hS6 => exact FK9.out _ hx3
          clear hK K hHeld5
          try simp only [Act.put, List.setIfInBounds_toArray, List.set_cons_zero, List.set_cons_succ]
          refine wpAnyH_take (i := 7) (oi := ?r12_o7) (v := ?r12_v7) ?r12_ho7 (by kernel_rfl) (by kernel_rfl) (by kernel_rfl) ?r12_hq7 ?r12_hy7 (by assumption) ?_
          case r12_ho7 => (conv => lhs; whnf; arg 1; whnf)
          case r12_hq7 => exact fun _ _ _ h => h
          case r12_hy7 => (refine Or.inl ⟨by rfl, ?_⟩; intro w hSw; (try dsimp only at hSw); first | (go_simp; done) | (go_simp; with_reducible rfl))
          try simp only [Act.put, List.setIfInBounds_toArray, List.set_cons_zero, List.set_cons_succ]
          refine wpAnyH_take (i := 8) (oi := ?r12_o8) (v := ?r12_v8) ?r12_ho8 (by kernel_rfl) (by kernel_rfl) (by kernel_rfl) ?r12_hq8 ?r12_hy8 (by assumption) ?_
          case r12_ho8 => (conv => lhs; whnf; arg 1; whnf)
          case r12_hq8 => exact fun _ _ _ h => h
          case r12_hy8 => (refine Or.inl ⟨by rfl, ?_⟩; intro w hSw; (try dsimp only at hSw); first | (go_simp; done) | (go_simp; with_reducible rfl))
          try simp only [Act.put, List.setIfInBounds_toArray, List.set_cons_zero, List.set_cons_succ]
          refine wpAnyH_take (i := 9) (oi := ?r12_o9) (v := ?r12_v9) ?r12_ho9 (by kernel_rfl) (by kernel_rfl) (by kernel_rfl) ?r12_hq9 ?r12_hy9 (by assumption) ?_
          case r12_ho9 => (conv => lhs; whnf; arg 1; whnf)
          case r12_hq9 => exact fun _ _ _ h => h
          case r12_hy9 => (refine Or.inl ⟨by rfl, ?_⟩; intro w hSw; (try dsimp only at hSw); first | (go_simp; done) | (go_simp; with_reducible rfl))
          try simp only [Act.put, List.setIfInBounds_toArray, List.set_cons_zero, List.set_cons_succ]
          refine wpAnyH_take (i := 10) (oi := ?r12_o10) (v := ?r12_v10) ?r12_ho10 (by kernel_rfl) (by kernel_rfl) (by kernel_rfl) ?r12_hq10 ?r12_hy10 (by assumption) ?_
          case r12_ho10 => (conv => lhs; whnf; arg 1; whnf)
          case r12_hq10 => exact fun _ _ _ h => h
          case r12_hy10 => (refine Or.inl ⟨by rfl, ?_⟩; intro w hSw; (try dsimp only at hSw); first | (go_simp; done) | (go_simp; with_reducible rfl))
          try simp only [Act.put, List.setIfInBounds_toArray, List.set_cons_zero, List.set_cons_succ]
          refine wpAnyH_take (i := 11) (oi := ?r12_o11) (v := ?r12_v11) ?r12_ho11 (by kernel_rfl) (by kernel_rfl) (by kernel_rfl) ?r12_hq11 ?r12_hy11 (by assumption) ?_
          case r12_ho11 => (conv => lhs; whnf; arg 1; whnf)
          case r12_hq11 => exact fun _ _ _ h => h
          case r12_hy11 => (refine Or.inl ⟨by rfl, ?_⟩; intro w hSw; (try dsimp only at hSw); first | (go_simp; done) | (go_simp; with_reducible rfl))
          try simp only [Act.put, List.setIfInBounds_toArray, List.set_cons_zero, List.set_cons_succ]
          refine wpAnyH_done (by kernel_rfl) ?_ _
          have HX3 := Lib.hid hx3
          clear hx3 hxa he hwa
          go_wp2_with fail
          have FK10 : Hid (∀ w', Ex w3 w' → (w'.cell? ⟨gl, 3, none⟩ = some (.int .i64 xf))) := Lib.hid (fun w' h => (K1.out.ex (HX3.out.trans h)).c6.2.2.2.1)
          refine wp_region_held_drew (S := (fun w' => (w'.cell? ⟨gl, 3, none⟩ = some (.int .i64 xf)))) (by kernel_rfl) ?r13_hS0 (fun hHeld => ?_)
          case r13_hS0 => exact FK10.out _ (Ex.refl _).drew
          refine wpAnyH_take (i := 0) (oi := ?r13_o0) (v := ?r13_v0) ?r13_ho0 (by kernel_rfl) (by kernel_rfl) (by kernel_rfl) ?r13_hq0 ?r13_hy0 (by assumption) ?_
          case r13_ho0 => (conv => lhs; whnf; arg 1; whnf)
          case r13_hq0 => exact fun _ _ _ h => h
          case r13_hy0 => (refine Or.inl ⟨by rfl, ?_⟩; intro w hSw; (try dsimp only at hSw); first | (go_simp; done) | (go_simp; with_reducible rfl))
          try simp only [Act.put, List.setIfInBounds_toArray, List.set_cons_zero, List.set_cons_succ]
          refine wpAnyH_take (i := 1) (oi := ?r13_o1) (v := ?r13_v1) ?r13_ho1 (by kernel_rfl) (by kernel_rfl) (by kernel_rfl) ?r13_hq1 ?r13_hy1 (by assumption) ?_
          case r13_ho1 => (conv => lhs; whnf; arg 1; whnf)
          case r13_hq1 => exact fun _ _ _ h => h
          case r13_hy1 => (refine Or.inl ⟨by rfl, ?_⟩; intro w hSw; (try dsimp only at hSw); first | (go_simp; done) | (go_simp; with_reducible rfl))
          try simp only [Act.put, List.setIfInBounds_toArray, List.set_cons_zero, List.set_cons_succ]
          refine wpAnyH_take (i := 2) (oi := ?r13_o2) (v := ?r13_v2) ?r13_ho2 (by kernel_rfl) (by kernel_rfl) (by kernel_rfl) ?r13_hq2 ?r13_hy2 (by assumption) ?_
          case r13_ho2 => (conv => lhs; whnf; arg 1; whnf)
          case r13_hq2 => exact fun _ _ _ h => h
          case r13_hy2 => (refine Or.inl ⟨by rfl, ?_⟩; intro w hSw; (try dsimp only at hSw); first | (go_simp; done) | (go_simp; with_reducible rfl))
          try simp only [Act.put, List.setIfInBounds_toArray, List.set_cons_zero, List.set_cons_succ]
          refine wpAnyH_take (i := 3) (oi := ?r13_o3) (v := ?r13_v3) ?r13_ho3 (by kernel_rfl) (by kernel_rfl) (by kernel_rfl) ?r13_hq3 ?r13_hy3 (by assumption) ?_
          case r13_ho3 => (conv => lhs; whnf; arg 1; whnf)
          case r13_hq3 => exact fun _ _ _ h => h
          case r13_hy3 => (refine Or.inl ⟨by rfl, ?_⟩; intro w hSw; (try dsimp only at hSw); first | (go_simp; done) | (go_simp; with_reducible rfl))
          try simp only [Act.put, List.setIfInBounds_toArray, List.set_cons_zero, List.set_cons_succ]
          refine wpAnyH_take (i := 4) (oi := ?r13_o4) (v := ?r13_v4) ?r13_ho4 (by kernel_rfl) (by kernel_rfl) (by kernel_rfl) ?r13_hq4 ?r13_hy4 (by assumption) ?_
          case r13_ho4 => (conv => lhs; whnf; arg 1; whnf)
          case r13_hq4 => exact fun _ _ _ h => h
          case r13_hy4 => (refine Or.inl ⟨by rfl, ?_⟩; intro w hSw; (try dsimp only at hSw); first | (go_simp; done) | (go_simp; with_reducible rfl))
          try simp only [Act.put, List.setIfInBounds_toArray, List.set_cons_zero, List.set_cons_succ]
          refine wpAnyH_take (i := 5) (oi := ?r13_o5) (v := ?r13_v5) ?r13_ho5 (by kernel_rfl) (by kernel_rfl) (by kernel_rfl) ?r13_hq5 ?r13_hy5 (by assumption) ?_
          case r13_ho5 => (conv => lhs; whnf; arg 1; whnf)
          case r13_hq5 => exact fun _ _ _ h => h
          case r13_hy5 => (refine Or.inl ⟨by rfl, ?_⟩; intro w hSw; (try dsimp only at hSw); first | (go_simp; done) | (go_simp; with_reducible rfl))
          try simp only [Act.put, List.setIfInBounds_toArray, List.set_cons_zero, List.set_cons_succ]
          refine wpAnyH_take (i := 6) (oi := ?r13_o6) (v := ?r13_v6) ?r13_ho6 (by kernel_rfl) (by kernel_rfl) (by kernel_rfl) ?r13_hq6 ?r13_hy6 (by assumption) ?_
          case r13_ho6 => (conv => lhs; whnf; arg 1; whnf)
          case r13_hq6 => exact fun _ _ _ h => h
          case r13_hy6 => (refine Or.inl ⟨by rfl, ?_⟩; intro w hSw; (try dsimp only at hSw); first | (go_simp; done) | (go_simp; with_reducible rfl))
          try simp only [Act.put, List.setIfInBounds_toArray, List.set_cons_zero, List.set_cons_succ]
          refine wpAnyH_take (i := 7) (oi := ?r13_o7) (v := ?r13_v7) ?r13_ho7 (by kernel_rfl) (by kernel_rfl) (by kernel_rfl) ?r13_hq7 ?r13_hy7 (by assumption) ?_
          case r13_ho7 => (conv => lhs; whnf; arg 1; whnf)
          case r13_hq7 => exact fun _ _ _ h => h
          case r13_hy7 => (refine Or.inl ⟨by rfl, ?_⟩; intro w hSw; (try dsimp only at hSw); first | (go_simp; done) | (go_simp; with_reducible rfl))
          try simp only [Act.put, List.setIfInBounds_toArray, List.set_cons_zero, List.set_cons_succ]
          refine wpAnyH_take (i := 8) (oi := ?r13_o8) (v := ?r13_v8) ?r13_ho8 (by kernel_rfl) (by kernel_rfl) (by kernel_rfl) ?r13_hq8 ?r13_hy8 (by assumption) ?_
          case r13_ho8 => (conv => lhs; whnf; arg 1; whnf)
          case r13_hq8 => exact fun _ _ _ h => h
          case r13_hy8 => (refine Or.inl ⟨by rfl, ?_⟩; intro w hSw; (try dsimp only at hSw); first | (go_simp; done) | (go_simp; with_reducible rfl))
          try simp only [Act.put, List.setIfInBounds_toArray, List.set_cons_zero, List.set_cons_succ]
          refine wpAnyH_take (i := 9) (oi := ?r13_o9) (v := undef) ?r13_ho9 (by kernel_rfl) (by kernel_rfl) (by kernel_rfl) ?r13_hq9 ?r13_hy9 (by assumption) ?_
          case r13_ho9 => (conv => lhs; whnf; arg 1; whnf)
          case r13_hq9 => exact fun _ _ _ h => h
          case r13_hy9 => exact Or.inr ⟨by rfl, rfl⟩
          try simp only [Act.put, List.setIfInBounds_toArray, List.set_cons_zero, List.set_cons_succ]
          refine wpAnyH_take (i := 10) (oi := ?r13_o10) (v := undef) ?r13_ho10 (by kernel_rfl) (by kernel_rfl) (by kernel_rfl) ?r13_hq10 ?r13_hy10 (by assumption) ?_
          case r13_ho10 => (conv => lhs; whnf; arg 1; whnf)
          case r13_hq10 => exact fun _ _ _ h => h
          case r13_hy10 => exact Or.inr ⟨by rfl, rfl⟩
          try simp only [Act.put, List.setIfInBounds_toArray, List.set_cons_zero, List.set_cons_succ]
          refine wpAnyH_take (i := 11) (oi := ?r13_o11) (v := undef) ?r13_ho11 (by kernel_rfl) (by kernel_rfl) (by kernel_rfl) ?r13_hq11 ?r13_hy11 (by assumption) ?_
          case r13_ho11 => (conv => lhs; whnf; arg 1; whnf)
          case r13_hq11 => exact fun _ _ _ h => h
          case r13_hy11 => exact Or.inr ⟨by rfl, rfl⟩
          try simp only [Act.put, List.setIfInBounds_toArray, List.set_cons_zero, List.set_cons_succ]
          refine wpAnyH_take (i := 12) (oi := ?r13_o12) (v := undef) ?r13_ho12 (by kernel_rfl) (by kernel_rfl) (by kernel_rfl) ?r13_hq12 ?r13_hy12 (by assumption) ?_
          case r13_ho12 => (conv => lhs; whnf; arg 1; whnf)
          case r13_hq12 => exact fun _ _ _ h => h
          case r13_hy12 => exact Or.inr ⟨by rfl, rfl⟩
          try simp only [Act.put, List.setIfInBounds_toArray, List.set_cons_zero, List.set_cons_succ]
          refine wpAnyH_take (i := 13) (oi := ?r13_o13) (v := undef) ?r13_ho13 (by kernel_rfl) (by kernel_rfl) (by kernel_rfl) ?r13_hq13 ?r13_hy13 (by assumption) ?_
          case r13_ho13 => (conv => lhs; whnf; arg 1; whnf)
          case r13_hq13 => exact fun _ _ _ h => h
          case r13_hy13 => exact Or.inr ⟨by rfl, rfl⟩
          try simp only [Act.put, List.setIfInBounds_toArray, List.set_cons_zero, List.set_cons_succ]
          refine wpAnyH_take (i := 14) (oi := ?r13_o14) (v := undef) ?r13_ho14 (by kernel_rfl) (by kernel_rfl) (by kernel_rfl) ?r13_hq14 ?r13_hy14 (by assumption) ?_
          case r13_ho14 => (conv => lhs; whnf; arg 1; whnf)
          case r13_hq14 => exact fun _ _ _ h => h
          case r13_hy14 => exact Or.inr ⟨by rfl, rfl⟩
          try simp only [Act.put, List.setIfInBounds_toArray, List.set_cons_zero, List.set_cons_succ]
          refine wpAnyH_take (i := 15) (oi := ?r13_o15) (v := undef) ?r13_ho15 (by kernel_rfl) (by kernel_rfl) (by kernel_rfl) ?r13_hq15 ?r13_hy15 (by assumption) ?_
          case r13_ho15 => (conv => lhs; whnf; arg 1; whnf)
          case r13_hq15 => exact fun _ _ _ h => h
          case r13_hy15 => exact Or.inr ⟨by rfl, rfl⟩
          try simp only [Act.put, List.setIfInBounds_toArray, List.set_cons_zero, List.set_cons_succ]
          refine wpAnyH_take (i := 16) (oi := ?r13_o16) (v := undef) ?r13_ho16 (by kernel_rfl) (by kernel_rfl) (by kernel_rfl) ?r13_hq16 ?r13_hy16 (by assumption) ?_
          case r13_ho16 => (conv => lhs; whnf; arg 1; whnf)
          case r13_hq16 => exact fun _ _ _ h => h
          case r13_hy16 => exact Or.inr ⟨by rfl, rfl⟩
          try simp only [Act.put, List.setIfInBounds_toArray, List.set_cons_zero, List.set_cons_succ]
          refine wpAnyH_take (i := 17) (oi := ?r13_o17) (v := undef) ?r13_ho17 (by kernel_rfl) (by kernel_rfl) (by kernel_rfl) ?r13_hq17 ?r13_hy17 (by assumption) ?_
          case r13_ho17 => (conv => lhs; whnf; arg 1; whnf)
          case r13_hq17 => exact fun _ _ _ h => h
          case r13_hy17 => exact Or.inr ⟨by rfl, rfl⟩
          try simp only [Act.put, List.setIfInBounds_toArray, List.set_cons_zero, List.set_cons_succ]
          refine wpAnyH_take (i := 18) (oi := ?r13_o18) (v := undef) ?r13_ho18 (by kernel_rfl) (by kernel_rfl) (by kernel_rfl) ?r13_hq18 ?r13_hy18 (by assumption) ?_
          case r13_ho18 => (conv => lhs; whnf; arg 1; whnf)
          case r13_hq18 => exact fun _ _ _ h => h
          case r13_hy18 => exact Or.inr ⟨by rfl, rfl⟩
          try simp only [Act.put, List.setIfInBounds_toArray, List.set_cons_zero, List.set_cons_succ]
          refine wpAnyH_take (i := 19) (oi := ?r13_o19) (v := ?r13_v19) ?r13_ho19 (by kernel_rfl) (by kernel_rfl) (by kernel_rfl) ?r13_hq19 ?r13_hy19 (by assumption) ?_
          case r13_ho19 => (conv => lhs; whnf; arg 1; whnf)
          case r13_hq19 => exact fun _ _ _ h => h
          case r13_hy19 => (refine Or.inl ⟨by rfl, ?_⟩; intro w hSw; (try dsimp only at hSw); first | (go_simp; done) | (go_simp; with_reducible rfl))
          try simp only [Act.put, List.setIfInBounds_toArray, List.set_cons_zero, List.set_cons_succ]
          refine wpAnyH_take (i := 20) (oi := ?r13_o20) (v := ?r13_v20) ?r13_ho20 (by kernel_rfl) (by kernel_rfl) (by kernel_rfl) ?r13_hq20 ?r13_hy20 (by assumption) ?_
          case r13_ho20 => (conv => lhs; whnf; arg 1; whnf)
          case r13_hq20 => exact fun _ _ _ h => h
          case r13_hy20 => (refine Or.inl ⟨by rfl, ?_⟩; intro w hSw; (try dsimp only at hSw); first | (go_simp; done) | (go_simp; with_reducible rfl))
          try simp only [Act.put, List.setIfInBounds_toArray, List.set_cons_zero, List.set_cons_succ]
          refine wpAnyH_take (i := 21) (oi := ?r13_o21) (v := undef) ?r13_ho21 (by kernel_rfl) (by kernel_rfl) (by kernel_rfl) ?r13_hq21 ?r13_hy21 (by assumption) ?_
          case r13_ho21 => (conv => lhs; whnf; arg 1; whnf)
          case r13_hq21 => exact fun _ _ _ h => h
          case r13_hy21 => exact Or.inr ⟨by rfl, rfl⟩
          try simp only [Act.put, List.setIfInBounds_toArray, List.set_cons_zero, List.set_cons_succ]
          refine wpAnyH_take (i := 22) (oi := ?r13_o22) (v := undef) ?r13_ho22 (by kernel_rfl) (by kernel_rfl) (by kernel_rfl) ?r13_hq22 ?r13_hy22 (by assumption) ?_
          case r13_ho22 => (conv => lhs; whnf; arg 1; whnf)
          case r13_hq22 => exact fun _ _ _ h => h
          case r13_hy22 => exact Or.inr ⟨by rfl, rfl⟩
          try simp only [Act.put, List.setIfInBounds_toArray, List.set_cons_zero, List.set_cons_succ]
          refine wpAnyH_take (i := 23) (oi := ?r13_o23) (v := undef) ?r13_ho23 (by kernel_rfl) (by kernel_rfl) (by kernel_rfl) ?r13_hq23 ?r13_hy23 (by assumption) ?_
          case r13_ho23 => (conv => lhs; whnf; arg 1; whnf)
          case r13_hq23 => exact fun _ _ _ h => h
          case r13_hy23 => exact Or.inr ⟨by rfl, rfl⟩
          try simp only [Act.put, List.setIfInBounds_toArray, List.set_cons_zero, List.set_cons_succ]
          refine wpAnyH_take (i := 24) (oi := ?r13_o24) (v := undef) ?r13_ho24 (by kernel_rfl) (by kernel_rfl) (by kernel_rfl) ?r13_hq24 ?r13_hy24 (by assumption) ?_
          case r13_ho24 => (conv => lhs; whnf; arg 1; whnf)
          case r13_hq24 => exact fun _ _ _ h => h
          case r13_hy24 => exact Or.inr ⟨by rfl, rfl⟩
          try simp only [Act.put, List.setIfInBounds_toArray, List.set_cons_zero, List.set_cons_succ]
          refine wpAnyH_take (i := 25) (oi := ?r13_o25) (v := undef) ?r13_ho25 (by kernel_rfl) (by kernel_rfl) (by kernel_rfl) ?r13_hq25 ?r13_hy25 (by assumption) ?_
          case r13_ho25 => (conv => lhs; whnf; arg 1; whnf)
          case r13_hq25 => exact fun _ _ _ h => h
          case r13_hy25 => exact Or.inr ⟨by rfl, rfl⟩
          try simp only [Act.put, List.setIfInBounds_toArray, List.set_cons_zero, List.set_cons_succ]
          refine wpAnyH_take (i := 26) (oi := ?r13_o26) (v := undef) ?r13_ho26 (by kernel_rfl) (by kernel_rfl) (by kernel_rfl) ?r13_hq26 ?r13_hy26 (by assumption) ?_
          case r13_ho26 => (conv => lhs; whnf; arg 1; whnf)
          case r13_hq26 => exact fun _ _ _ h => h
          case r13_hy26 => exact Or.inr ⟨by rfl, rfl⟩
          try simp only [Act.put, List.setIfInBounds_toArray, List.set_cons_zero, List.set_cons_succ]
          refine wpAnyH_take (i := 27) (oi := ?r13_o27) (v := undef) ?r13_ho27 (by kernel_rfl) (by kernel_rfl) (by kernel_rfl) ?r13_hq27 ?r13_hy27 (by assumption) ?_
          case r13_ho27 => (conv => lhs; whnf; arg 1; whnf)
          case r13_hq27 => exact fun _ _ _ h => h
          case r13_hy27 => exact Or.inr ⟨by rfl, rfl⟩
          try simp only [Act.put, List.setIfInBounds_toArray, List.set_cons_zero, List.set_cons_succ]
          refine wpAnyH_take (i := 28) (oi := ?r13_o28) (v := undef) ?r13_ho28 (by kernel_rfl) (by kernel_rfl) (by kernel_rfl) ?r13_hq28 ?r13_hy28 (by assumption) ?_
          case r13_ho28 => (conv => lhs; whnf; arg 1; whnf)
          case r13_hq28 => exact fun _ _ _ h => h
          case r13_hy28 => exact Or.inr ⟨by rfl, rfl⟩
          try simp only [Act.put, List.setIfInBounds_toArray, List.set_cons_zero, List.set_cons_succ]
          refine wpAnyH_take (i := 29) (oi := ?r13_o29) (v := ?r13_v29) ?r13_ho29 (by kernel_rfl) (by kernel_rfl) (by kernel_rfl) ?r13_hq29 ?r13_hy29 (by assumption) ?_
          case r13_ho29 => (conv => lhs; whnf; arg 1; whnf)
          case r13_hq29 => exact fun _ _ _ h => h
          case r13_hy29 => (refine Or.inl ⟨by rfl, ?_⟩; intro w hSw; (try dsimp only at hSw); first | (go_simp; done) | (go_simp; with_reducible rfl))
          try simp only [Act.put, List.setIfInBounds_toArray, List.set_cons_zero, List.set_cons_succ]
          refine wpAnyH_take (i := 30) (oi := ?r13_o30) (v := ?r13_v30) ?r13_ho30 (by kernel_rfl) (by kernel_rfl) (by kernel_rfl) ?r13_hq30 ?r13_hy30 (by assumption) ?_
          case r13_ho30 => (conv => lhs; whnf; arg 1; whnf)
          case r13_hq30 => exact fun _ _ _ h => h
          case r13_hy30 => (refine Or.inl ⟨by rfl, ?_⟩; intro w hSw; (try dsimp only at hSw); first | (go_simp; done) | (go_simp; with_reducible rfl))
          try simp only [Act.put, List.setIfInBounds_toArray, List.set_cons_zero, List.set_cons_succ]
          refine wpAnyH_done (by kernel_rfl) ?_ _
          go_wp2
          go_ret
          exact ⟨rfl, (E0.out.trans HX3.out).drew⟩
        by_cases hr : f.rights = xr
        rotate_left
        · rw [lineFitsB_no (fun h => hr (HIFF.out.1 h).2.1)]
          have hbb : (f.rights == xr) = false := by simpa using hr
          clear HIFF
          subst hfr
          go_enter Tryd.func25, Tryd.ntmps25
          go_wp2_with fail
          refine (CT.out _ ((HO.out.alloc _).alloc _)).mono ?_
          rintro r w0 ⟨rfl, he⟩
          obtain ⟨gm, hgm⟩ : ∃ gm : Nat, gm = w.heap.size := ⟨_, rfl⟩
          obtain ⟨gl, hgl⟩ : ∃ gl : Nat, gl = w.heap.size + 1 := ⟨_, rfl⟩
          have K0 : Hid (Blk w0 gm 46 [.slice A nb c, .slice (some ⟨b2, o2, none⟩) n d, .slice L nl e, .int .i64 m.cache.hand, .int .i64 m.tags.count, .int .i64 m.tags.next, .int .i64 m.tags.round, .slice O no g, .int .i64 m.space]) := Lib.hid (by rw [hgm]; exact ((Blk.new w _ _).alloc _).ex he)
          have K1 : Hid (Blk w0 gl 74 [.bool xv, .int .i64 xt, .int .i64 xp, .int .i64 (i : Int), .int .i64 xr, .bool xw]) := Lib.hid (by rw [hgl]; exact (Blk.new_at _ _ _ (by simp)).ex he)
          have E0 : Hid (Ex w w0) := Lib.hid (((Ex.refl w).alloc _).alloc _ |>.trans he)
          clear he
          rw [← hgl]
          rw [← hgm]
          clear hgm hgl
          go_wp2_with fail
          have FK9 : Hid (∀ w', Ex w0 w' → (w'.cell? ⟨gm, 0, none⟩ = some (.slice A nb c) ∧ w'.cell? ⟨gm, 1, none⟩ = some (.slice (some ⟨b2, o2, none⟩) n d) ∧ w'.cell? ⟨gl, 2, none⟩ = some (.int .i64 xp))) := Lib.hid (fun w' h => ⟨(K0.out.ex h).c9.1, (K0.out.ex h).c9.2.1, (K1.out.ex h).c6.2.2.1⟩)
          refine wp_region_held_drew (S := (fun w' => (w'.cell? ⟨gm, 0, none⟩ = some (.slice A nb c) ∧ w'.cell? ⟨gm, 1, none⟩ = some (.slice (some ⟨b2, o2, none⟩) n d) ∧ w'.cell? ⟨gl, 2, none⟩ = some (.int .i64 xp)))) (by kernel_rfl) ?r14_hS0 (fun hHeld => ?_)
          case r14_hS0 => exact FK9.out _ (Ex.refl _).drew
          refine wpAnyH_take (i := 0) (oi := ?r14_o0) (v := ?r14_v0) ?r14_ho0 (by kernel_rfl) (by kernel_rfl) (by kernel_rfl) ?r14_hq0 ?r14_hy0 (by assumption) ?_
          case r14_ho0 => (conv => lhs; whnf; arg 1; whnf)
          case r14_hq0 => exact fun _ _ _ h => h
          case r14_hy0 => (refine Or.inl ⟨by rfl, ?_⟩; intro w hSw; (try dsimp only at hSw); first | (go_simp; done) | (go_simp; with_reducible rfl))
          try simp only [Act.put, List.setIfInBounds_toArray, List.set_cons_zero, List.set_cons_succ]
          refine wpAnyH_take (i := 1) (oi := ?r14_o1) (v := ?r14_v1) ?r14_ho1 (by kernel_rfl) (by kernel_rfl) (by kernel_rfl) ?r14_hq1 ?r14_hy1 (by assumption) ?_
          case r14_ho1 => (conv => lhs; whnf; arg 1; whnf)
          case r14_hq1 => exact fun _ _ _ h => h
          case r14_hy1 => (refine Or.inl ⟨by rfl, ?_⟩; intro w hSw; (try dsimp only at hSw); first | (go_simp; done) | (go_simp; with_reducible rfl))
          try simp only [Act.put, List.setIfInBounds_toArray, List.set_cons_zero, List.set_cons_succ]
          refine wpAnyH_take (i := 2) (oi := ?r14_o2) (v := ?r14_v2) ?r14_ho2 (by kernel_rfl) (by kernel_rfl) (by kernel_rfl) ?r14_hq2 ?r14_hy2 (by assumption) ?_
          case r14_ho2 => (conv => lhs; whnf; arg 1; whnf)
          case r14_hq2 => exact fun _ _ _ h => h
          case r14_hy2 => (refine Or.inl ⟨by rfl, ?_⟩; intro w hSw; (try dsimp only at hSw); first | (go_simp; done) | (go_simp; with_reducible rfl))
          try simp only [Act.put, List.setIfInBounds_toArray, List.set_cons_zero, List.set_cons_succ]
          refine wpAnyH_take (i := 3) (oi := ?r14_o3) (v := ?r14_v3) ?r14_ho3 (by kernel_rfl) (by kernel_rfl) (by kernel_rfl) ?r14_hq3 ?r14_hy3 (by assumption) ?_
          case r14_ho3 => (conv => lhs; whnf; arg 1; whnf)
          case r14_hq3 => exact fun _ _ _ h => h
          case r14_hy3 => (refine Or.inl ⟨by rfl, ?_⟩; intro w hSw; (try dsimp only at hSw); first | (go_simp; done) | (go_simp; with_reducible rfl))
          try simp only [Act.put, List.setIfInBounds_toArray, List.set_cons_zero, List.set_cons_succ]
          refine wpAnyH_take (i := 4) (oi := ?r14_o4) (v := ?r14_v4) ?r14_ho4 (by kernel_rfl) (by kernel_rfl) (by kernel_rfl) ?r14_hq4 ?r14_hy4 (by assumption) ?_
          case r14_ho4 => (conv => lhs; whnf; arg 1; whnf)
          case r14_hq4 => exact fun _ _ _ h => h
          case r14_hy4 => (refine Or.inl ⟨by rfl, ?_⟩; intro w hSw; (try dsimp only at hSw); first | (go_simp; done) | (go_simp; with_reducible rfl))
          try simp only [Act.put, List.setIfInBounds_toArray, List.set_cons_zero, List.set_cons_succ]
          refine wpAnyH_ready (rs := [5]) (by kernel_rfl) (by simp) ?_
          refine AllReadyH.cons (o := ?r14_o5) ?r14_ho5 (fun K hK => ?_) AllReadyH.nil
          case r14_ho5 => (conv => lhs; whnf; arg 1; whnf)
          refine step_call_gu rfl CEK.out _ _ rfl #[.int .i64 sp, .int .i64 xp] rfl (CK0.out _) ?_; rintro r wa ⟨rfl, hwa⟩; refine ⟨_, rfl, ?_⟩; have hxa := Ex.trans (Ex.refl _).drew hwa
          refine hK.out _ _ ?r14_hS5 (fun hHeld5 => ?_)
          case r14_hS5 => exact FK9.out _ hxa
          clear hK K hHeld
          try simp only [Act.put, List.setIfInBounds_toArray, List.set_cons_zero, List.set_cons_succ]
          refine wpAnyH_ready (rs := [6]) (by kernel_rfl) (by simp) ?_
          refine AllReadyH.cons (o := ?r14_o6) ?r14_ho6 (fun K hK => ?_) AllReadyH.nil
          case r14_ho6 => (conv => lhs; whnf; arg 1; whnf)
          refine step_call_gu rfl CEF.out _ _ rfl #[.agg #[.slice A nb c, .slice (some ⟨b2, o2, none⟩) n d], .agg #[.int .i64 kk.space, .int .i64 kk.page]] rfl (CF0.out _ (HB.out.ex (E0.out.trans hxa)) (HF.out.ex (E0.out.trans hxa))) ?_; rintro r w3 ⟨⟨s2, rfl⟩, he⟩; refine ⟨_, rfl, ?_⟩; have hx3 := Ex.trans hxa he
          refine hK.out _ _ ?r14_hS6 (fun hHeld6 => ?_)
          case r14_hS6 => exact FK9.out _ hx3
          clear hK K hHeld5
          try simp only [Act.put, List.setIfInBounds_toArray, List.set_cons_zero, List.set_cons_succ]
          refine wpAnyH_take (i := 7) (oi := ?r14_o7) (v := ?r14_v7) ?r14_ho7 (by kernel_rfl) (by kernel_rfl) (by kernel_rfl) ?r14_hq7 ?r14_hy7 (by assumption) ?_
          case r14_ho7 => (conv => lhs; whnf; arg 1; whnf)
          case r14_hq7 => exact fun _ _ _ h => h
          case r14_hy7 => (refine Or.inl ⟨by rfl, ?_⟩; intro w hSw; (try dsimp only at hSw); first | (go_simp; done) | (go_simp; with_reducible rfl))
          try simp only [Act.put, List.setIfInBounds_toArray, List.set_cons_zero, List.set_cons_succ]
          refine wpAnyH_take (i := 8) (oi := ?r14_o8) (v := ?r14_v8) ?r14_ho8 (by kernel_rfl) (by kernel_rfl) (by kernel_rfl) ?r14_hq8 ?r14_hy8 (by assumption) ?_
          case r14_ho8 => (conv => lhs; whnf; arg 1; whnf)
          case r14_hq8 => exact fun _ _ _ h => h
          case r14_hy8 => (refine Or.inl ⟨by rfl, ?_⟩; intro w hSw; (try dsimp only at hSw); first | (go_simp; done) | (go_simp; with_reducible rfl))
          try simp only [Act.put, List.setIfInBounds_toArray, List.set_cons_zero, List.set_cons_succ]
          refine wpAnyH_take (i := 9) (oi := ?r14_o9) (v := ?r14_v9) ?r14_ho9 (by kernel_rfl) (by kernel_rfl) (by kernel_rfl) ?r14_hq9 ?r14_hy9 (by assumption) ?_
          case r14_ho9 => (conv => lhs; whnf; arg 1; whnf)
          case r14_hq9 => exact fun _ _ _ h => h
          case r14_hy9 => (refine Or.inl ⟨by rfl, ?_⟩; intro w hSw; (try dsimp only at hSw); first | (go_simp; done) | (go_simp; with_reducible rfl))
          try simp only [Act.put, List.setIfInBounds_toArray, List.set_cons_zero, List.set_cons_succ]
          refine wpAnyH_take (i := 10) (oi := ?r14_o10) (v := ?r14_v10) ?r14_ho10 (by kernel_rfl) (by kernel_rfl) (by kernel_rfl) ?r14_hq10 ?r14_hy10 (by assumption) ?_
          case r14_ho10 => (conv => lhs; whnf; arg 1; whnf)
          case r14_hq10 => exact fun _ _ _ h => h
          case r14_hy10 => (refine Or.inl ⟨by rfl, ?_⟩; intro w hSw; (try dsimp only at hSw); first | (go_simp; done) | (go_simp; with_reducible rfl))
          try simp only [Act.put, List.setIfInBounds_toArray, List.set_cons_zero, List.set_cons_succ]
          refine wpAnyH_take (i := 11) (oi := ?r14_o11) (v := ?r14_v11) ?r14_ho11 (by kernel_rfl) (by kernel_rfl) (by kernel_rfl) ?r14_hq11 ?r14_hy11 (by assumption) ?_
          case r14_ho11 => (conv => lhs; whnf; arg 1; whnf)
          case r14_hq11 => exact fun _ _ _ h => h
          case r14_hy11 => (refine Or.inl ⟨by rfl, ?_⟩; intro w hSw; (try dsimp only at hSw); first | (go_simp; done) | (go_simp; with_reducible rfl))
          try simp only [Act.put, List.setIfInBounds_toArray, List.set_cons_zero, List.set_cons_succ]
          refine wpAnyH_done (by kernel_rfl) ?_ _
          have HX3 := Lib.hid hx3
          clear hx3 hxa he hwa
          go_wp2_with fail
          have FK10 : Hid (∀ w', Ex w3 w' → (w'.cell? ⟨gl, 3, none⟩ = some (.int .i64 (i : Int)) ∧ w'.cell? ⟨gl, 4, none⟩ = some (.int .i64 xr) ∧ w'.cell? ⟨gm, 1, none⟩ = some (.slice (some ⟨b2, o2, none⟩) n d) ∧ w'.cell? ⟨b2, o2 + i * 5 + 3, none⟩ = some (.int .i64 f.rights))) := Lib.hid (fun w' h => ⟨(K1.out.ex (HX3.out.trans h)).c6.2.2.2.1, (K1.out.ex (HX3.out.trans h)).c6.2.2.2.2.1, (K0.out.ex (HX3.out.trans h)).c9.2.1, (((E0.out.trans HX3.out).trans h).cell HB2.out).trans K3.out⟩)
          refine wp_region_held_drew (S := (fun w' => (w'.cell? ⟨gl, 3, none⟩ = some (.int .i64 (i : Int)) ∧ w'.cell? ⟨gl, 4, none⟩ = some (.int .i64 xr) ∧ w'.cell? ⟨gm, 1, none⟩ = some (.slice (some ⟨b2, o2, none⟩) n d) ∧ w'.cell? ⟨b2, o2 + i * 5 + 3, none⟩ = some (.int .i64 f.rights)))) (by kernel_rfl) ?r15_hS0 (fun hHeld => ?_)
          case r15_hS0 => exact FK10.out _ (Ex.refl _).drew
          refine wpAnyH_take (i := 0) (oi := ?r15_o0) (v := ?r15_v0) ?r15_ho0 (by kernel_rfl) (by kernel_rfl) (by kernel_rfl) ?r15_hq0 ?r15_hy0 (by assumption) ?_
          case r15_ho0 => (conv => lhs; whnf; arg 1; whnf)
          case r15_hq0 => exact fun _ _ _ h => h
          case r15_hy0 => (refine Or.inl ⟨by rfl, ?_⟩; intro w hSw; (try dsimp only at hSw); first | (go_simp; done) | (go_simp; with_reducible rfl))
          try simp only [Act.put, List.setIfInBounds_toArray, List.set_cons_zero, List.set_cons_succ]
          refine wpAnyH_take (i := 1) (oi := ?r15_o1) (v := ?r15_v1) ?r15_ho1 (by kernel_rfl) (by kernel_rfl) (by kernel_rfl) ?r15_hq1 ?r15_hy1 (by assumption) ?_
          case r15_ho1 => (conv => lhs; whnf; arg 1; whnf)
          case r15_hq1 => exact fun _ _ _ h => h
          case r15_hy1 => (refine Or.inl ⟨by rfl, ?_⟩; intro w hSw; (try dsimp only at hSw); first | (go_simp; done) | (go_simp; with_reducible rfl))
          try simp only [Act.put, List.setIfInBounds_toArray, List.set_cons_zero, List.set_cons_succ]
          refine wpAnyH_take (i := 2) (oi := ?r15_o2) (v := ?r15_v2) ?r15_ho2 (by kernel_rfl) (by kernel_rfl) (by kernel_rfl) ?r15_hq2 ?r15_hy2 (by assumption) ?_
          case r15_ho2 => (conv => lhs; whnf; arg 1; whnf)
          case r15_hq2 => exact fun _ _ _ h => h
          case r15_hy2 => (refine Or.inl ⟨by rfl, ?_⟩; intro w hSw; (try dsimp only at hSw); first | (go_simp; done) | (go_simp; with_reducible rfl))
          try simp only [Act.put, List.setIfInBounds_toArray, List.set_cons_zero, List.set_cons_succ]
          refine wpAnyH_take (i := 3) (oi := ?r15_o3) (v := ?r15_v3) ?r15_ho3 (by kernel_rfl) (by kernel_rfl) (by kernel_rfl) ?r15_hq3 ?r15_hy3 (by assumption) ?_
          case r15_ho3 => (conv => lhs; whnf; arg 1; whnf)
          case r15_hq3 => exact fun _ _ _ h => h
          case r15_hy3 => (refine Or.inl ⟨by rfl, ?_⟩; intro w hSw; (try dsimp only at hSw); first | (go_simp; done) | (go_simp; with_reducible rfl))
          try simp only [Act.put, List.setIfInBounds_toArray, List.set_cons_zero, List.set_cons_succ]
          refine wpAnyH_take (i := 4) (oi := ?r15_o4) (v := ?r15_v4) ?r15_ho4 (by kernel_rfl) (by kernel_rfl) (by kernel_rfl) ?r15_hq4 ?r15_hy4 (by assumption) ?_
          case r15_ho4 => (conv => lhs; whnf; arg 1; whnf)
          case r15_hq4 => exact fun _ _ _ h => h
          case r15_hy4 => (refine Or.inl ⟨by rfl, ?_⟩; intro w hSw; (try dsimp only at hSw); first | (go_simp; done) | (go_simp; with_reducible rfl))
          try simp only [Act.put, List.setIfInBounds_toArray, List.set_cons_zero, List.set_cons_succ]
          refine wpAnyH_take (i := 5) (oi := ?r15_o5) (v := ?r15_v5) ?r15_ho5 (by kernel_rfl) (by kernel_rfl) (by kernel_rfl) ?r15_hq5 ?r15_hy5 (by assumption) ?_
          case r15_ho5 => (conv => lhs; whnf; arg 1; whnf)
          case r15_hq5 => exact fun _ _ _ h => h
          case r15_hy5 => (refine Or.inl ⟨by rfl, ?_⟩; intro w hSw; (try dsimp only at hSw); first | (go_simp; done) | (go_simp; with_reducible rfl))
          try simp only [Act.put, List.setIfInBounds_toArray, List.set_cons_zero, List.set_cons_succ]
          refine wpAnyH_take (i := 6) (oi := ?r15_o6) (v := ?r15_v6) ?r15_ho6 (by kernel_rfl) (by kernel_rfl) (by kernel_rfl) ?r15_hq6 ?r15_hy6 (by assumption) ?_
          case r15_ho6 => (conv => lhs; whnf; arg 1; whnf)
          case r15_hq6 => exact fun _ _ _ h => h
          case r15_hy6 => (refine Or.inl ⟨by rfl, ?_⟩; intro w hSw; (try dsimp only at hSw); first | (go_simp; done) | (go_simp; with_reducible rfl))
          try simp only [Act.put, List.setIfInBounds_toArray, List.set_cons_zero, List.set_cons_succ]
          refine wpAnyH_take (i := 7) (oi := ?r15_o7) (v := ?r15_v7) ?r15_ho7 (by kernel_rfl) (by kernel_rfl) (by kernel_rfl) ?r15_hq7 ?r15_hy7 (by assumption) ?_
          case r15_ho7 => (conv => lhs; whnf; arg 1; whnf)
          case r15_hq7 => exact fun _ _ _ h => h
          case r15_hy7 => (refine Or.inl ⟨by rfl, ?_⟩; intro w hSw; (try dsimp only at hSw); first | (go_simp; done) | (go_simp; with_reducible rfl))
          try simp only [Act.put, List.setIfInBounds_toArray, List.set_cons_zero, List.set_cons_succ]
          refine wpAnyH_take (i := 8) (oi := ?r15_o8) (v := ?r15_v8) ?r15_ho8 (by kernel_rfl) (by kernel_rfl) (by kernel_rfl) ?r15_hq8 ?r15_hy8 (by assumption) ?_
          case r15_ho8 => (conv => lhs; whnf; arg 1; whnf)
          case r15_hq8 => exact fun _ _ _ h => h
          case r15_hy8 => (refine Or.inl ⟨by rfl, ?_⟩; intro w hSw; (try dsimp only at hSw); first | (go_simp; done) | (go_simp; with_reducible rfl))
          try simp only [Act.put, List.setIfInBounds_toArray, List.set_cons_zero, List.set_cons_succ]
          refine wpAnyH_take (i := 9) (oi := ?r15_o9) (v := ?r15_v9) ?r15_ho9 (by kernel_rfl) (by kernel_rfl) (by kernel_rfl) ?r15_hq9 ?r15_hy9 (by assumption) ?_
          case r15_ho9 => (conv => lhs; whnf; arg 1; whnf)
          case r15_hq9 => exact fun _ _ _ h => h
          case r15_hy9 => (refine Or.inl ⟨by rfl, ?_⟩; intro w hSw; (try dsimp only at hSw); first | (go_simp; done) | (go_simp; with_reducible rfl))
          try simp only [Act.put, List.setIfInBounds_toArray, List.set_cons_zero, List.set_cons_succ]
          refine wpAnyH_take (i := 10) (oi := ?r15_o10) (v := ?r15_v10) ?r15_ho10 (by kernel_rfl) (by kernel_rfl) (by kernel_rfl) ?r15_hq10 ?r15_hy10 (by assumption) ?_
          case r15_ho10 => (conv => lhs; whnf; arg 1; whnf)
          case r15_hq10 => exact fun _ _ _ h => h
          case r15_hy10 => (refine Or.inl ⟨by rfl, ?_⟩; intro w hSw; (try dsimp only at hSw); first | (go_simp; done) | (go_simp; with_reducible rfl))
          try simp only [Act.put, List.setIfInBounds_toArray, List.set_cons_zero, List.set_cons_succ]
          refine wpAnyH_take (i := 11) (oi := ?r15_o11) (v := ?r15_v11) ?r15_ho11 (by kernel_rfl) (by kernel_rfl) (by kernel_rfl) ?r15_hq11 ?r15_hy11 (by assumption) ?_
          case r15_ho11 => (conv => lhs; whnf; arg 1; whnf)
          case r15_hq11 => exact fun _ _ _ h => h
          case r15_hy11 => (refine Or.inl ⟨by rfl, ?_⟩; intro w hSw; (try dsimp only at hSw); first | (go_simp; done) | (go_simp; with_reducible rfl))
          try simp only [Act.put, List.setIfInBounds_toArray, List.set_cons_zero, List.set_cons_succ]
          refine wpAnyH_take (i := 12) (oi := ?r15_o12) (v := ?r15_v12) ?r15_ho12 (by kernel_rfl) (by kernel_rfl) (by kernel_rfl) ?r15_hq12 ?r15_hy12 (by assumption) ?_
          case r15_ho12 => (conv => lhs; whnf; arg 1; whnf)
          case r15_hq12 => exact fun _ _ _ h => h
          case r15_hy12 => (refine Or.inl ⟨by rfl, ?_⟩; intro w hSw; (try dsimp only at hSw); first | (go_simp; done) | (go_simp; with_reducible rfl))
          try simp only [Act.put, List.setIfInBounds_toArray, List.set_cons_zero, List.set_cons_succ]
          refine wpAnyH_take (i := 13) (oi := ?r15_o13) (v := ?r15_v13) ?r15_ho13 (by kernel_rfl) (by kernel_rfl) (by kernel_rfl) ?r15_hq13 ?r15_hy13 (by assumption) ?_
          case r15_ho13 => (conv => lhs; whnf; arg 1; whnf)
          case r15_hq13 => exact fun _ _ _ h => h
          case r15_hy13 => (refine Or.inl ⟨by rfl, ?_⟩; intro w hSw; (try dsimp only at hSw); first | (go_simp; done) | (go_simp; with_reducible rfl))
          try simp only [Act.put, List.setIfInBounds_toArray, List.set_cons_zero, List.set_cons_succ]
          refine wpAnyH_take (i := 14) (oi := ?r15_o14) (v := ?r15_v14) ?r15_ho14 (by kernel_rfl) (by kernel_rfl) (by kernel_rfl) ?r15_hq14 ?r15_hy14 (by assumption) ?_
          case r15_ho14 => (conv => lhs; whnf; arg 1; whnf)
          case r15_hq14 => exact fun _ _ _ h => h
          case r15_hy14 => (refine Or.inl ⟨by rfl, ?_⟩; intro w hSw; (try dsimp only at hSw); first | (go_simp; done) | (go_simp; with_reducible rfl))
          try simp only [Act.put, List.setIfInBounds_toArray, List.set_cons_zero, List.set_cons_succ]
          refine wpAnyH_take (i := 15) (oi := ?r15_o15) (v := ?r15_v15) ?r15_ho15 (by kernel_rfl) (by kernel_rfl) (by kernel_rfl) ?r15_hq15 ?r15_hy15 (by assumption) ?_
          case r15_ho15 => (conv => lhs; whnf; arg 1; whnf)
          case r15_hq15 => exact fun _ _ _ h => h
          case r15_hy15 => (refine Or.inl ⟨by rfl, ?_⟩; intro w hSw; (try dsimp only at hSw); first | (go_simp; done) | (go_simp; with_reducible rfl))
          try simp only [Act.put, List.setIfInBounds_toArray, List.set_cons_zero, List.set_cons_succ]
          refine wpAnyH_take (i := 16) (oi := ?r15_o16) (v := ?r15_v16) ?r15_ho16 (by kernel_rfl) (by kernel_rfl) (by kernel_rfl) ?r15_hq16 ?r15_hy16 (by assumption) ?_
          case r15_ho16 => (conv => lhs; whnf; arg 1; whnf)
          case r15_hq16 => exact fun _ _ _ h => h
          case r15_hy16 => (refine Or.inl ⟨by rfl, ?_⟩; intro w hSw; (try dsimp only at hSw); first | (go_simp; done) | (go_simp; with_reducible rfl))
          try simp only [Act.put, List.setIfInBounds_toArray, List.set_cons_zero, List.set_cons_succ]
          refine wpAnyH_take (i := 17) (oi := ?r15_o17) (v := ?r15_v17) ?r15_ho17 (by kernel_rfl) (by kernel_rfl) (by kernel_rfl) ?r15_hq17 ?r15_hy17 (by assumption) ?_
          case r15_ho17 => (conv => lhs; whnf; arg 1; whnf)
          case r15_hq17 => exact fun _ _ _ h => h
          case r15_hy17 => (refine Or.inl ⟨by rfl, ?_⟩; intro w hSw; (try dsimp only at hSw); first | (go_simp; done) | (go_simp; with_reducible rfl))
          try simp only [Act.put, List.setIfInBounds_toArray, List.set_cons_zero, List.set_cons_succ]
          refine wpAnyH_take (i := 18) (oi := ?r15_o18) (v := ?r15_v18) ?r15_ho18 (by kernel_rfl) (by kernel_rfl) (by kernel_rfl) ?r15_hq18 ?r15_hy18 (by assumption) ?_
          case r15_ho18 => (conv => lhs; whnf; arg 1; whnf)
          case r15_hq18 => exact fun _ _ _ h => h
          case r15_hy18 => (refine Or.inl ⟨by rfl, ?_⟩; intro w hSw; (try dsimp only at hSw); first | (go_simp; done) | (go_simp; with_reducible rfl))
          try simp only [Act.put, List.setIfInBounds_toArray, List.set_cons_zero, List.set_cons_succ]
          refine wpAnyH_take (i := 19) (oi := ?r15_o19) (v := ?r15_v19) ?r15_ho19 (by kernel_rfl) (by kernel_rfl) (by kernel_rfl) ?r15_hq19 ?r15_hy19 (by assumption) ?_
          case r15_ho19 => (conv => lhs; whnf; arg 1; whnf)
          case r15_hq19 => exact fun _ _ _ h => h
          case r15_hy19 => (refine Or.inl ⟨by rfl, ?_⟩; intro w hSw; (try dsimp only at hSw); first | (go_simp; done) | (go_simp; with_reducible rfl))
          try simp only [Act.put, List.setIfInBounds_toArray, List.set_cons_zero, List.set_cons_succ]
          refine wpAnyH_take (i := 20) (oi := ?r15_o20) (v := ?r15_v20) ?r15_ho20 (by kernel_rfl) (by kernel_rfl) (by kernel_rfl) ?r15_hq20 ?r15_hy20 (by assumption) ?_
          case r15_ho20 => (conv => lhs; whnf; arg 1; whnf)
          case r15_hq20 => exact fun _ _ _ h => h
          case r15_hy20 => (refine Or.inl ⟨by rfl, ?_⟩; intro w hSw; (try dsimp only at hSw); first | (go_simp; done) | (go_simp; with_reducible rfl))
          try simp only [Act.put, List.setIfInBounds_toArray, List.set_cons_zero, List.set_cons_succ]
          refine wpAnyH_take (i := 21) (oi := ?r15_o21) (v := undef) ?r15_ho21 (by kernel_rfl) (by kernel_rfl) (by kernel_rfl) ?r15_hq21 ?r15_hy21 (by assumption) ?_
          case r15_ho21 => (conv => lhs; whnf; arg 1; whnf)
          case r15_hq21 => exact fun _ _ _ h => h
          case r15_hy21 => exact Or.inr ⟨by rfl, rfl⟩
          try simp only [Act.put, List.setIfInBounds_toArray, List.set_cons_zero, List.set_cons_succ]
          refine wpAnyH_take (i := 22) (oi := ?r15_o22) (v := undef) ?r15_ho22 (by kernel_rfl) (by kernel_rfl) (by kernel_rfl) ?r15_hq22 ?r15_hy22 (by assumption) ?_
          case r15_ho22 => (conv => lhs; whnf; arg 1; whnf)
          case r15_hq22 => exact fun _ _ _ h => h
          case r15_hy22 => exact Or.inr ⟨by rfl, rfl⟩
          try simp only [Act.put, List.setIfInBounds_toArray, List.set_cons_zero, List.set_cons_succ]
          refine wpAnyH_take (i := 23) (oi := ?r15_o23) (v := undef) ?r15_ho23 (by kernel_rfl) (by kernel_rfl) (by kernel_rfl) ?r15_hq23 ?r15_hy23 (by assumption) ?_
          case r15_ho23 => (conv => lhs; whnf; arg 1; whnf)
          case r15_hq23 => exact fun _ _ _ h => h
          case r15_hy23 => exact Or.inr ⟨by rfl, rfl⟩
          try simp only [Act.put, List.setIfInBounds_toArray, List.set_cons_zero, List.set_cons_succ]
          refine wpAnyH_take (i := 24) (oi := ?r15_o24) (v := undef) ?r15_ho24 (by kernel_rfl) (by kernel_rfl) (by kernel_rfl) ?r15_hq24 ?r15_hy24 (by assumption) ?_
          case r15_ho24 => (conv => lhs; whnf; arg 1; whnf)
          case r15_hq24 => exact fun _ _ _ h => h
          case r15_hy24 => exact Or.inr ⟨by rfl, rfl⟩
          try simp only [Act.put, List.setIfInBounds_toArray, List.set_cons_zero, List.set_cons_succ]
          refine wpAnyH_take (i := 25) (oi := ?r15_o25) (v := undef) ?r15_ho25 (by kernel_rfl) (by kernel_rfl) (by kernel_rfl) ?r15_hq25 ?r15_hy25 (by assumption) ?_
          case r15_ho25 => (conv => lhs; whnf; arg 1; whnf)
          case r15_hq25 => exact fun _ _ _ h => h
          case r15_hy25 => exact Or.inr ⟨by rfl, rfl⟩
          try simp only [Act.put, List.setIfInBounds_toArray, List.set_cons_zero, List.set_cons_succ]
          refine wpAnyH_take (i := 26) (oi := ?r15_o26) (v := undef) ?r15_ho26 (by kernel_rfl) (by kernel_rfl) (by kernel_rfl) ?r15_hq26 ?r15_hy26 (by assumption) ?_
          case r15_ho26 => (conv => lhs; whnf; arg 1; whnf)
          case r15_hq26 => exact fun _ _ _ h => h
          case r15_hy26 => exact Or.inr ⟨by rfl, rfl⟩
          try simp only [Act.put, List.setIfInBounds_toArray, List.set_cons_zero, List.set_cons_succ]
          refine wpAnyH_take (i := 27) (oi := ?r15_o27) (v := undef) ?r15_ho27 (by kernel_rfl) (by kernel_rfl) (by kernel_rfl) ?r15_hq27 ?r15_hy27 (by assumption) ?_
          case r15_ho27 => (conv => lhs; whnf; arg 1; whnf)
          case r15_hq27 => exact fun _ _ _ h => h
          case r15_hy27 => exact Or.inr ⟨by rfl, rfl⟩
          try simp only [Act.put, List.setIfInBounds_toArray, List.set_cons_zero, List.set_cons_succ]
          refine wpAnyH_take (i := 28) (oi := ?r15_o28) (v := undef) ?r15_ho28 (by kernel_rfl) (by kernel_rfl) (by kernel_rfl) ?r15_hq28 ?r15_hy28 (by assumption) ?_
          case r15_ho28 => (conv => lhs; whnf; arg 1; whnf)
          case r15_hq28 => exact fun _ _ _ h => h
          case r15_hy28 => exact Or.inr ⟨by rfl, rfl⟩
          try simp only [Act.put, List.setIfInBounds_toArray, List.set_cons_zero, List.set_cons_succ]
          refine wpAnyH_take (i := 29) (oi := ?r15_o29) (v := ?r15_v29) ?r15_ho29 (by kernel_rfl) (by kernel_rfl) (by kernel_rfl) ?r15_hq29 ?r15_hy29 (by assumption) ?_
          case r15_ho29 => (conv => lhs; whnf; arg 1; whnf)
          case r15_hq29 => exact fun _ _ _ h => h
          case r15_hy29 => (refine Or.inl ⟨by rfl, ?_⟩; intro w hSw; (try dsimp only at hSw); first | (go_simp; done) | (go_simp; with_reducible rfl))
          try simp only [Act.put, List.setIfInBounds_toArray, List.set_cons_zero, List.set_cons_succ]
          refine wpAnyH_take (i := 30) (oi := ?r15_o30) (v := ?r15_v30) ?r15_ho30 (by kernel_rfl) (by kernel_rfl) (by kernel_rfl) ?r15_hq30 ?r15_hy30 (by assumption) ?_
          case r15_ho30 => (conv => lhs; whnf; arg 1; whnf)
          case r15_hq30 => exact fun _ _ _ h => h
          case r15_hy30 => (refine Or.inl ⟨by rfl, ?_⟩; intro w hSw; (try dsimp only at hSw); first | (go_simp; done) | (go_simp; with_reducible rfl))
          try simp only [Act.put, List.setIfInBounds_toArray, List.set_cons_zero, List.set_cons_succ]
          refine wpAnyH_done (by kernel_rfl) ?_ _
          go_wp2
          go_ret
          exact ⟨rfl, (E0.out.trans HX3.out).drew⟩
        cases xw
        · rw [lineFitsB_iff.2 (HIFF.out.2 ⟨hfr, hr, (fun h => by cases h)⟩)]
          clear HIFF
          subst hfr
          subst hr
          go_enter Tryd.func25, Tryd.ntmps25
          go_wp2_with fail
          refine (CT.out _ ((HO.out.alloc _).alloc _)).mono ?_
          rintro r w0 ⟨rfl, he⟩
          obtain ⟨gm, hgm⟩ : ∃ gm : Nat, gm = w.heap.size := ⟨_, rfl⟩
          obtain ⟨gl, hgl⟩ : ∃ gl : Nat, gl = w.heap.size + 1 := ⟨_, rfl⟩
          have K0 : Hid (Blk w0 gm 46 [.slice A nb c, .slice (some ⟨b2, o2, none⟩) n d, .slice L nl e, .int .i64 m.cache.hand, .int .i64 m.tags.count, .int .i64 m.tags.next, .int .i64 m.tags.round, .slice O no g, .int .i64 m.space]) := Lib.hid (by rw [hgm]; exact ((Blk.new w _ _).alloc _).ex he)
          have K1 : Hid (Blk w0 gl 74 [.bool xv, .int .i64 xt, .int .i64 xp, .int .i64 (i : Int), .int .i64 f.rights, .bool false]) := Lib.hid (by rw [hgl]; exact (Blk.new_at _ _ _ (by simp)).ex he)
          have E0 : Hid (Ex w w0) := Lib.hid (((Ex.refl w).alloc _).alloc _ |>.trans he)
          clear he
          rw [← hgl]
          rw [← hgm]
          clear hgm hgl
          go_wp2_with fail
          have FK9 : Hid (∀ w', Ex w0 w' → (w'.cell? ⟨gm, 0, none⟩ = some (.slice A nb c) ∧ w'.cell? ⟨gm, 1, none⟩ = some (.slice (some ⟨b2, o2, none⟩) n d) ∧ w'.cell? ⟨gl, 2, none⟩ = some (.int .i64 xp))) := Lib.hid (fun w' h => ⟨(K0.out.ex h).c9.1, (K0.out.ex h).c9.2.1, (K1.out.ex h).c6.2.2.1⟩)
          refine wp_region_held_drew (S := (fun w' => (w'.cell? ⟨gm, 0, none⟩ = some (.slice A nb c) ∧ w'.cell? ⟨gm, 1, none⟩ = some (.slice (some ⟨b2, o2, none⟩) n d) ∧ w'.cell? ⟨gl, 2, none⟩ = some (.int .i64 xp)))) (by kernel_rfl) ?r16_hS0 (fun hHeld => ?_)
          case r16_hS0 => exact FK9.out _ (Ex.refl _).drew
          refine wpAnyH_take (i := 0) (oi := ?r16_o0) (v := ?r16_v0) ?r16_ho0 (by kernel_rfl) (by kernel_rfl) (by kernel_rfl) ?r16_hq0 ?r16_hy0 (by assumption) ?_
          case r16_ho0 => (conv => lhs; whnf; arg 1; whnf)
          case r16_hq0 => exact fun _ _ _ h => h
          case r16_hy0 => (refine Or.inl ⟨by rfl, ?_⟩; intro w hSw; (try dsimp only at hSw); first | (go_simp; done) | (go_simp; with_reducible rfl))
          try simp only [Act.put, List.setIfInBounds_toArray, List.set_cons_zero, List.set_cons_succ]
          refine wpAnyH_take (i := 1) (oi := ?r16_o1) (v := ?r16_v1) ?r16_ho1 (by kernel_rfl) (by kernel_rfl) (by kernel_rfl) ?r16_hq1 ?r16_hy1 (by assumption) ?_
          case r16_ho1 => (conv => lhs; whnf; arg 1; whnf)
          case r16_hq1 => exact fun _ _ _ h => h
          case r16_hy1 => (refine Or.inl ⟨by rfl, ?_⟩; intro w hSw; (try dsimp only at hSw); first | (go_simp; done) | (go_simp; with_reducible rfl))
          try simp only [Act.put, List.setIfInBounds_toArray, List.set_cons_zero, List.set_cons_succ]
          refine wpAnyH_take (i := 2) (oi := ?r16_o2) (v := ?r16_v2) ?r16_ho2 (by kernel_rfl) (by kernel_rfl) (by kernel_rfl) ?r16_hq2 ?r16_hy2 (by assumption) ?_
          case r16_ho2 => (conv => lhs; whnf; arg 1; whnf)
          case r16_hq2 => exact fun _ _ _ h => h
          case r16_hy2 => (refine Or.inl ⟨by rfl, ?_⟩; intro w hSw; (try dsimp only at hSw); first | (go_simp; done) | (go_simp; with_reducible rfl))
          try simp only [Act.put, List.setIfInBounds_toArray, List.set_cons_zero, List.set_cons_succ]
          refine wpAnyH_take (i := 3) (oi := ?r16_o3) (v := ?r16_v3) ?r16_ho3 (by kernel_rfl) (by kernel_rfl) (by kernel_rfl) ?r16_hq3 ?r16_hy3 (by assumption) ?_
          case r16_ho3 => (conv => lhs; whnf; arg 1; whnf)
          case r16_hq3 => exact fun _ _ _ h => h
          case r16_hy3 => (refine Or.inl ⟨by rfl, ?_⟩; intro w hSw; (try dsimp only at hSw); first | (go_simp; done) | (go_simp; with_reducible rfl))
          try simp only [Act.put, List.setIfInBounds_toArray, List.set_cons_zero, List.set_cons_succ]
          refine wpAnyH_take (i := 4) (oi := ?r16_o4) (v := ?r16_v4) ?r16_ho4 (by kernel_rfl) (by kernel_rfl) (by kernel_rfl) ?r16_hq4 ?r16_hy4 (by assumption) ?_
          case r16_ho4 => (conv => lhs; whnf; arg 1; whnf)
          case r16_hq4 => exact fun _ _ _ h => h
          case r16_hy4 => (refine Or.inl ⟨by rfl, ?_⟩; intro w hSw; (try dsimp only at hSw); first | (go_simp; done) | (go_simp; with_reducible rfl))
          try simp only [Act.put, List.setIfInBounds_toArray, List.set_cons_zero, List.set_cons_succ]
          refine wpAnyH_ready (rs := [5]) (by kernel_rfl) (by simp) ?_
          refine AllReadyH.cons (o := ?r16_o5) ?r16_ho5 (fun K hK => ?_) AllReadyH.nil
          case r16_ho5 => (conv => lhs; whnf; arg 1; whnf)
          refine step_call_gu rfl CEK.out _ _ rfl #[.int .i64 sp, .int .i64 xp] rfl (CK0.out _) ?_; rintro r wa ⟨rfl, hwa⟩; refine ⟨_, rfl, ?_⟩; have hxa := Ex.trans (Ex.refl _).drew hwa
          refine hK.out _ _ ?r16_hS5 (fun hHeld5 => ?_)
          case r16_hS5 => exact FK9.out _ hxa
          clear hK K hHeld
          try simp only [Act.put, List.setIfInBounds_toArray, List.set_cons_zero, List.set_cons_succ]
          refine wpAnyH_ready (rs := [6]) (by kernel_rfl) (by simp) ?_
          refine AllReadyH.cons (o := ?r16_o6) ?r16_ho6 (fun K hK => ?_) AllReadyH.nil
          case r16_ho6 => (conv => lhs; whnf; arg 1; whnf)
          refine step_call_gu rfl CEF.out _ _ rfl #[.agg #[.slice A nb c, .slice (some ⟨b2, o2, none⟩) n d], .agg #[.int .i64 kk.space, .int .i64 kk.page]] rfl (CF0.out _ (HB.out.ex (E0.out.trans hxa)) (HF.out.ex (E0.out.trans hxa))) ?_; rintro r w3 ⟨⟨s2, rfl⟩, he⟩; refine ⟨_, rfl, ?_⟩; have hx3 := Ex.trans hxa he
          refine hK.out _ _ ?r16_hS6 (fun hHeld6 => ?_)
          case r16_hS6 => exact FK9.out _ hx3
          clear hK K hHeld5
          try simp only [Act.put, List.setIfInBounds_toArray, List.set_cons_zero, List.set_cons_succ]
          refine wpAnyH_take (i := 7) (oi := ?r16_o7) (v := ?r16_v7) ?r16_ho7 (by kernel_rfl) (by kernel_rfl) (by kernel_rfl) ?r16_hq7 ?r16_hy7 (by assumption) ?_
          case r16_ho7 => (conv => lhs; whnf; arg 1; whnf)
          case r16_hq7 => exact fun _ _ _ h => h
          case r16_hy7 => (refine Or.inl ⟨by rfl, ?_⟩; intro w hSw; (try dsimp only at hSw); first | (go_simp; done) | (go_simp; with_reducible rfl))
          try simp only [Act.put, List.setIfInBounds_toArray, List.set_cons_zero, List.set_cons_succ]
          refine wpAnyH_take (i := 8) (oi := ?r16_o8) (v := ?r16_v8) ?r16_ho8 (by kernel_rfl) (by kernel_rfl) (by kernel_rfl) ?r16_hq8 ?r16_hy8 (by assumption) ?_
          case r16_ho8 => (conv => lhs; whnf; arg 1; whnf)
          case r16_hq8 => exact fun _ _ _ h => h
          case r16_hy8 => (refine Or.inl ⟨by rfl, ?_⟩; intro w hSw; (try dsimp only at hSw); first | (go_simp; done) | (go_simp; with_reducible rfl))
          try simp only [Act.put, List.setIfInBounds_toArray, List.set_cons_zero, List.set_cons_succ]
          refine wpAnyH_take (i := 9) (oi := ?r16_o9) (v := ?r16_v9) ?r16_ho9 (by kernel_rfl) (by kernel_rfl) (by kernel_rfl) ?r16_hq9 ?r16_hy9 (by assumption) ?_
          case r16_ho9 => (conv => lhs; whnf; arg 1; whnf)
          case r16_hq9 => exact fun _ _ _ h => h
          case r16_hy9 => (refine Or.inl ⟨by rfl, ?_⟩; intro w hSw; (try dsimp only at hSw); first | (go_simp; done) | (go_simp; with_reducible rfl))
          try simp only [Act.put, List.setIfInBounds_toArray, List.set_cons_zero, List.set_cons_succ]
          refine wpAnyH_take (i := 10) (oi := ?r16_o10) (v := ?r16_v10) ?r16_ho10 (by kernel_rfl) (by kernel_rfl) (by kernel_rfl) ?r16_hq10 ?r16_hy10 (by assumption) ?_
          case r16_ho10 => (conv => lhs; whnf; arg 1; whnf)
          case r16_hq10 => exact fun _ _ _ h => h
          case r16_hy10 => (refine Or.inl ⟨by rfl, ?_⟩; intro w hSw; (try dsimp only at hSw); first | (go_simp; done) | (go_simp; with_reducible rfl))
          try simp only [Act.put, List.setIfInBounds_toArray, List.set_cons_zero, List.set_cons_succ]
          refine wpAnyH_take (i := 11) (oi := ?r16_o11) (v := ?r16_v11) ?r16_ho11 (by kernel_rfl) (by kernel_rfl) (by kernel_rfl) ?r16_hq11 ?r16_hy11 (by assumption) ?_
          case r16_ho11 => (conv => lhs; whnf; arg 1; whnf)
          case r16_hq11 => exact fun _ _ _ h => h
          case r16_hy11 => (refine Or.inl ⟨by rfl, ?_⟩; intro w hSw; (try dsimp only at hSw); first | (go_simp; done) | (go_simp; with_reducible rfl))
          try simp only [Act.put, List.setIfInBounds_toArray, List.set_cons_zero, List.set_cons_succ]
          refine wpAnyH_done (by kernel_rfl) ?_ _
          have HX3 := Lib.hid hx3
          clear hx3 hxa he hwa
          go_wp2_with fail
          have FK10 : Hid (∀ w', Ex w3 w' → (w'.cell? ⟨gl, 3, none⟩ = some (.int .i64 (i : Int)) ∧ w'.cell? ⟨gl, 4, none⟩ = some (.int .i64 f.rights) ∧ w'.cell? ⟨gl, 5, none⟩ = some (.bool false) ∧ w'.cell? ⟨gm, 1, none⟩ = some (.slice (some ⟨b2, o2, none⟩) n d) ∧ w'.cell? ⟨b2, o2 + i * 5 + 3, none⟩ = some (.int .i64 f.rights))) := Lib.hid (fun w' h => ⟨(K1.out.ex (HX3.out.trans h)).c6.2.2.2.1, (K1.out.ex (HX3.out.trans h)).c6.2.2.2.2.1, (K1.out.ex (HX3.out.trans h)).c6.2.2.2.2.2, (K0.out.ex (HX3.out.trans h)).c9.2.1, (((E0.out.trans HX3.out).trans h).cell HB2.out).trans K3.out⟩)
          refine wp_region_held_drew (S := (fun w' => (w'.cell? ⟨gl, 3, none⟩ = some (.int .i64 (i : Int)) ∧ w'.cell? ⟨gl, 4, none⟩ = some (.int .i64 f.rights) ∧ w'.cell? ⟨gl, 5, none⟩ = some (.bool false) ∧ w'.cell? ⟨gm, 1, none⟩ = some (.slice (some ⟨b2, o2, none⟩) n d) ∧ w'.cell? ⟨b2, o2 + i * 5 + 3, none⟩ = some (.int .i64 f.rights)))) (by kernel_rfl) ?r17_hS0 (fun hHeld => ?_)
          case r17_hS0 => exact FK10.out _ (Ex.refl _).drew
          refine wpAnyH_take (i := 0) (oi := ?r17_o0) (v := ?r17_v0) ?r17_ho0 (by kernel_rfl) (by kernel_rfl) (by kernel_rfl) ?r17_hq0 ?r17_hy0 (by assumption) ?_
          case r17_ho0 => (conv => lhs; whnf; arg 1; whnf)
          case r17_hq0 => exact fun _ _ _ h => h
          case r17_hy0 => (refine Or.inl ⟨by rfl, ?_⟩; intro w hSw; (try dsimp only at hSw); first | (go_simp; done) | (go_simp; with_reducible rfl))
          try simp only [Act.put, List.setIfInBounds_toArray, List.set_cons_zero, List.set_cons_succ]
          refine wpAnyH_take (i := 1) (oi := ?r17_o1) (v := ?r17_v1) ?r17_ho1 (by kernel_rfl) (by kernel_rfl) (by kernel_rfl) ?r17_hq1 ?r17_hy1 (by assumption) ?_
          case r17_ho1 => (conv => lhs; whnf; arg 1; whnf)
          case r17_hq1 => exact fun _ _ _ h => h
          case r17_hy1 => (refine Or.inl ⟨by rfl, ?_⟩; intro w hSw; (try dsimp only at hSw); first | (go_simp; done) | (go_simp; with_reducible rfl))
          try simp only [Act.put, List.setIfInBounds_toArray, List.set_cons_zero, List.set_cons_succ]
          refine wpAnyH_take (i := 2) (oi := ?r17_o2) (v := ?r17_v2) ?r17_ho2 (by kernel_rfl) (by kernel_rfl) (by kernel_rfl) ?r17_hq2 ?r17_hy2 (by assumption) ?_
          case r17_ho2 => (conv => lhs; whnf; arg 1; whnf)
          case r17_hq2 => exact fun _ _ _ h => h
          case r17_hy2 => (refine Or.inl ⟨by rfl, ?_⟩; intro w hSw; (try dsimp only at hSw); first | (go_simp; done) | (go_simp; with_reducible rfl))
          try simp only [Act.put, List.setIfInBounds_toArray, List.set_cons_zero, List.set_cons_succ]
          refine wpAnyH_take (i := 3) (oi := ?r17_o3) (v := ?r17_v3) ?r17_ho3 (by kernel_rfl) (by kernel_rfl) (by kernel_rfl) ?r17_hq3 ?r17_hy3 (by assumption) ?_
          case r17_ho3 => (conv => lhs; whnf; arg 1; whnf)
          case r17_hq3 => exact fun _ _ _ h => h
          case r17_hy3 => (refine Or.inl ⟨by rfl, ?_⟩; intro w hSw; (try dsimp only at hSw); first | (go_simp; done) | (go_simp; with_reducible rfl))
          try simp only [Act.put, List.setIfInBounds_toArray, List.set_cons_zero, List.set_cons_succ]
          refine wpAnyH_take (i := 4) (oi := ?r17_o4) (v := ?r17_v4) ?r17_ho4 (by kernel_rfl) (by kernel_rfl) (by kernel_rfl) ?r17_hq4 ?r17_hy4 (by assumption) ?_
          case r17_ho4 => (conv => lhs; whnf; arg 1; whnf)
          case r17_hq4 => exact fun _ _ _ h => h
          case r17_hy4 => (refine Or.inl ⟨by rfl, ?_⟩; intro w hSw; (try dsimp only at hSw); first | (go_simp; done) | (go_simp; with_reducible rfl))
          try simp only [Act.put, List.setIfInBounds_toArray, List.set_cons_zero, List.set_cons_succ]
          refine wpAnyH_take (i := 5) (oi := ?r17_o5) (v := ?r17_v5) ?r17_ho5 (by kernel_rfl) (by kernel_rfl) (by kernel_rfl) ?r17_hq5 ?r17_hy5 (by assumption) ?_
          case r17_ho5 => (conv => lhs; whnf; arg 1; whnf)
          case r17_hq5 => exact fun _ _ _ h => h
          case r17_hy5 => (refine Or.inl ⟨by rfl, ?_⟩; intro w hSw; (try dsimp only at hSw); first | (go_simp; done) | (go_simp; with_reducible rfl))
          try simp only [Act.put, List.setIfInBounds_toArray, List.set_cons_zero, List.set_cons_succ]
          refine wpAnyH_take (i := 6) (oi := ?r17_o6) (v := ?r17_v6) ?r17_ho6 (by kernel_rfl) (by kernel_rfl) (by kernel_rfl) ?r17_hq6 ?r17_hy6 (by assumption) ?_
          case r17_ho6 => (conv => lhs; whnf; arg 1; whnf)
          case r17_hq6 => exact fun _ _ _ h => h
          case r17_hy6 => (refine Or.inl ⟨by rfl, ?_⟩; intro w hSw; (try dsimp only at hSw); first | (go_simp; done) | (go_simp; with_reducible rfl))
          try simp only [Act.put, List.setIfInBounds_toArray, List.set_cons_zero, List.set_cons_succ]
          refine wpAnyH_take (i := 7) (oi := ?r17_o7) (v := ?r17_v7) ?r17_ho7 (by kernel_rfl) (by kernel_rfl) (by kernel_rfl) ?r17_hq7 ?r17_hy7 (by assumption) ?_
          case r17_ho7 => (conv => lhs; whnf; arg 1; whnf)
          case r17_hq7 => exact fun _ _ _ h => h
          case r17_hy7 => (refine Or.inl ⟨by rfl, ?_⟩; intro w hSw; (try dsimp only at hSw); first | (go_simp; done) | (go_simp; with_reducible rfl))
          try simp only [Act.put, List.setIfInBounds_toArray, List.set_cons_zero, List.set_cons_succ]
          refine wpAnyH_take (i := 8) (oi := ?r17_o8) (v := ?r17_v8) ?r17_ho8 (by kernel_rfl) (by kernel_rfl) (by kernel_rfl) ?r17_hq8 ?r17_hy8 (by assumption) ?_
          case r17_ho8 => (conv => lhs; whnf; arg 1; whnf)
          case r17_hq8 => exact fun _ _ _ h => h
          case r17_hy8 => (refine Or.inl ⟨by rfl, ?_⟩; intro w hSw; (try dsimp only at hSw); first | (go_simp; done) | (go_simp; with_reducible rfl))
          try simp only [Act.put, List.setIfInBounds_toArray, List.set_cons_zero, List.set_cons_succ]
          refine wpAnyH_take (i := 9) (oi := ?r17_o9) (v := ?r17_v9) ?r17_ho9 (by kernel_rfl) (by kernel_rfl) (by kernel_rfl) ?r17_hq9 ?r17_hy9 (by assumption) ?_
          case r17_ho9 => (conv => lhs; whnf; arg 1; whnf)
          case r17_hq9 => exact fun _ _ _ h => h
          case r17_hy9 => (refine Or.inl ⟨by rfl, ?_⟩; intro w hSw; (try dsimp only at hSw); first | (go_simp; done) | (go_simp; with_reducible rfl))
          try simp only [Act.put, List.setIfInBounds_toArray, List.set_cons_zero, List.set_cons_succ]
          refine wpAnyH_take (i := 10) (oi := ?r17_o10) (v := ?r17_v10) ?r17_ho10 (by kernel_rfl) (by kernel_rfl) (by kernel_rfl) ?r17_hq10 ?r17_hy10 (by assumption) ?_
          case r17_ho10 => (conv => lhs; whnf; arg 1; whnf)
          case r17_hq10 => exact fun _ _ _ h => h
          case r17_hy10 => (refine Or.inl ⟨by rfl, ?_⟩; intro w hSw; (try dsimp only at hSw); first | (go_simp; done) | (go_simp; with_reducible rfl))
          try simp only [Act.put, List.setIfInBounds_toArray, List.set_cons_zero, List.set_cons_succ]
          refine wpAnyH_take (i := 11) (oi := ?r17_o11) (v := ?r17_v11) ?r17_ho11 (by kernel_rfl) (by kernel_rfl) (by kernel_rfl) ?r17_hq11 ?r17_hy11 (by assumption) ?_
          case r17_ho11 => (conv => lhs; whnf; arg 1; whnf)
          case r17_hq11 => exact fun _ _ _ h => h
          case r17_hy11 => (refine Or.inl ⟨by rfl, ?_⟩; intro w hSw; (try dsimp only at hSw); first | (go_simp; done) | (go_simp; with_reducible rfl))
          try simp only [Act.put, List.setIfInBounds_toArray, List.set_cons_zero, List.set_cons_succ]
          refine wpAnyH_take (i := 12) (oi := ?r17_o12) (v := ?r17_v12) ?r17_ho12 (by kernel_rfl) (by kernel_rfl) (by kernel_rfl) ?r17_hq12 ?r17_hy12 (by assumption) ?_
          case r17_ho12 => (conv => lhs; whnf; arg 1; whnf)
          case r17_hq12 => exact fun _ _ _ h => h
          case r17_hy12 => (refine Or.inl ⟨by rfl, ?_⟩; intro w hSw; (try dsimp only at hSw); first | (go_simp; done) | (go_simp; with_reducible rfl))
          try simp only [Act.put, List.setIfInBounds_toArray, List.set_cons_zero, List.set_cons_succ]
          refine wpAnyH_take (i := 13) (oi := ?r17_o13) (v := ?r17_v13) ?r17_ho13 (by kernel_rfl) (by kernel_rfl) (by kernel_rfl) ?r17_hq13 ?r17_hy13 (by assumption) ?_
          case r17_ho13 => (conv => lhs; whnf; arg 1; whnf)
          case r17_hq13 => exact fun _ _ _ h => h
          case r17_hy13 => (refine Or.inl ⟨by rfl, ?_⟩; intro w hSw; (try dsimp only at hSw); first | (go_simp; done) | (go_simp; with_reducible rfl))
          try simp only [Act.put, List.setIfInBounds_toArray, List.set_cons_zero, List.set_cons_succ]
          refine wpAnyH_take (i := 14) (oi := ?r17_o14) (v := ?r17_v14) ?r17_ho14 (by kernel_rfl) (by kernel_rfl) (by kernel_rfl) ?r17_hq14 ?r17_hy14 (by assumption) ?_
          case r17_ho14 => (conv => lhs; whnf; arg 1; whnf)
          case r17_hq14 => exact fun _ _ _ h => h
          case r17_hy14 => (refine Or.inl ⟨by rfl, ?_⟩; intro w hSw; (try dsimp only at hSw); first | (go_simp; done) | (go_simp; with_reducible rfl))
          try simp only [Act.put, List.setIfInBounds_toArray, List.set_cons_zero, List.set_cons_succ]
          refine wpAnyH_take (i := 15) (oi := ?r17_o15) (v := ?r17_v15) ?r17_ho15 (by kernel_rfl) (by kernel_rfl) (by kernel_rfl) ?r17_hq15 ?r17_hy15 (by assumption) ?_
          case r17_ho15 => (conv => lhs; whnf; arg 1; whnf)
          case r17_hq15 => exact fun _ _ _ h => h
          case r17_hy15 => (refine Or.inl ⟨by rfl, ?_⟩; intro w hSw; (try dsimp only at hSw); first | (go_simp; done) | (go_simp; with_reducible rfl))
          try simp only [Act.put, List.setIfInBounds_toArray, List.set_cons_zero, List.set_cons_succ]
          refine wpAnyH_take (i := 16) (oi := ?r17_o16) (v := ?r17_v16) ?r17_ho16 (by kernel_rfl) (by kernel_rfl) (by kernel_rfl) ?r17_hq16 ?r17_hy16 (by assumption) ?_
          case r17_ho16 => (conv => lhs; whnf; arg 1; whnf)
          case r17_hq16 => exact fun _ _ _ h => h
          case r17_hy16 => (refine Or.inl ⟨by rfl, ?_⟩; intro w hSw; (try dsimp only at hSw); first | (go_simp; done) | (go_simp; with_reducible rfl))
          try simp only [Act.put, List.setIfInBounds_toArray, List.set_cons_zero, List.set_cons_succ]
          refine wpAnyH_take (i := 17) (oi := ?r17_o17) (v := ?r17_v17) ?r17_ho17 (by kernel_rfl) (by kernel_rfl) (by kernel_rfl) ?r17_hq17 ?r17_hy17 (by assumption) ?_
          case r17_ho17 => (conv => lhs; whnf; arg 1; whnf)
          case r17_hq17 => exact fun _ _ _ h => h
          case r17_hy17 => (refine Or.inl ⟨by rfl, ?_⟩; intro w hSw; (try dsimp only at hSw); first | (go_simp; done) | (go_simp; with_reducible rfl))
          try simp only [Act.put, List.setIfInBounds_toArray, List.set_cons_zero, List.set_cons_succ]
          refine wpAnyH_take (i := 18) (oi := ?r17_o18) (v := ?r17_v18) ?r17_ho18 (by kernel_rfl) (by kernel_rfl) (by kernel_rfl) ?r17_hq18 ?r17_hy18 (by assumption) ?_
          case r17_ho18 => (conv => lhs; whnf; arg 1; whnf)
          case r17_hq18 => exact fun _ _ _ h => h
          case r17_hy18 => (refine Or.inl ⟨by rfl, ?_⟩; intro w hSw; (try dsimp only at hSw); first | (go_simp; done) | (go_simp; with_reducible rfl))
          try simp only [Act.put, List.setIfInBounds_toArray, List.set_cons_zero, List.set_cons_succ]
          refine wpAnyH_take (i := 19) (oi := ?r17_o19) (v := ?r17_v19) ?r17_ho19 (by kernel_rfl) (by kernel_rfl) (by kernel_rfl) ?r17_hq19 ?r17_hy19 (by assumption) ?_
          case r17_ho19 => (conv => lhs; whnf; arg 1; whnf)
          case r17_hq19 => exact fun _ _ _ h => h
          case r17_hy19 => (refine Or.inl ⟨by rfl, ?_⟩; intro w hSw; (try dsimp only at hSw); first | (go_simp; done) | (go_simp; with_reducible rfl))
          try simp only [Act.put, List.setIfInBounds_toArray, List.set_cons_zero, List.set_cons_succ]
          refine wpAnyH_take (i := 20) (oi := ?r17_o20) (v := ?r17_v20) ?r17_ho20 (by kernel_rfl) (by kernel_rfl) (by kernel_rfl) ?r17_hq20 ?r17_hy20 (by assumption) ?_
          case r17_ho20 => (conv => lhs; whnf; arg 1; whnf)
          case r17_hq20 => exact fun _ _ _ h => h
          case r17_hy20 => (refine Or.inl ⟨by rfl, ?_⟩; intro w hSw; (try dsimp only at hSw); first | (go_simp; done) | (go_simp; with_reducible rfl))
          try simp only [Act.put, List.setIfInBounds_toArray, List.set_cons_zero, List.set_cons_succ]
          refine wpAnyH_take (i := 21) (oi := ?r17_o21) (v := ?r17_v21) ?r17_ho21 (by kernel_rfl) (by kernel_rfl) (by kernel_rfl) ?r17_hq21 ?r17_hy21 (by assumption) ?_
          case r17_ho21 => (conv => lhs; whnf; arg 1; whnf)
          case r17_hq21 => exact fun _ _ _ h => h
          case r17_hy21 => (refine Or.inl ⟨by rfl, ?_⟩; intro w hSw; (try dsimp only at hSw); first | (go_simp; done) | (go_simp; with_reducible rfl))
          try simp only [Act.put, List.setIfInBounds_toArray, List.set_cons_zero, List.set_cons_succ]
          refine wpAnyH_take (i := 22) (oi := ?r17_o22) (v := ?r17_v22) ?r17_ho22 (by kernel_rfl) (by kernel_rfl) (by kernel_rfl) ?r17_hq22 ?r17_hy22 (by assumption) ?_
          case r17_ho22 => (conv => lhs; whnf; arg 1; whnf)
          case r17_hq22 => exact fun _ _ _ h => h
          case r17_hy22 => (refine Or.inl ⟨by rfl, ?_⟩; intro w hSw; (try dsimp only at hSw); first | (go_simp; done) | (go_simp; with_reducible rfl))
          try simp only [Act.put, List.setIfInBounds_toArray, List.set_cons_zero, List.set_cons_succ]
          refine wpAnyH_take (i := 23) (oi := ?r17_o23) (v := ?r17_v23) ?r17_ho23 (by kernel_rfl) (by kernel_rfl) (by kernel_rfl) ?r17_hq23 ?r17_hy23 (by assumption) ?_
          case r17_ho23 => (conv => lhs; whnf; arg 1; whnf)
          case r17_hq23 => exact fun _ _ _ h => h
          case r17_hy23 => (refine Or.inl ⟨by rfl, ?_⟩; intro w hSw; (try dsimp only at hSw); first | (go_simp; done) | (go_simp; with_reducible rfl))
          try simp only [Act.put, List.setIfInBounds_toArray, List.set_cons_zero, List.set_cons_succ]
          refine wpAnyH_take (i := 24) (oi := ?r17_o24) (v := ?r17_v24) ?r17_ho24 (by kernel_rfl) (by kernel_rfl) (by kernel_rfl) ?r17_hq24 ?r17_hy24 (by assumption) ?_
          case r17_ho24 => (conv => lhs; whnf; arg 1; whnf)
          case r17_hq24 => exact fun _ _ _ h => h
          case r17_hy24 => (refine Or.inl ⟨by rfl, ?_⟩; intro w hSw; (try dsimp only at hSw); first | (go_simp; done) | (go_simp; with_reducible rfl))
          try simp only [Act.put, List.setIfInBounds_toArray, List.set_cons_zero, List.set_cons_succ]
          refine wpAnyH_take (i := 25) (oi := ?r17_o25) (v := undef) ?r17_ho25 (by kernel_rfl) (by kernel_rfl) (by kernel_rfl) ?r17_hq25 ?r17_hy25 (by assumption) ?_
          case r17_ho25 => (conv => lhs; whnf; arg 1; whnf)
          case r17_hq25 => exact fun _ _ _ h => h
          case r17_hy25 => exact Or.inr ⟨by rfl, rfl⟩
          try simp only [Act.put, List.setIfInBounds_toArray, List.set_cons_zero, List.set_cons_succ]
          refine wpAnyH_take (i := 26) (oi := ?r17_o26) (v := undef) ?r17_ho26 (by kernel_rfl) (by kernel_rfl) (by kernel_rfl) ?r17_hq26 ?r17_hy26 (by assumption) ?_
          case r17_ho26 => (conv => lhs; whnf; arg 1; whnf)
          case r17_hq26 => exact fun _ _ _ h => h
          case r17_hy26 => exact Or.inr ⟨by rfl, rfl⟩
          try simp only [Act.put, List.setIfInBounds_toArray, List.set_cons_zero, List.set_cons_succ]
          refine wpAnyH_take (i := 27) (oi := ?r17_o27) (v := undef) ?r17_ho27 (by kernel_rfl) (by kernel_rfl) (by kernel_rfl) ?r17_hq27 ?r17_hy27 (by assumption) ?_
          case r17_ho27 => (conv => lhs; whnf; arg 1; whnf)
          case r17_hq27 => exact fun _ _ _ h => h
          case r17_hy27 => exact Or.inr ⟨by rfl, rfl⟩
          try simp only [Act.put, List.setIfInBounds_toArray, List.set_cons_zero, List.set_cons_succ]
          refine wpAnyH_take (i := 28) (oi := ?r17_o28) (v := ?r17_v28) ?r17_ho28 (by kernel_rfl) (by kernel_rfl) (by kernel_rfl) ?r17_hq28 ?r17_hy28 (by assumption) ?_
          case r17_ho28 => (conv => lhs; whnf; arg 1; whnf)
          case r17_hq28 => exact fun _ _ _ h => h
          case r17_hy28 => (refine Or.inl ⟨by rfl, ?_⟩; intro w hSw; (try dsimp only at hSw); first | (go_simp; done) | (go_simp; with_reducible rfl))
          try simp only [Act.put, List.setIfInBounds_toArray, List.set_cons_zero, List.set_cons_succ]
          refine wpAnyH_take (i := 29) (oi := ?r17_o29) (v := ?r17_v29) ?r17_ho29 (by kernel_rfl) (by kernel_rfl) (by kernel_rfl) ?r17_hq29 ?r17_hy29 (by assumption) ?_
          case r17_ho29 => (conv => lhs; whnf; arg 1; whnf)
          case r17_hq29 => exact fun _ _ _ h => h
          case r17_hy29 => (refine Or.inl ⟨by rfl, ?_⟩; intro w hSw; (try dsimp only at hSw); first | (go_simp; done) | (go_simp; with_reducible rfl))
          try simp only [Act.put, List.setIfInBounds_toArray, List.set_cons_zero, List.set_cons_succ]
          refine wpAnyH_take (i := 30) (oi := ?r17_o30) (v := ?r17_v30) ?r17_ho30 (by kernel_rfl) (by kernel_rfl) (by kernel_rfl) ?r17_hq30 ?r17_hy30 (by assumption) ?_
          case r17_ho30 => (conv => lhs; whnf; arg 1; whnf)
          case r17_hq30 => exact fun _ _ _ h => h
          case r17_hy30 => (refine Or.inl ⟨by rfl, ?_⟩; intro w hSw; (try dsimp only at hSw); first | (go_simp; done) | (go_simp; with_reducible rfl))
          try simp only [Act.put, List.setIfInBounds_toArray, List.set_cons_zero, List.set_cons_succ]
          refine wpAnyH_done (by kernel_rfl) ?_ _
          go_wp2
          go_ret
          exact ⟨rfl, (E0.out.trans HX3.out).drew⟩
        · rw [lineFitsB_no (fun h => htg ((HIFF.out.1 h).2.2 rfl))]
          clear HIFF
          subst hfr
          subst hr
          go_enter Tryd.func25, Tryd.ntmps25
          go_wp2_with fail
          refine (CT.out _ ((HO.out.alloc _).alloc _)).mono ?_
          rintro r w0 ⟨rfl, he⟩
          obtain ⟨gm, hgm⟩ : ∃ gm : Nat, gm = w.heap.size := ⟨_, rfl⟩
          obtain ⟨gl, hgl⟩ : ∃ gl : Nat, gl = w.heap.size + 1 := ⟨_, rfl⟩
          have K0 : Hid (Blk w0 gm 46 [.slice A nb c, .slice (some ⟨b2, o2, none⟩) n d, .slice L nl e, .int .i64 m.cache.hand, .int .i64 m.tags.count, .int .i64 m.tags.next, .int .i64 m.tags.round, .slice O no g, .int .i64 m.space]) := Lib.hid (by rw [hgm]; exact ((Blk.new w _ _).alloc _).ex he)
          have K1 : Hid (Blk w0 gl 74 [.bool xv, .int .i64 xt, .int .i64 xp, .int .i64 (i : Int), .int .i64 f.rights, .bool true]) := Lib.hid (by rw [hgl]; exact (Blk.new_at _ _ _ (by simp)).ex he)
          have E0 : Hid (Ex w w0) := Lib.hid (((Ex.refl w).alloc _).alloc _ |>.trans he)
          clear he
          rw [← hgl]
          rw [← hgm]
          clear hgm hgl
          go_wp2_with fail
          have FK9 : Hid (∀ w', Ex w0 w' → (w'.cell? ⟨gm, 0, none⟩ = some (.slice A nb c) ∧ w'.cell? ⟨gm, 1, none⟩ = some (.slice (some ⟨b2, o2, none⟩) n d) ∧ w'.cell? ⟨gl, 2, none⟩ = some (.int .i64 xp))) := Lib.hid (fun w' h => ⟨(K0.out.ex h).c9.1, (K0.out.ex h).c9.2.1, (K1.out.ex h).c6.2.2.1⟩)
          refine wp_region_held_drew (S := (fun w' => (w'.cell? ⟨gm, 0, none⟩ = some (.slice A nb c) ∧ w'.cell? ⟨gm, 1, none⟩ = some (.slice (some ⟨b2, o2, none⟩) n d) ∧ w'.cell? ⟨gl, 2, none⟩ = some (.int .i64 xp)))) (by kernel_rfl) ?r18_hS0 (fun hHeld => ?_)
          case r18_hS0 => exact FK9.out _ (Ex.refl _).drew
          refine wpAnyH_take (i := 0) (oi := ?r18_o0) (v := ?r18_v0) ?r18_ho0 (by kernel_rfl) (by kernel_rfl) (by kernel_rfl) ?r18_hq0 ?r18_hy0 (by assumption) ?_
          case r18_ho0 => (conv => lhs; whnf; arg 1; whnf)
          case r18_hq0 => exact fun _ _ _ h => h
          case r18_hy0 => (refine Or.inl ⟨by rfl, ?_⟩; intro w hSw; (try dsimp only at hSw); first | (go_simp; done) | (go_simp; with_reducible rfl))
          try simp only [Act.put, List.setIfInBounds_toArray, List.set_cons_zero, List.set_cons_succ]
          refine wpAnyH_take (i := 1) (oi := ?r18_o1) (v := ?r18_v1) ?r18_ho1 (by kernel_rfl) (by kernel_rfl) (by kernel_rfl) ?r18_hq1 ?r18_hy1 (by assumption) ?_
          case r18_ho1 => (conv => lhs; whnf; arg 1; whnf)
          case r18_hq1 => exact fun _ _ _ h => h
          case r18_hy1 => (refine Or.inl ⟨by rfl, ?_⟩; intro w hSw; (try dsimp only at hSw); first | (go_simp; done) | (go_simp; with_reducible rfl))
          try simp only [Act.put, List.setIfInBounds_toArray, List.set_cons_zero, List.set_cons_succ]
          refine wpAnyH_take (i := 2) (oi := ?r18_o2) (v := ?r18_v2) ?r18_ho2 (by kernel_rfl) (by kernel_rfl) (by kernel_rfl) ?r18_hq2 ?r18_hy2 (by assumption) ?_
          case r18_ho2 => (conv => lhs; whnf; arg 1; whnf)
          case r18_hq2 => exact fun _ _ _ h => h
          case r18_hy2 => (refine Or.inl ⟨by rfl, ?_⟩; intro w hSw; (try dsimp only at hSw); first | (go_simp; done) | (go_simp; with_reducible rfl))
          try simp only [Act.put, List.setIfInBounds_toArray, List.set_cons_zero, List.set_cons_succ]
          refine wpAnyH_take (i := 3) (oi := ?r18_o3) (v := ?r18_v3) ?r18_ho3 (by kernel_rfl) (by kernel_rfl) (by kernel_rfl) ?r18_hq3 ?r18_hy3 (by assumption) ?_
          case r18_ho3 => (conv => lhs; whnf; arg 1; whnf)
          case r18_hq3 => exact fun _ _ _ h => h
          case r18_hy3 => (refine Or.inl ⟨by rfl, ?_⟩; intro w hSw; (try dsimp only at hSw); first | (go_simp; done) | (go_simp; with_reducible rfl))
          try simp only [Act.put, List.setIfInBounds_toArray, List.set_cons_zero, List.set_cons_succ]
          refine wpAnyH_take (i := 4) (oi := ?r18_o4) (v := ?r18_v4) ?r18_ho4 (by kernel_rfl) (by kernel_rfl) (by kernel_rfl) ?r18_hq4 ?r18_hy4 (by assumption) ?_
          case r18_ho4 => (conv => lhs; whnf; arg 1; whnf)
          case r18_hq4 => exact fun _ _ _ h => h
          case r18_hy4 => (refine Or.inl ⟨by rfl, ?_⟩; intro w hSw; (try dsimp only at hSw); first | (go_simp; done) | (go_simp; with_reducible rfl))
          try simp only [Act.put, List.setIfInBounds_toArray, List.set_cons_zero, List.set_cons_succ]
          refine wpAnyH_ready (rs := [5]) (by kernel_rfl) (by simp) ?_
          refine AllReadyH.cons (o := ?r18_o5) ?r18_ho5 (fun K hK => ?_) AllReadyH.nil
          case r18_ho5 => (conv => lhs; whnf; arg 1; whnf)
          refine step_call_gu rfl CEK.out _ _ rfl #[.int .i64 sp, .int .i64 xp] rfl (CK0.out _) ?_; rintro r wa ⟨rfl, hwa⟩; refine ⟨_, rfl, ?_⟩; have hxa := Ex.trans (Ex.refl _).drew hwa
          refine hK.out _ _ ?r18_hS5 (fun hHeld5 => ?_)
          case r18_hS5 => exact FK9.out _ hxa
          clear hK K hHeld
          try simp only [Act.put, List.setIfInBounds_toArray, List.set_cons_zero, List.set_cons_succ]
          refine wpAnyH_ready (rs := [6]) (by kernel_rfl) (by simp) ?_
          refine AllReadyH.cons (o := ?r18_o6) ?r18_ho6 (fun K hK => ?_) AllReadyH.nil
          case r18_ho6 => (conv => lhs; whnf; arg 1; whnf)
          refine step_call_gu rfl CEF.out _ _ rfl #[.agg #[.slice A nb c, .slice (some ⟨b2, o2, none⟩) n d], .agg #[.int .i64 kk.space, .int .i64 kk.page]] rfl (CF0.out _ (HB.out.ex (E0.out.trans hxa)) (HF.out.ex (E0.out.trans hxa))) ?_; rintro r w3 ⟨⟨s2, rfl⟩, he⟩; refine ⟨_, rfl, ?_⟩; have hx3 := Ex.trans hxa he
          refine hK.out _ _ ?r18_hS6 (fun hHeld6 => ?_)
          case r18_hS6 => exact FK9.out _ hx3
          clear hK K hHeld5
          try simp only [Act.put, List.setIfInBounds_toArray, List.set_cons_zero, List.set_cons_succ]
          refine wpAnyH_take (i := 7) (oi := ?r18_o7) (v := ?r18_v7) ?r18_ho7 (by kernel_rfl) (by kernel_rfl) (by kernel_rfl) ?r18_hq7 ?r18_hy7 (by assumption) ?_
          case r18_ho7 => (conv => lhs; whnf; arg 1; whnf)
          case r18_hq7 => exact fun _ _ _ h => h
          case r18_hy7 => (refine Or.inl ⟨by rfl, ?_⟩; intro w hSw; (try dsimp only at hSw); first | (go_simp; done) | (go_simp; with_reducible rfl))
          try simp only [Act.put, List.setIfInBounds_toArray, List.set_cons_zero, List.set_cons_succ]
          refine wpAnyH_take (i := 8) (oi := ?r18_o8) (v := ?r18_v8) ?r18_ho8 (by kernel_rfl) (by kernel_rfl) (by kernel_rfl) ?r18_hq8 ?r18_hy8 (by assumption) ?_
          case r18_ho8 => (conv => lhs; whnf; arg 1; whnf)
          case r18_hq8 => exact fun _ _ _ h => h
          case r18_hy8 => (refine Or.inl ⟨by rfl, ?_⟩; intro w hSw; (try dsimp only at hSw); first | (go_simp; done) | (go_simp; with_reducible rfl))
          try simp only [Act.put, List.setIfInBounds_toArray, List.set_cons_zero, List.set_cons_succ]
          refine wpAnyH_take (i := 9) (oi := ?r18_o9) (v := ?r18_v9) ?r18_ho9 (by kernel_rfl) (by kernel_rfl) (by kernel_rfl) ?r18_hq9 ?r18_hy9 (by assumption) ?_
          case r18_ho9 => (conv => lhs; whnf; arg 1; whnf)
          case r18_hq9 => exact fun _ _ _ h => h
          case r18_hy9 => (refine Or.inl ⟨by rfl, ?_⟩; intro w hSw; (try dsimp only at hSw); first | (go_simp; done) | (go_simp; with_reducible rfl))
          try simp only [Act.put, List.setIfInBounds_toArray, List.set_cons_zero, List.set_cons_succ]
          refine wpAnyH_take (i := 10) (oi := ?r18_o10) (v := ?r18_v10) ?r18_ho10 (by kernel_rfl) (by kernel_rfl) (by kernel_rfl) ?r18_hq10 ?r18_hy10 (by assumption) ?_
          case r18_ho10 => (conv => lhs; whnf; arg 1; whnf)
          case r18_hq10 => exact fun _ _ _ h => h
          case r18_hy10 => (refine Or.inl ⟨by rfl, ?_⟩; intro w hSw; (try dsimp only at hSw); first | (go_simp; done) | (go_simp; with_reducible rfl))
          try simp only [Act.put, List.setIfInBounds_toArray, List.set_cons_zero, List.set_cons_succ]
          refine wpAnyH_take (i := 11) (oi := ?r18_o11) (v := ?r18_v11) ?r18_ho11 (by kernel_rfl) (by kernel_rfl) (by kernel_rfl) ?r18_hq11 ?r18_hy11 (by assumption) ?_
          case r18_ho11 => (conv => lhs; whnf; arg 1; whnf)
          case r18_hq11 => exact fun _ _ _ h => h
          case r18_hy11 => (refine Or.inl ⟨by rfl, ?_⟩; intro w hSw; (try dsimp only at hSw); first | (go_simp; done) | (go_simp; with_reducible rfl))
          try simp only [Act.put, List.setIfInBounds_toArray, List.set_cons_zero, List.set_cons_succ]
          refine wpAnyH_done (by kernel_rfl) ?_ _
          have HX3 := Lib.hid hx3
          clear hx3 hxa he hwa
          go_wp2_with fail
          have FK10 : Hid (∀ w', Ex w3 w' → (w'.cell? ⟨gl, 3, none⟩ = some (.int .i64 (i : Int)) ∧ w'.cell? ⟨gl, 4, none⟩ = some (.int .i64 f.rights) ∧ w'.cell? ⟨gl, 5, none⟩ = some (.bool true) ∧ w'.cell? ⟨gl, 1, none⟩ = some (.int .i64 xt) ∧ w'.cell? ⟨gm, 1, none⟩ = some (.slice (some ⟨b2, o2, none⟩) n d) ∧ w'.cell? ⟨b2, o2 + i * 5 + 3, none⟩ = some (.int .i64 f.rights))) := Lib.hid (fun w' h => ⟨(K1.out.ex (HX3.out.trans h)).c6.2.2.2.1, (K1.out.ex (HX3.out.trans h)).c6.2.2.2.2.1, (K1.out.ex (HX3.out.trans h)).c6.2.2.2.2.2, (K1.out.ex (HX3.out.trans h)).c6.2.1, (K0.out.ex (HX3.out.trans h)).c9.2.1, (((E0.out.trans HX3.out).trans h).cell HB2.out).trans K3.out⟩)
          refine wp_region_held_drew (S := (fun w' => (w'.cell? ⟨gl, 3, none⟩ = some (.int .i64 (i : Int)) ∧ w'.cell? ⟨gl, 4, none⟩ = some (.int .i64 f.rights) ∧ w'.cell? ⟨gl, 5, none⟩ = some (.bool true) ∧ w'.cell? ⟨gl, 1, none⟩ = some (.int .i64 xt) ∧ w'.cell? ⟨gm, 1, none⟩ = some (.slice (some ⟨b2, o2, none⟩) n d) ∧ w'.cell? ⟨b2, o2 + i * 5 + 3, none⟩ = some (.int .i64 f.rights)))) (by kernel_rfl) ?r19_hS0 (fun hHeld => ?_)
          case r19_hS0 => exact FK10.out _ (Ex.refl _).drew
          refine wpAnyH_take (i := 0) (oi := ?r19_o0) (v := ?r19_v0) ?r19_ho0 (by kernel_rfl) (by kernel_rfl) (by kernel_rfl) ?r19_hq0 ?r19_hy0 (by assumption) ?_
          case r19_ho0 => (conv => lhs; whnf; arg 1; whnf)
          case r19_hq0 => exact fun _ _ _ h => h
          case r19_hy0 => (refine Or.inl ⟨by rfl, ?_⟩; intro w hSw; (try dsimp only at hSw); first | (go_simp; done) | (go_simp; with_reducible rfl))
          try simp only [Act.put, List.setIfInBounds_toArray, List.set_cons_zero, List.set_cons_succ]
          refine wpAnyH_take (i := 1) (oi := ?r19_o1) (v := ?r19_v1) ?r19_ho1 (by kernel_rfl) (by kernel_rfl) (by kernel_rfl) ?r19_hq1 ?r19_hy1 (by assumption) ?_
          case r19_ho1 => (conv => lhs; whnf; arg 1; whnf)
          case r19_hq1 => exact fun _ _ _ h => h
          case r19_hy1 => (refine Or.inl ⟨by rfl, ?_⟩; intro w hSw; (try dsimp only at hSw); first | (go_simp; done) | (go_simp; with_reducible rfl))
          try simp only [Act.put, List.setIfInBounds_toArray, List.set_cons_zero, List.set_cons_succ]
          refine wpAnyH_take (i := 2) (oi := ?r19_o2) (v := ?r19_v2) ?r19_ho2 (by kernel_rfl) (by kernel_rfl) (by kernel_rfl) ?r19_hq2 ?r19_hy2 (by assumption) ?_
          case r19_ho2 => (conv => lhs; whnf; arg 1; whnf)
          case r19_hq2 => exact fun _ _ _ h => h
          case r19_hy2 => (refine Or.inl ⟨by rfl, ?_⟩; intro w hSw; (try dsimp only at hSw); first | (go_simp; done) | (go_simp; with_reducible rfl))
          try simp only [Act.put, List.setIfInBounds_toArray, List.set_cons_zero, List.set_cons_succ]
          refine wpAnyH_take (i := 3) (oi := ?r19_o3) (v := ?r19_v3) ?r19_ho3 (by kernel_rfl) (by kernel_rfl) (by kernel_rfl) ?r19_hq3 ?r19_hy3 (by assumption) ?_
          case r19_ho3 => (conv => lhs; whnf; arg 1; whnf)
          case r19_hq3 => exact fun _ _ _ h => h
          case r19_hy3 => (refine Or.inl ⟨by rfl, ?_⟩; intro w hSw; (try dsimp only at hSw); first | (go_simp; done) | (go_simp; with_reducible rfl))
          try simp only [Act.put, List.setIfInBounds_toArray, List.set_cons_zero, List.set_cons_succ]
          refine wpAnyH_take (i := 4) (oi := ?r19_o4) (v := ?r19_v4) ?r19_ho4 (by kernel_rfl) (by kernel_rfl) (by kernel_rfl) ?r19_hq4 ?r19_hy4 (by assumption) ?_
          case r19_ho4 => (conv => lhs; whnf; arg 1; whnf)
          case r19_hq4 => exact fun _ _ _ h => h
          case r19_hy4 => (refine Or.inl ⟨by rfl, ?_⟩; intro w hSw; (try dsimp only at hSw); first | (go_simp; done) | (go_simp; with_reducible rfl))
          try simp only [Act.put, List.setIfInBounds_toArray, List.set_cons_zero, List.set_cons_succ]
          refine wpAnyH_take (i := 5) (oi := ?r19_o5) (v := ?r19_v5) ?r19_ho5 (by kernel_rfl) (by kernel_rfl) (by kernel_rfl) ?r19_hq5 ?r19_hy5 (by assumption) ?_
          case r19_ho5 => (conv => lhs; whnf; arg 1; whnf)
          case r19_hq5 => exact fun _ _ _ h => h
          case r19_hy5 => (refine Or.inl ⟨by rfl, ?_⟩; intro w hSw; (try dsimp only at hSw); first | (go_simp; done) | (go_simp; with_reducible rfl))
          try simp only [Act.put, List.setIfInBounds_toArray, List.set_cons_zero, List.set_cons_succ]
          refine wpAnyH_take (i := 6) (oi := ?r19_o6) (v := ?r19_v6) ?r19_ho6 (by kernel_rfl) (by kernel_rfl) (by kernel_rfl) ?r19_hq6 ?r19_hy6 (by assumption) ?_
          case r19_ho6 => (conv => lhs; whnf; arg 1; whnf)
          case r19_hq6 => exact fun _ _ _ h => h
          case r19_hy6 => (refine Or.inl ⟨by rfl, ?_⟩; intro w hSw; (try dsimp only at hSw); first | (go_simp; done) | (go_simp; with_reducible rfl))
          try simp only [Act.put, List.setIfInBounds_toArray, List.set_cons_zero, List.set_cons_succ]
          refine wpAnyH_take (i := 7) (oi := ?r19_o7) (v := ?r19_v7) ?r19_ho7 (by kernel_rfl) (by kernel_rfl) (by kernel_rfl) ?r19_hq7 ?r19_hy7 (by assumption) ?_
          case r19_ho7 => (conv => lhs; whnf; arg 1; whnf)
          case r19_hq7 => exact fun _ _ _ h => h
          case r19_hy7 => (refine Or.inl ⟨by rfl, ?_⟩; intro w hSw; (try dsimp only at hSw); first | (go_simp; done) | (go_simp; with_reducible rfl))
          try simp only [Act.put, List.setIfInBounds_toArray, List.set_cons_zero, List.set_cons_succ]
          refine wpAnyH_take (i := 8) (oi := ?r19_o8) (v := ?r19_v8) ?r19_ho8 (by kernel_rfl) (by kernel_rfl) (by kernel_rfl) ?r19_hq8 ?r19_hy8 (by assumption) ?_
          case r19_ho8 => (conv => lhs; whnf; arg 1; whnf)
          case r19_hq8 => exact fun _ _ _ h => h
          case r19_hy8 => (refine Or.inl ⟨by rfl, ?_⟩; intro w hSw; (try dsimp only at hSw); first | (go_simp; done) | (go_simp; with_reducible rfl))
          try simp only [Act.put, List.setIfInBounds_toArray, List.set_cons_zero, List.set_cons_succ]
          refine wpAnyH_take (i := 9) (oi := ?r19_o9) (v := ?r19_v9) ?r19_ho9 (by kernel_rfl) (by kernel_rfl) (by kernel_rfl) ?r19_hq9 ?r19_hy9 (by assumption) ?_
          case r19_ho9 => (conv => lhs; whnf; arg 1; whnf)
          case r19_hq9 => exact fun _ _ _ h => h
          case r19_hy9 => (refine Or.inl ⟨by rfl, ?_⟩; intro w hSw; (try dsimp only at hSw); first | (go_simp; done) | (go_simp; with_reducible rfl))
          try simp only [Act.put, List.setIfInBounds_toArray, List.set_cons_zero, List.set_cons_succ]
          refine wpAnyH_take (i := 10) (oi := ?r19_o10) (v := ?r19_v10) ?r19_ho10 (by kernel_rfl) (by kernel_rfl) (by kernel_rfl) ?r19_hq10 ?r19_hy10 (by assumption) ?_
          case r19_ho10 => (conv => lhs; whnf; arg 1; whnf)
          case r19_hq10 => exact fun _ _ _ h => h
          case r19_hy10 => (refine Or.inl ⟨by rfl, ?_⟩; intro w hSw; (try dsimp only at hSw); first | (go_simp; done) | (go_simp; with_reducible rfl))
          try simp only [Act.put, List.setIfInBounds_toArray, List.set_cons_zero, List.set_cons_succ]
          refine wpAnyH_take (i := 11) (oi := ?r19_o11) (v := ?r19_v11) ?r19_ho11 (by kernel_rfl) (by kernel_rfl) (by kernel_rfl) ?r19_hq11 ?r19_hy11 (by assumption) ?_
          case r19_ho11 => (conv => lhs; whnf; arg 1; whnf)
          case r19_hq11 => exact fun _ _ _ h => h
          case r19_hy11 => (refine Or.inl ⟨by rfl, ?_⟩; intro w hSw; (try dsimp only at hSw); first | (go_simp; done) | (go_simp; with_reducible rfl))
          try simp only [Act.put, List.setIfInBounds_toArray, List.set_cons_zero, List.set_cons_succ]
          refine wpAnyH_take (i := 12) (oi := ?r19_o12) (v := ?r19_v12) ?r19_ho12 (by kernel_rfl) (by kernel_rfl) (by kernel_rfl) ?r19_hq12 ?r19_hy12 (by assumption) ?_
          case r19_ho12 => (conv => lhs; whnf; arg 1; whnf)
          case r19_hq12 => exact fun _ _ _ h => h
          case r19_hy12 => (refine Or.inl ⟨by rfl, ?_⟩; intro w hSw; (try dsimp only at hSw); first | (go_simp; done) | (go_simp; with_reducible rfl))
          try simp only [Act.put, List.setIfInBounds_toArray, List.set_cons_zero, List.set_cons_succ]
          refine wpAnyH_take (i := 13) (oi := ?r19_o13) (v := ?r19_v13) ?r19_ho13 (by kernel_rfl) (by kernel_rfl) (by kernel_rfl) ?r19_hq13 ?r19_hy13 (by assumption) ?_
          case r19_ho13 => (conv => lhs; whnf; arg 1; whnf)
          case r19_hq13 => exact fun _ _ _ h => h
          case r19_hy13 => (refine Or.inl ⟨by rfl, ?_⟩; intro w hSw; (try dsimp only at hSw); first | (go_simp; done) | (go_simp; with_reducible rfl))
          try simp only [Act.put, List.setIfInBounds_toArray, List.set_cons_zero, List.set_cons_succ]
          refine wpAnyH_take (i := 14) (oi := ?r19_o14) (v := ?r19_v14) ?r19_ho14 (by kernel_rfl) (by kernel_rfl) (by kernel_rfl) ?r19_hq14 ?r19_hy14 (by assumption) ?_
          case r19_ho14 => (conv => lhs; whnf; arg 1; whnf)
          case r19_hq14 => exact fun _ _ _ h => h
          case r19_hy14 => (refine Or.inl ⟨by rfl, ?_⟩; intro w hSw; (try dsimp only at hSw); first | (go_simp; done) | (go_simp; with_reducible rfl))
          try simp only [Act.put, List.setIfInBounds_toArray, List.set_cons_zero, List.set_cons_succ]
          refine wpAnyH_take (i := 15) (oi := ?r19_o15) (v := ?r19_v15) ?r19_ho15 (by kernel_rfl) (by kernel_rfl) (by kernel_rfl) ?r19_hq15 ?r19_hy15 (by assumption) ?_
          case r19_ho15 => (conv => lhs; whnf; arg 1; whnf)
          case r19_hq15 => exact fun _ _ _ h => h
          case r19_hy15 => (refine Or.inl ⟨by rfl, ?_⟩; intro w hSw; (try dsimp only at hSw); first | (go_simp; done) | (go_simp; with_reducible rfl))
          try simp only [Act.put, List.setIfInBounds_toArray, List.set_cons_zero, List.set_cons_succ]
          refine wpAnyH_take (i := 16) (oi := ?r19_o16) (v := ?r19_v16) ?r19_ho16 (by kernel_rfl) (by kernel_rfl) (by kernel_rfl) ?r19_hq16 ?r19_hy16 (by assumption) ?_
          case r19_ho16 => (conv => lhs; whnf; arg 1; whnf)
          case r19_hq16 => exact fun _ _ _ h => h
          case r19_hy16 => (refine Or.inl ⟨by rfl, ?_⟩; intro w hSw; (try dsimp only at hSw); first | (go_simp; done) | (go_simp; with_reducible rfl))
          try simp only [Act.put, List.setIfInBounds_toArray, List.set_cons_zero, List.set_cons_succ]
          refine wpAnyH_take (i := 17) (oi := ?r19_o17) (v := ?r19_v17) ?r19_ho17 (by kernel_rfl) (by kernel_rfl) (by kernel_rfl) ?r19_hq17 ?r19_hy17 (by assumption) ?_
          case r19_ho17 => (conv => lhs; whnf; arg 1; whnf)
          case r19_hq17 => exact fun _ _ _ h => h
          case r19_hy17 => (refine Or.inl ⟨by rfl, ?_⟩; intro w hSw; (try dsimp only at hSw); first | (go_simp; done) | (go_simp; with_reducible rfl))
          try simp only [Act.put, List.setIfInBounds_toArray, List.set_cons_zero, List.set_cons_succ]
          refine wpAnyH_take (i := 18) (oi := ?r19_o18) (v := ?r19_v18) ?r19_ho18 (by kernel_rfl) (by kernel_rfl) (by kernel_rfl) ?r19_hq18 ?r19_hy18 (by assumption) ?_
          case r19_ho18 => (conv => lhs; whnf; arg 1; whnf)
          case r19_hq18 => exact fun _ _ _ h => h
          case r19_hy18 => (refine Or.inl ⟨by rfl, ?_⟩; intro w hSw; (try dsimp only at hSw); first | (go_simp; done) | (go_simp; with_reducible rfl))
          try simp only [Act.put, List.setIfInBounds_toArray, List.set_cons_zero, List.set_cons_succ]
          refine wpAnyH_take (i := 19) (oi := ?r19_o19) (v := ?r19_v19) ?r19_ho19 (by kernel_rfl) (by kernel_rfl) (by kernel_rfl) ?r19_hq19 ?r19_hy19 (by assumption) ?_
          case r19_ho19 => (conv => lhs; whnf; arg 1; whnf)
          case r19_hq19 => exact fun _ _ _ h => h
          case r19_hy19 => (refine Or.inl ⟨by rfl, ?_⟩; intro w hSw; (try dsimp only at hSw); first | (go_simp; done) | (go_simp; with_reducible rfl))
          try simp only [Act.put, List.setIfInBounds_toArray, List.set_cons_zero, List.set_cons_succ]
          refine wpAnyH_take (i := 20) (oi := ?r19_o20) (v := ?r19_v20) ?r19_ho20 (by kernel_rfl) (by kernel_rfl) (by kernel_rfl) ?r19_hq20 ?r19_hy20 (by assumption) ?_
          case r19_ho20 => (conv => lhs; whnf; arg 1; whnf)
          case r19_hq20 => exact fun _ _ _ h => h
          case r19_hy20 => (refine Or.inl ⟨by rfl, ?_⟩; intro w hSw; (try dsimp only at hSw); first | (go_simp; done) | (go_simp; with_reducible rfl))
          try simp only [Act.put, List.setIfInBounds_toArray, List.set_cons_zero, List.set_cons_succ]
          refine wpAnyH_take (i := 21) (oi := ?r19_o21) (v := ?r19_v21) ?r19_ho21 (by kernel_rfl) (by kernel_rfl) (by kernel_rfl) ?r19_hq21 ?r19_hy21 (by assumption) ?_
          case r19_ho21 => (conv => lhs; whnf; arg 1; whnf)
          case r19_hq21 => exact fun _ _ _ h => h
          case r19_hy21 => (refine Or.inl ⟨by rfl, ?_⟩; intro w hSw; (try dsimp only at hSw); first | (go_simp; done) | (go_simp; with_reducible rfl))
          try simp only [Act.put, List.setIfInBounds_toArray, List.set_cons_zero, List.set_cons_succ]
          refine wpAnyH_take (i := 22) (oi := ?r19_o22) (v := ?r19_v22) ?r19_ho22 (by kernel_rfl) (by kernel_rfl) (by kernel_rfl) ?r19_hq22 ?r19_hy22 (by assumption) ?_
          case r19_ho22 => (conv => lhs; whnf; arg 1; whnf)
          case r19_hq22 => exact fun _ _ _ h => h
          case r19_hy22 => (refine Or.inl ⟨by rfl, ?_⟩; intro w hSw; (try dsimp only at hSw); first | (go_simp; done) | (go_simp; with_reducible rfl))
          try simp only [Act.put, List.setIfInBounds_toArray, List.set_cons_zero, List.set_cons_succ]
          refine wpAnyH_take (i := 23) (oi := ?r19_o23) (v := ?r19_v23) ?r19_ho23 (by kernel_rfl) (by kernel_rfl) (by kernel_rfl) ?r19_hq23 ?r19_hy23 (by assumption) ?_
          case r19_ho23 => (conv => lhs; whnf; arg 1; whnf)
          case r19_hq23 => exact fun _ _ _ h => h
          case r19_hy23 => (refine Or.inl ⟨by rfl, ?_⟩; intro w hSw; (try dsimp only at hSw); first | (go_simp; done) | (go_simp; with_reducible rfl))
          try simp only [Act.put, List.setIfInBounds_toArray, List.set_cons_zero, List.set_cons_succ]
          refine wpAnyH_take (i := 24) (oi := ?r19_o24) (v := ?r19_v24) ?r19_ho24 (by kernel_rfl) (by kernel_rfl) (by kernel_rfl) ?r19_hq24 ?r19_hy24 (by assumption) ?_
          case r19_ho24 => (conv => lhs; whnf; arg 1; whnf)
          case r19_hq24 => exact fun _ _ _ h => h
          case r19_hy24 => (refine Or.inl ⟨by rfl, ?_⟩; intro w hSw; (try dsimp only at hSw); first | (go_simp; done) | (go_simp; with_reducible rfl))
          try simp only [Act.put, List.setIfInBounds_toArray, List.set_cons_zero, List.set_cons_succ]
          refine wpAnyH_take (i := 25) (oi := ?r19_o25) (v := ?r19_v25) ?r19_ho25 (by kernel_rfl) (by kernel_rfl) (by kernel_rfl) ?r19_hq25 ?r19_hy25 (by assumption) ?_
          case r19_ho25 => (conv => lhs; whnf; arg 1; whnf)
          case r19_hq25 => exact fun _ _ _ h => h
          case r19_hy25 => (refine Or.inl ⟨by rfl, ?_⟩; intro w hSw; (try dsimp only at hSw); first | (go_simp; done) | (go_simp; with_reducible rfl))
          try simp only [Act.put, List.setIfInBounds_toArray, List.set_cons_zero, List.set_cons_succ]
          refine wpAnyH_take (i := 26) (oi := ?r19_o26) (v := ?r19_v26) ?r19_ho26 (by kernel_rfl) (by kernel_rfl) (by kernel_rfl) ?r19_hq26 ?r19_hy26 (by assumption) ?_
          case r19_ho26 => (conv => lhs; whnf; arg 1; whnf)
          case r19_hq26 => exact fun _ _ _ h => h
          case r19_hy26 => (refine Or.inl ⟨by rfl, ?_⟩; intro w hSw; (try dsimp only at hSw); first | (go_simp; done) | (go_simp; with_reducible rfl))
          try simp only [Act.put, List.setIfInBounds_toArray, List.set_cons_zero, List.set_cons_succ]
          refine wpAnyH_take (i := 27) (oi := ?r19_o27) (v := ?r19_v27) ?r19_ho27 (by kernel_rfl) (by kernel_rfl) (by kernel_rfl) ?r19_hq27 ?r19_hy27 (by assumption) ?_
          case r19_ho27 => (conv => lhs; whnf; arg 1; whnf)
          case r19_hq27 => exact fun _ _ _ h => h
          case r19_hy27 => (refine Or.inl ⟨by rfl, ?_⟩; intro w hSw; (try dsimp only at hSw); first | (go_simp; done) | (go_simp; with_reducible rfl))
          try simp only [Act.put, List.setIfInBounds_toArray, List.set_cons_zero, List.set_cons_succ]
          refine wpAnyH_take (i := 28) (oi := ?r19_o28) (v := ?r19_v28) ?r19_ho28 (by kernel_rfl) (by kernel_rfl) (by kernel_rfl) ?r19_hq28 ?r19_hy28 (by assumption) ?_
          case r19_ho28 => (conv => lhs; whnf; arg 1; whnf)
          case r19_hq28 => exact fun _ _ _ h => h
          case r19_hy28 => (refine Or.inl ⟨by rfl, ?_⟩; intro w hSw; (try dsimp only at hSw); first | (go_simp; done) | (go_simp; with_reducible rfl))
          try simp only [Act.put, List.setIfInBounds_toArray, List.set_cons_zero, List.set_cons_succ]
          refine wpAnyH_take (i := 29) (oi := ?r19_o29) (v := ?r19_v29) ?r19_ho29 (by kernel_rfl) (by kernel_rfl) (by kernel_rfl) ?r19_hq29 ?r19_hy29 (by assumption) ?_
          case r19_ho29 => (conv => lhs; whnf; arg 1; whnf)
          case r19_hq29 => exact fun _ _ _ h => h
          case r19_hy29 => (refine Or.inl ⟨by rfl, ?_⟩; intro w hSw; (try dsimp only at hSw); first | (go_simp; done) | (go_simp; with_reducible rfl))
          try simp only [Act.put, List.setIfInBounds_toArray, List.set_cons_zero, List.set_cons_succ]
          refine wpAnyH_take (i := 30) (oi := ?r19_o30) (v := ?r19_v30) ?r19_ho30 (by kernel_rfl) (by kernel_rfl) (by kernel_rfl) ?r19_hq30 ?r19_hy30 (by assumption) ?_
          case r19_ho30 => (conv => lhs; whnf; arg 1; whnf)
          case r19_hq30 => exact fun _ _ _ h => h
          case r19_hy30 => (refine Or.inl ⟨by rfl, ?_⟩; intro w hSw; (try dsimp only at hSw); first | (go_simp; done) | (go_simp; with_reducible rfl))
          try simp only [Act.put, List.setIfInBounds_toArray, List.set_cons_zero, List.set_cons_succ]
          refine wpAnyH_done (by kernel_rfl) ?_ _
          go_wp2
          go_ret
          exact ⟨rfl, (E0.out.trans HX3.out).drew⟩
end Go.Proofs.YtihlaecbdlgbiaaDoor
