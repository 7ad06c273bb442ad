/- The frame of a key: l3Find of the reference, find of the program. -/
import Derived.Test.YtihlaecbdlgbiaaDoorWp
import Derived.Test.YtihlaecbdlgbiaaDoorVs
namespace Go.Proofs.YtihlaecbdlgbiaaDoor
open Go.ChangeShapes Go.WideShapes Go.ChangeAt Go.RowKit
open Rec (sz cs)
set_option linter.unusedVariables false
set_option maxRecDepth 100000

set_option maxHeartbeats 4000000 in
theorem l3Find_c (t : TableD) (A : Option Addr) (c : Nat) (B : Option Addr) (d : Nat) (k : KeyD) (w : World) (hx : Rd w A t.buckets) (hy : Rd w B t.frames) (hok : TableOk t) (hk : keyOk k) :
    Calls Tryd.prog 55 #[.agg #[.slice A t.buckets.length c, .slice B t.frames.length d], .agg #[.int .i64 k.space, .int .i64 k.page]] w fun r w' => (∃ s : Int, r = .returned (.tuple #[.int .i64 (findF t k), .int .i64 s])) ∧ Ex w w' := by
  obtain ⟨⟨hn1, hn2⟩, hm1, hm2⟩ := hok.1
  obtain ⟨hv1, hv2⟩ := hashK_range (n := t.buckets.length) hk hm1 hm2
  obtain ⟨b, eb⟩ : ∃ b : Nat, hashK k t.buckets.length = (b : Int) := ⟨(hashK k t.buckets.length).toNat, by omega⟩
  have hbm : b < t.buckets.length := by omega
  obtain ⟨a0, ha0⟩ : ∃ a, t.buckets[b]? = some a := ⟨_, List.getElem?_eq_getElem hbm⟩
  obtain ⟨l0, hl0, _⟩ := hok.bucket ha0
  have HX := Lib.hid hx
  have HY := Lib.hid hy
  have HL0 := Lib.hid hl0
  have CC := Lib.hid (fun w h1 h2 => l3Chain_c t A c B d b a0 w h1 h2 ha0 (by omega) (by omega))
  have CH := Lib.hid (fun w => hashS_c k (t.buckets.length : Int) w hk (by omega) (by omega))
  rw [eb] at CH
  have HIT := Lib.hid (fun x f h1 h2 h3 => @findF_hit t k hok x f h1 h2 h3)
  have HMISS := Lib.hid (fun l hl hno => @findF_miss t k hok b a0 l eb ha0 hl hno)
  obtain ⟨n, en⟩ : ∃ n, n = t.frames.length := ⟨_, rfl⟩
  obtain ⟨m, em⟩ : ∃ m, m = t.buckets.length := ⟨_, rfl⟩
  have HN := Lib.hid en
  rw [← en] at hn1 hn2 CC ⊢
  rw [← em] at hm1 hm2 hbm CC CH ⊢
  generalize findF t k = res at HIT HMISS ⊢
  have CES : Hid (∀ (args : Array Value) (w : World), (callFunc 51 args).run Tryd.prog w = .ok (.enter 51 args) w) := Lib.hid (enters Tryd.func51 (by kernel_rfl) (by kernel_rfl))
  have CEC : Hid (∀ (args : Array Value) (w : World), (callFunc 50 args).run Tryd.prog w = .ok (.enter 50 args) w) := Lib.hid (enters Tryd.func50 (by kernel_rfl) (by kernel_rfl))
  clear hx hy hl0 ha0 eb hv1 hv2 hok hk en em
  go_enter Tryd.func55, Tryd.ntmps55
  go_wp2_with fail
  obtain ⟨w0, hw0⟩ : ∃ w0 : World, w0 = (w.alloc (.cells #[.slice A m c, .slice B n d] 38)).alloc (.cells #[.int .i64 k.space, .int .i64 k.page] 70) := ⟨_, rfl⟩
  obtain ⟨gt, hgt⟩ : ∃ gt : Nat, gt = w.heap.size := ⟨_, rfl⟩
  obtain ⟨gk, hgk⟩ : ∃ gk : Nat, gk = w.heap.size + 1 := ⟨_, rfl⟩
  have K0 : Hid (Blk w0 gt 38 [.slice A m c, .slice B n d]) := Lib.hid (by rw [hw0, hgt]; exact (Blk.new w _ _).alloc _)
  have K1 : Hid (Blk w0 gk 70 [.int .i64 k.space, .int .i64 k.page]) := Lib.hid (by rw [hw0, hgk]; exact Blk.new_at _ _ _ (by simp))
  have E0 : Hid (Ex w w0) := Lib.hid (by rw [hw0]; exact ((Ex.refl w).alloc _).alloc _)
  rw [← hw0]
  try rw [← hgk]
  rw [← hgt]
  clear hw0 hgt hgk
  have FK : Hid (∀ w', Ex w0 w' → (w'.cell? ⟨gt, 0, none⟩ = some (.slice A m c) ∧ w'.cell? ⟨gt, 1, none⟩ = some (.slice B n d) ∧ w'.cell? ⟨gk, 0, none⟩ = some (.int .i64 k.space) ∧ w'.cell? ⟨gk, 1, none⟩ = some (.int .i64 k.page))) := Lib.hid (fun w' h => ⟨(K0.out.ex h).c2.1, (K0.out.ex h).c2.2, (K1.out.ex h).c2.1, (K1.out.ex h).c2.2⟩)
  refine wp_region_held_drew (S := (fun w' => (w'.cell? ⟨gt, 0, none⟩ = some (.slice A m c) ∧ w'.cell? ⟨gt, 1, none⟩ = some (.slice B n d) ∧ w'.cell? ⟨gk, 0, none⟩ = some (.int .i64 k.space) ∧ w'.cell? ⟨gk, 1, none⟩ = some (.int .i64 k.page)))) (by kernel_rfl) ?r0_hS0 (fun hHeld => ?_)
  case r0_hS0 => exact FK.out _ (Ex.refl _).drew
  refine wpAnyH_take (i := 0) (oi := ?r0_o0) (v := ?r0_v0) ?r0_ho0 (by kernel_rfl) (by kernel_rfl) (by kernel_rfl) ?r0_hq0 ?r0_hy0 (by assumption) ?_
  case r0_ho0 => (conv => lhs; whnf; arg 1; whnf)
  case r0_hq0 => exact fun _ _ _ h => h
  case r0_hy0 => (refine Or.inl ⟨by rfl, ?_⟩; intro w hSw; (try dsimp only at hSw); first | (go_simp; done) | (go_simp; with_reducible rfl))
  try simp only [Act.put, List.setIfInBounds_toArray, List.set_cons_zero, List.set_cons_succ]
  refine wpAnyH_take (i := 1) (oi := ?r0_o1) (v := ?r0_v1) ?r0_ho1 (by kernel_rfl) (by kernel_rfl) (by kernel_rfl) ?r0_hq1 ?r0_hy1 (by assumption) ?_
  case r0_ho1 => (conv => lhs; whnf; arg 1; whnf)
  case r0_hq1 => exact fun _ _ _ h => h
  case r0_hy1 => (refine Or.inl ⟨by rfl, ?_⟩; intro w hSw; (try dsimp only at hSw); first | (go_simp; done) | (go_simp; with_reducible rfl))
  try simp only [Act.put, List.setIfInBounds_toArray, List.set_cons_zero, List.set_cons_succ]
  refine wpAnyH_take (i := 2) (oi := ?r0_o2) (v := ?r0_v2) ?r0_ho2 (by kernel_rfl) (by kernel_rfl) (by kernel_rfl) ?r0_hq2 ?r0_hy2 (by assumption) ?_
  case r0_ho2 => (conv => lhs; whnf; arg 1; whnf)
  case r0_hq2 => exact fun _ _ _ h => h
  case r0_hy2 => (refine Or.inl ⟨by rfl, ?_⟩; intro w hSw; (try dsimp only at hSw); first | (go_simp; done) | (go_simp; with_reducible rfl))
  try simp only [Act.put, List.setIfInBounds_toArray, List.set_cons_zero, List.set_cons_succ]
  refine wpAnyH_take (i := 3) (oi := ?r0_o3) (v := ?r0_v3) ?r0_ho3 (by kernel_rfl) (by kernel_rfl) (by kernel_rfl) ?r0_hq3 ?r0_hy3 (by assumption) ?_
  case r0_ho3 => (conv => lhs; whnf; arg 1; whnf)
  case r0_hq3 => exact fun _ _ _ h => h
  case r0_hy3 => (refine Or.inl ⟨by rfl, ?_⟩; intro w hSw; (try dsimp only at hSw); first | (go_simp; done) | (go_simp; with_reducible rfl))
  try simp only [Act.put, List.setIfInBounds_toArray, List.set_cons_zero, List.set_cons_succ]
  refine wpAnyH_take (i := 4) (oi := ?r0_o4) (v := ?r0_v4) ?r0_ho4 (by kernel_rfl) (by kernel_rfl) (by kernel_rfl) ?r0_hq4 ?r0_hy4 (by assumption) ?_
  case r0_ho4 => (conv => lhs; whnf; arg 1; whnf)
  case r0_hq4 => exact fun _ _ _ h => h
  case r0_hy4 => (refine Or.inl ⟨by rfl, ?_⟩; intro w hSw; (try dsimp only at hSw); first | (go_simp; done) | (go_simp; with_reducible rfl))
  try simp only [Act.put, List.setIfInBounds_toArray, List.set_cons_zero, List.set_cons_succ]
  refine wpAnyH_ready (rs := [5]) (by kernel_rfl) (by simp) ?_
  refine AllReadyH.cons (o := ?r0_o5) ?r0_ho5 (fun K hK => ?_) AllReadyH.nil
  case r0_ho5 => (conv => lhs; whnf; arg 1; whnf)
  refine step_call_gu rfl CES.out _ _ rfl #[.agg #[.int .i64 k.space, .int .i64 k.page], .int .i64 m] rfl (CH.out _) ?_; rintro r wa ⟨rfl, hwa⟩; refine ⟨_, rfl, ?_⟩; have hxa := Ex.trans (Ex.refl _).drew hwa
  refine hK.out _ _ ?r0_hS5 (fun hHeld5 => ?_)
  case r0_hS5 => exact FK.out _ hxa
  clear hK K hHeld
  try simp only [Act.put, List.setIfInBounds_toArray, List.set_cons_zero, List.set_cons_succ]
  refine wpAnyH_ready (rs := [6]) (by kernel_rfl) (by simp) ?_
  refine AllReadyH.cons (o := ?r0_o6) ?r0_ho6 (fun K hK => ?_) AllReadyH.nil
  case r0_ho6 => (conv => lhs; whnf; arg 1; whnf)
  refine step_call_gu rfl CEC.out _ _ rfl #[.agg #[.slice A m c, .slice B n d], .int .i64 b] rfl (CC.out _ (HX.out.ex (E0.out.trans hxa)) (HY.out.ex (E0.out.trans hxa))) ?_; rintro r w3 ⟨l, ok, A3, c3, rfl, hok3, hno3, hll, hrd, he⟩; obtain rfl : ok = true := (by cases ok; exact absurd HL0.out (hno3 rfl _); rfl); have e : l0 = l := HL0.out.one (hok3 rfl); subst e; refine ⟨_, rfl, ?_⟩; have hx3 := Ex.trans hxa he
  refine hK.out _ _ ?r0_hS6 (fun hHeld6 => ?_)
  case r0_hS6 => exact FK.out _ hx3
  clear hK K hHeld5
  try simp only [Act.put, List.setIfInBounds_toArray, List.set_cons_zero, List.set_cons_succ]
  refine wpAnyH_take (i := 7) (oi := ?r0_o7) (v := ?r0_v7) ?r0_ho7 (by kernel_rfl) (by kernel_rfl) (by kernel_rfl) ?r0_hq7 ?r0_hy7 (by assumption) ?_
  case r0_ho7 => (conv => lhs; whnf; arg 1; whnf)
  case r0_hq7 => exact fun _ _ _ h => h
  case r0_hy7 => (refine Or.inl ⟨by rfl, ?_⟩; intro w hSw; (try dsimp only at hSw); first | (go_simp; done) | (go_simp; with_reducible rfl))
  try simp only [Act.put, List.setIfInBounds_toArray, List.set_cons_zero, List.set_cons_succ]
  refine wpAnyH_take (i := 8) (oi := ?r0_o8) (v := ?r0_v8) ?r0_ho8 (by kernel_rfl) (by kernel_rfl) (by kernel_rfl) ?r0_hq8 ?r0_hy8 (by assumption) ?_
  case r0_ho8 => (conv => lhs; whnf; arg 1; whnf)
  case r0_hq8 => exact fun _ _ _ h => h
  case r0_hy8 => (refine Or.inl ⟨by rfl, ?_⟩; intro w hSw; (try dsimp only at hSw); first | (go_simp; done) | (go_simp; with_reducible rfl))
  try simp only [Act.put, List.setIfInBounds_toArray, List.set_cons_zero, List.set_cons_succ]
  refine wpAnyH_take (i := 9) (oi := ?r0_o9) (v := ?r0_v9) ?r0_ho9 (by kernel_rfl) (by kernel_rfl) (by kernel_rfl) ?r0_hq9 ?r0_hy9 (by assumption) ?_
  case r0_ho9 => (conv => lhs; whnf; arg 1; whnf)
  case r0_hq9 => exact fun _ _ _ h => h
  case r0_hy9 => (refine Or.inl ⟨by rfl, ?_⟩; intro w hSw; (try dsimp only at hSw); first | (go_simp; done) | (go_simp; with_reducible rfl))
  try simp only [Act.put, List.setIfInBounds_toArray, List.set_cons_zero, List.set_cons_succ]
  refine wpAnyH_take (i := 10) (oi := ?r0_o10) (v := ?r0_v10) ?r0_ho10 (by kernel_rfl) (by kernel_rfl) (by kernel_rfl) ?r0_hq10 ?r0_hy10 (by assumption) ?_
  case r0_ho10 => (conv => lhs; whnf; arg 1; whnf)
  case r0_hq10 => exact fun _ _ _ h => h
  case r0_hy10 => (refine Or.inl ⟨by rfl, ?_⟩; intro w hSw; (try dsimp only at hSw); first | (go_simp; done) | (go_simp; with_reducible rfl))
  try simp only [Act.put, List.setIfInBounds_toArray, List.set_cons_zero, List.set_cons_succ]
  refine wpAnyH_take (i := 11) (oi := ?r0_o11) (v := ?r0_v11) ?r0_ho11 (by kernel_rfl) (by kernel_rfl) (by kernel_rfl) ?r0_hq11 ?r0_hy11 (by assumption) ?_
  case r0_ho11 => (conv => lhs; whnf; arg 1; whnf)
  case r0_hq11 => exact fun _ _ _ h => h
  case r0_hy11 => (refine Or.inl ⟨by rfl, ?_⟩; intro w hSw; (try dsimp only at hSw); first | (go_simp; done) | (go_simp; with_reducible rfl))
  try simp only [Act.put, List.setIfInBounds_toArray, List.set_cons_zero, List.set_cons_succ]
  refine wpAnyH_done (by kernel_rfl) ?_ _
  have HX3 := Lib.hid hx3
  have HRD := Lib.hid hrd
  have hll' : l0.length ≤ n := by have := HN.out; omega
  clear hx3 hxa he hwa hno3 hok3 hll hrd
  go_wp2
  go_loopw [8] (fun i wq => ∃ j : Nat, j ≤ l0.length ∧ i = .int .i64 j ∧ Ex w3 wq ∧ ∀ (j' x : Nat) (f : FrameD), j' < j → l0[j']? = some x → t.frames[x]? = some f → f.key ≠ k) (fun i _ => l0.length - (intOf i).toNat)
  case atStart => exact ⟨0, Nat.zero_le _, rfl, Ex.refl _, fun j' x f h => by omega⟩
  case round =>
    obtain ⟨j, hj, rfl, hq, hall⟩ := hrel
    have HQ := Lib.hid (HX3.out.trans hq)
    have HQ3 := Lib.hid hq
    have HALL := Lib.hid hall
    clear hq hall
    by_cases hjl : j < l0.length
    · obtain ⟨b5, o5, y, rfl, hb5, hyj, hcy⟩ := (HRD.out.ex HQ3.out).int (k := j) (by rw [nums_len]; exact hjl)
      obtain ⟨x, hxj⟩ : ∃ x, l0[j]? = some x := ⟨_, List.getElem?_eq_getElem hjl⟩
      have e : y = (x : Int) := by unfold nums at hyj; rw [List.getElem?_map, hxj] at hyj; injection hyj with e; exact e.symm
      subst e
      obtain ⟨f, hfx, hfu⟩ := HL0.out.in_ (List.mem_of_getElem? hxj)
      have hxn : x < n := by have := getElem?_lt hfx; have := HN.out; omega
      obtain ⟨b2, o2, f', rfl, hb2, hfx', k0, k1, k2, k3, k4⟩ := (HY.out.ex (E0.out.trans HQ.out)).frame (k := x) (by have := HN.out; omega)
      have e : f' = f := by rw [hfx] at hfx'; injection hfx' with e; exact e.symm
      subst e
      have HXJ := Lib.hid hxj
      have HFX := Lib.hid hfx
      have HFU := Lib.hid hfu
      have FK2 : Hid (∀ w', Ex wr w' → (w'.cell? ⟨gt, 1, none⟩ = some (.slice (some ⟨b2, o2, none⟩) n d) ∧ w'.cell? ⟨gk, 0, none⟩ = some (.int .i64 k.space) ∧ w'.cell? ⟨gk, 1, none⟩ = some (.int .i64 k.page) ∧ w'.cell? ⟨b5, o5 + j, none⟩ = some (.int .i64 x) ∧ w'.cell? ⟨b2, o2 + x * 5 + 1, none⟩ = some (.int .i64 f'.key.space) ∧ w'.cell? ⟨b2, o2 + x * 5 + 2, none⟩ = some (.int .i64 f'.key.page))) := Lib.hid (fun w' h => ⟨(K0.out.ex (HQ.out.trans h)).c2.2, (K1.out.ex (HQ.out.trans h)).c2.1, (K1.out.ex (HQ.out.trans h)).c2.2, (h.cell hb5).trans hcy, (h.cell hb2).trans k1, (h.cell hb2).trans k2⟩)
      have hz := eql_keyV f'.key k
      have hgd := guardKeyV
      clear hyj hxj hfx hfx' k0 k1 k2 k3 k4 hcy hfu hb2 hb5
      cases hek : eqB f'.key k
      · rw [hek] at hz
        have HEK := Lib.hid (eqB_false.1 hek)
        clear hek
        go_wp2_with fail
        refine wp_region_held_drew (S := (fun w' => (w'.cell? ⟨gt, 1, none⟩ = some (.slice (some ⟨b2, o2, none⟩) n d) ∧ w'.cell? ⟨gk, 0, none⟩ = some (.int .i64 k.space) ∧ w'.cell? ⟨gk, 1, none⟩ = some (.int .i64 k.page) ∧ w'.cell? ⟨b5, o5 + j, none⟩ = some (.int .i64 x) ∧ w'.cell? ⟨b2, o2 + x * 5 + 1, none⟩ = some (.int .i64 f'.key.space) ∧ w'.cell? ⟨b2, o2 + x * 5 + 2, none⟩ = some (.int .i64 f'.key.page)))) (by kernel_rfl) ?r1_hS0 (fun hHeld => ?_)
        case r1_hS0 => exact FK2.out _ (Ex.refl _).drew
        refine wpAnyH_take (i := 0) (oi := ?r1_o0) (v := ?r1_v0) ?r1_ho0 (by kernel_rfl) (by kernel_rfl) (by kernel_rfl) ?r1_hq0 ?r1_hy0 (by assumption) ?_
        case r1_ho0 => (conv => lhs; whnf; arg 1; whnf)
        case r1_hq0 => exact fun _ _ _ h => h
        case r1_hy0 => (refine Or.inl ⟨by rfl, ?_⟩; intro w hSw; (try dsimp only at hSw); first | (go_simp; done) | (go_simp; with_reducible rfl))
        try simp only [Act.put, List.setIfInBounds_toArray, List.set_cons_zero, List.set_cons_succ]
        refine wpAnyH_take (i := 1) (oi := ?r1_o1) (v := ?r1_v1) ?r1_ho1 (by kernel_rfl) (by kernel_rfl) (by kernel_rfl) ?r1_hq1 ?r1_hy1 (by assumption) ?_
        case r1_ho1 => (conv => lhs; whnf; arg 1; whnf)
        case r1_hq1 => exact fun _ _ _ h => h
        case r1_hy1 => (refine Or.inl ⟨by rfl, ?_⟩; intro w hSw; (try dsimp only at hSw); first | (go_simp; done) | (go_simp; with_reducible rfl))
        try simp only [Act.put, List.setIfInBounds_toArray, List.set_cons_zero, List.set_cons_succ]
        refine wpAnyH_take (i := 2) (oi := ?r1_o2) (v := ?r1_v2) ?r1_ho2 (by kernel_rfl) (by kernel_rfl) (by kernel_rfl) ?r1_hq2 ?r1_hy2 (by assumption) ?_
        case r1_ho2 => (conv => lhs; whnf; arg 1; whnf)
        case r1_hq2 => exact fun _ _ _ h => h
        case r1_hy2 => (refine Or.inl ⟨by rfl, ?_⟩; intro w hSw; (try dsimp only at hSw); first | (go_simp; done) | (go_simp; with_reducible rfl))
        try simp only [Act.put, List.setIfInBounds_toArray, List.set_cons_zero, List.set_cons_succ]
        refine wpAnyH_take (i := 3) (oi := ?r1_o3) (v := ?r1_v3) ?r1_ho3 (by kernel_rfl) (by kernel_rfl) (by kernel_rfl) ?r1_hq3 ?r1_hy3 (by assumption) ?_
        case r1_ho3 => (conv => lhs; whnf; arg 1; whnf)
        case r1_hq3 => exact fun _ _ _ h => h
        case r1_hy3 => (refine Or.inl ⟨by rfl, ?_⟩; intro w hSw; (try dsimp only at hSw); first | (go_simp; done) | (go_simp; with_reducible rfl))
        try simp only [Act.put, List.setIfInBounds_toArray, List.set_cons_zero, List.set_cons_succ]
        refine wpAnyH_take (i := 4) (oi := ?r1_o4) (v := ?r1_v4) ?r1_ho4 (by kernel_rfl) (by kernel_rfl) (by kernel_rfl) ?r1_hq4 ?r1_hy4 (by assumption) ?_
        case r1_ho4 => (conv => lhs; whnf; arg 1; whnf)
        case r1_hq4 => exact fun _ _ _ h => h
        case r1_hy4 => (refine Or.inl ⟨by rfl, ?_⟩; intro w hSw; (try dsimp only at hSw); first | (go_simp; done) | (go_simp; with_reducible rfl))
        try simp only [Act.put, List.setIfInBounds_toArray, List.set_cons_zero, List.set_cons_succ]
        refine wpAnyH_take (i := 5) (oi := ?r1_o5) (v := ?r1_v5) ?r1_ho5 (by kernel_rfl) (by kernel_rfl) (by kernel_rfl) ?r1_hq5 ?r1_hy5 (by assumption) ?_
        case r1_ho5 => (conv => lhs; whnf; arg 1; whnf)
        case r1_hq5 => exact fun _ _ _ h => h
        case r1_hy5 => (refine Or.inl ⟨by rfl, ?_⟩; intro w hSw; (try dsimp only at hSw); first | (go_simp; done) | (go_simp; with_reducible rfl))
        try simp only [Act.put, List.setIfInBounds_toArray, List.set_cons_zero, List.set_cons_succ]
        refine wpAnyH_take (i := 6) (oi := ?r1_o6) (v := ?r1_v6) ?r1_ho6 (by kernel_rfl) (by kernel_rfl) (by kernel_rfl) ?r1_hq6 ?r1_hy6 (by assumption) ?_
        case r1_ho6 => (conv => lhs; whnf; arg 1; whnf)
        case r1_hq6 => exact fun _ _ _ h => h
        case r1_hy6 => (refine Or.inl ⟨by rfl, ?_⟩; intro w hSw; (try dsimp only at hSw); first | (go_simp; done) | (go_simp; with_reducible rfl))
        try simp only [Act.put, List.setIfInBounds_toArray, List.set_cons_zero, List.set_cons_succ]
        refine wpAnyH_take (i := 7) (oi := ?r1_o7) (v := ?r1_v7) ?r1_ho7 (by kernel_rfl) (by kernel_rfl) (by kernel_rfl) ?r1_hq7 ?r1_hy7 (by assumption) ?_
        case r1_ho7 => (conv => lhs; whnf; arg 1; whnf)
        case r1_hq7 => exact fun _ _ _ h => h
        case r1_hy7 => (refine Or.inl ⟨by rfl, ?_⟩; intro w hSw; (try dsimp only at hSw); first | (go_simp; done) | (go_simp; with_reducible rfl))
        try simp only [Act.put, List.setIfInBounds_toArray, List.set_cons_zero, List.set_cons_succ]
        refine wpAnyH_take (i := 8) (oi := ?r1_o8) (v := ?r1_v8) ?r1_ho8 (by kernel_rfl) (by kernel_rfl) (by kernel_rfl) ?r1_hq8 ?r1_hy8 (by assumption) ?_
        case r1_ho8 => (conv => lhs; whnf; arg 1; whnf)
        case r1_hq8 => exact fun _ _ _ h => h
        case r1_hy8 => (refine Or.inl ⟨by rfl, ?_⟩; intro w hSw; (try dsimp only at hSw); first | (go_simp; done) | (go_simp; with_reducible rfl))
        try simp only [Act.put, List.setIfInBounds_toArray, List.set_cons_zero, List.set_cons_succ]
        refine wpAnyH_take (i := 9) (oi := ?r1_o9) (v := ?r1_v9) ?r1_ho9 (by kernel_rfl) (by kernel_rfl) (by kernel_rfl) ?r1_hq9 ?r1_hy9 (by assumption) ?_
        case r1_ho9 => (conv => lhs; whnf; arg 1; whnf)
        case r1_hq9 => exact fun _ _ _ h => h
        case r1_hy9 => (refine Or.inl ⟨by rfl, ?_⟩; intro w hSw; (try dsimp only at hSw); first | (go_simp; done) | (go_simp; with_reducible rfl))
        try simp only [Act.put, List.setIfInBounds_toArray, List.set_cons_zero, List.set_cons_succ]
        refine wpAnyH_take (i := 10) (oi := ?r1_o10) (v := ?r1_v10) ?r1_ho10 (by kernel_rfl) (by kernel_rfl) (by kernel_rfl) ?r1_hq10 ?r1_hy10 (by assumption) ?_
        case r1_ho10 => (conv => lhs; whnf; arg 1; whnf)
        case r1_hq10 => exact fun _ _ _ h => h
        case r1_hy10 => (refine Or.inl ⟨by rfl, ?_⟩; intro w hSw; (try dsimp only at hSw); first | (go_simp; done) | (go_simp; with_reducible rfl))
        try simp only [Act.put, List.setIfInBounds_toArray, List.set_cons_zero, List.set_cons_succ]
        refine wpAnyH_done (by kernel_rfl) ?_ _
        clear hz hgd
        go_wp2
        go_roundw
        case rel => exact ⟨j + 1, by omega, by go_num, HQ3.out.drew, fun j' x' g hj' hx' hg => by
          by_cases e : j' = j
          · subst e
            rw [HXJ.out] at hx'
            injection hx' with hx'
            subst hx'
            rw [HFX.out] at hg
            injection hg with hg
            subst hg
            exact HEK.out
          · exact HALL.out j' x' g (by omega) hx' hg⟩
        case measure => simp [intOf]; omega
      · rw [hek] at hz
        obtain rfl : res = (x : Int) := HIT.out x f' HFX.out HFU.out (eqB_true.1 hek)
        clear hek
        obtain ⟨m0, m1, m2, m3, m4, m5⟩ := FK2.out wr.drew (Ex.refl _).drew
        clear m0 m1 m2 m4 m5
        go_wp2_with fail
        refine wp_region_held_drew (S := (fun w' => (w'.cell? ⟨gt, 1, none⟩ = some (.slice (some ⟨b2, o2, none⟩) n d) ∧ w'.cell? ⟨gk, 0, none⟩ = some (.int .i64 k.space) ∧ w'.cell? ⟨gk, 1, none⟩ = some (.int .i64 k.page) ∧ w'.cell? ⟨b5, o5 + j, none⟩ = some (.int .i64 x) ∧ w'.cell? ⟨b2, o2 + x * 5 + 1, none⟩ = some (.int .i64 f'.key.space) ∧ w'.cell? ⟨b2, o2 + x * 5 + 2, none⟩ = some (.int .i64 f'.key.page)))) (by kernel_rfl) ?r2_hS0 (fun hHeld => ?_)
        case r2_hS0 => exact FK2.out _ (Ex.refl _).drew
        refine wpAnyH_take (i := 0) (oi := ?r2_o0) (v := ?r2_v0) ?r2_ho0 (by kernel_rfl) (by kernel_rfl) (by kernel_rfl) ?r2_hq0 ?r2_hy0 (by assumption) ?_
        case r2_ho0 => (conv => lhs; whnf; arg 1; whnf)
        case r2_hq0 => exact fun _ _ _ h => h
        case r2_hy0 => (refine Or.inl ⟨by rfl, ?_⟩; intro w hSw; (try dsimp only at hSw); first | (go_simp; done) | (go_simp; with_reducible rfl))
        try simp only [Act.put, List.setIfInBounds_toArray, List.set_cons_zero, List.set_cons_succ]
        refine wpAnyH_take (i := 1) (oi := ?r2_o1) (v := ?r2_v1) ?r2_ho1 (by kernel_rfl) (by kernel_rfl) (by kernel_rfl) ?r2_hq1 ?r2_hy1 (by assumption) ?_
        case r2_ho1 => (conv => lhs; whnf; arg 1; whnf)
        case r2_hq1 => exact fun _ _ _ h => h
        case r2_hy1 => (refine Or.inl ⟨by rfl, ?_⟩; intro w hSw; (try dsimp only at hSw); first | (go_simp; done) | (go_simp; with_reducible rfl))
        try simp only [Act.put, List.setIfInBounds_toArray, List.set_cons_zero, List.set_cons_succ]
        refine wpAnyH_take (i := 2) (oi := ?r2_o2) (v := ?r2_v2) ?r2_ho2 (by kernel_rfl) (by kernel_rfl) (by kernel_rfl) ?r2_hq2 ?r2_hy2 (by assumption) ?_
        case r2_ho2 => (conv => lhs; whnf; arg 1; whnf)
        case r2_hq2 => exact fun _ _ _ h => h
        case r2_hy2 => (refine Or.inl ⟨by rfl, ?_⟩; intro w hSw; (try dsimp only at hSw); first | (go_simp; done) | (go_simp; with_reducible rfl))
        try simp only [Act.put, List.setIfInBounds_toArray, List.set_cons_zero, List.set_cons_succ]
        refine wpAnyH_take (i := 3) (oi := ?r2_o3) (v := ?r2_v3) ?r2_ho3 (by kernel_rfl) (by kernel_rfl) (by kernel_rfl) ?r2_hq3 ?r2_hy3 (by assumption) ?_
        case r2_ho3 => (conv => lhs; whnf; arg 1; whnf)
        case r2_hq3 => exact fun _ _ _ h => h
        case r2_hy3 => (refine Or.inl ⟨by rfl, ?_⟩; intro w hSw; (try dsimp only at hSw); first | (go_simp; done) | (go_simp; with_reducible rfl))
        try simp only [Act.put, List.setIfInBounds_toArray, List.set_cons_zero, List.set_cons_succ]
        refine wpAnyH_take (i := 4) (oi := ?r2_o4) (v := ?r2_v4) ?r2_ho4 (by kernel_rfl) (by kernel_rfl) (by kernel_rfl) ?r2_hq4 ?r2_hy4 (by assumption) ?_
        case r2_ho4 => (conv => lhs; whnf; arg 1; whnf)
        case r2_hq4 => exact fun _ _ _ h => h
        case r2_hy4 => (refine Or.inl ⟨by rfl, ?_⟩; intro w hSw; (try dsimp only at hSw); first | (go_simp; done) | (go_simp; with_reducible rfl))
        try simp only [Act.put, List.setIfInBounds_toArray, List.set_cons_zero, List.set_cons_succ]
        refine wpAnyH_take (i := 5) (oi := ?r2_o5) (v := ?r2_v5) ?r2_ho5 (by kernel_rfl) (by kernel_rfl) (by kernel_rfl) ?r2_hq5 ?r2_hy5 (by assumption) ?_
        case r2_ho5 => (conv => lhs; whnf; arg 1; whnf)
        case r2_hq5 => exact fun _ _ _ h => h
        case r2_hy5 => (refine Or.inl ⟨by rfl, ?_⟩; intro w hSw; (try dsimp only at hSw); first | (go_simp; done) | (go_simp; with_reducible rfl))
        try simp only [Act.put, List.setIfInBounds_toArray, List.set_cons_zero, List.set_cons_succ]
        refine wpAnyH_take (i := 6) (oi := ?r2_o6) (v := ?r2_v6) ?r2_ho6 (by kernel_rfl) (by kernel_rfl) (by kernel_rfl) ?r2_hq6 ?r2_hy6 (by assumption) ?_
        case r2_ho6 => (conv => lhs; whnf; arg 1; whnf)
        case r2_hq6 => exact fun _ _ _ h => h
        case r2_hy6 => (refine Or.inl ⟨by rfl, ?_⟩; intro w hSw; (try dsimp only at hSw); first | (go_simp; done) | (go_simp; with_reducible rfl))
        try simp only [Act.put, List.setIfInBounds_toArray, List.set_cons_zero, List.set_cons_succ]
        refine wpAnyH_take (i := 7) (oi := ?r2_o7) (v := ?r2_v7) ?r2_ho7 (by kernel_rfl) (by kernel_rfl) (by kernel_rfl) ?r2_hq7 ?r2_hy7 (by assumption) ?_
        case r2_ho7 => (conv => lhs; whnf; arg 1; whnf)
        case r2_hq7 => exact fun _ _ _ h => h
        case r2_hy7 => (refine Or.inl ⟨by rfl, ?_⟩; intro w hSw; (try dsimp only at hSw); first | (go_simp; done) | (go_simp; with_reducible rfl))
        try simp only [Act.put, List.setIfInBounds_toArray, List.set_cons_zero, List.set_cons_succ]
        refine wpAnyH_take (i := 8) (oi := ?r2_o8) (v := ?r2_v8) ?r2_ho8 (by kernel_rfl) (by kernel_rfl) (by kernel_rfl) ?r2_hq8 ?r2_hy8 (by assumption) ?_
        case r2_ho8 => (conv => lhs; whnf; arg 1; whnf)
        case r2_hq8 => exact fun _ _ _ h => h
        case r2_hy8 => (refine Or.inl ⟨by rfl, ?_⟩; intro w hSw; (try dsimp only at hSw); first | (go_simp; done) | (go_simp; with_reducible rfl))
        try simp only [Act.put, List.setIfInBounds_toArray, List.set_cons_zero, List.set_cons_succ]
        refine wpAnyH_take (i := 9) (oi := ?r2_o9) (v := ?r2_v9) ?r2_ho9 (by kernel_rfl) (by kernel_rfl) (by kernel_rfl) ?r2_hq9 ?r2_hy9 (by assumption) ?_
        case r2_ho9 => (conv => lhs; whnf; arg 1; whnf)
        case r2_hq9 => exact fun _ _ _ h => h
        case r2_hy9 => (refine Or.inl ⟨by rfl, ?_⟩; intro w hSw; (try dsimp only at hSw); first | (go_simp; done) | (go_simp; with_reducible rfl))
        try simp only [Act.put, List.setIfInBounds_toArray, List.set_cons_zero, List.set_cons_succ]
        refine wpAnyH_take (i := 10) (oi := ?r2_o10) (v := ?r2_v10) ?r2_ho10 (by kernel_rfl) (by kernel_rfl) (by kernel_rfl) ?r2_hq10 ?r2_hy10 (by assumption) ?_
        case r2_ho10 => (conv => lhs; whnf; arg 1; whnf)
        case r2_hq10 => exact fun _ _ _ h => h
        case r2_hy10 => (refine Or.inl ⟨by rfl, ?_⟩; intro w hSw; (try dsimp only at hSw); first | (go_simp; done) | (go_simp; with_reducible rfl))
        try simp only [Act.put, List.setIfInBounds_toArray, List.set_cons_zero, List.set_cons_succ]
        refine wpAnyH_done (by kernel_rfl) ?_ _
        clear hz hgd
        go_wp2
        go_ret2
        exact ⟨⟨_, rfl⟩, (E0.out.trans HQ.out).drew⟩
    · obtain rfl : j = l0.length := by omega
      obtain rfl : res = -1 := HMISS.out l0 HL0.out (fun x f hx hf => by
        obtain ⟨j', hj', e⟩ := List.getElem_of_mem hx
        exact HALL.out j' x f hj' (by rw [List.getElem?_eq_getElem hj', e]) hf)
      go_wp2
      go_ret2
      exact ⟨⟨_, rfl⟩, E0.out.trans HQ.out⟩

set_option maxHeartbeats 1000000 in
theorem find1_c (f : FrameD) (k : KeyD) (w : World) (gk : Nat) (hk : Blk w gk 70 [.int .i64 k.space, .int .i64 k.page]) :
    Calls Tryd.prog 70 #[.agg #[.bool f.used, .int .i64 f.key.space, .int .i64 f.key.page, .int .i64 f.rights, .int .i64 f.next], .pointer (some ⟨gk, 0, none⟩)] w fun r w' => r = .returned (.bool (fitsKey k f)) ∧ Ex w w' := by
  obtain ⟨p0, p1⟩ := hk.c2
  have lk := hk.lt
  have hz := eql_keyV f.key k
  have hgd := guardKeyV
  unfold fitsKey
  clear hk
  cases hu : f.used
  · go_enter Tryd.func70, Tryd.ntmps70
    go_wp2
    go_ret
    exact ⟨ret_bool (by simp), (Ex.refl _).alloc _⟩
  · generalize eqB f.key k = res at hz ⊢
    go_enter Tryd.func70, Tryd.ntmps70
    go_wp2
    go_ret
    exact ⟨ret_bool (by simp), (Ex.refl _).alloc _⟩

set_option maxHeartbeats 1000000 in
theorem indexFind_c (xs : List FrameD) (k : KeyD) (A : Option Addr) (c : Nat) (w : World) (gk : Nat) (hx : Rd w A xs) (hn : xs.length ≤ 1048576) (hk : Blk w gk 70 [.int .i64 k.space, .int .i64 k.page]) :
    Calls Tryd.prog 69 #[.slice A xs.length c, .func (.func 70) #[] #[.pointer (some ⟨gk, 0, none⟩)]] w fun r w' => r = .returned (.int .i64 (firstOf (fitsKey k) xs)) ∧ Ex w w' := by
  have B1 := Lib.hid (fun k' x => @firstOf_at _ (fitsKey k) xs k' x)
  have B2 := Lib.hid (@firstOf_none _ (fitsKey k) xs)
  generalize firstOf (fitsKey k) xs = res at *
  obtain ⟨n, hn1⟩ : ∃ n, n = xs.length := ⟨_, rfl⟩
  have HN := Lib.hid hn1
  rw [← hn1] at B2 hn ⊢
  have HX := Lib.hid hx
  have HK := Lib.hid hk
  clear hn1 hx hk
  go_enter Tryd.func69, Tryd.ntmps69
  go_wp2
  go_loopw [8] (fun i wr => ∃ q : Nat, q ≤ n ∧ i = .int .i64 q ∧ Ex w wr ∧ ∀ (j : Nat) (y : FrameD), j < q → xs[j]? = some y → fitsKey k y = false) (fun i _ => n - (intOf i).toNat)
  case atStart => exact ⟨0, Nat.zero_le _, rfl, Ex.refl _, fun j y h => by omega⟩
  case round =>
    obtain ⟨q, hq, rfl, hbel, hcl⟩ := hrel
    have HB := Lib.hid hbel
    have HCL := Lib.hid hcl
    clear hbel hcl
    by_cases hlt : q < n
    · obtain ⟨b1, o1, x, rfl, hb1, hxk, h0, h1, h2, h3, h4⟩ := Rd.frame (HX.out.ex HB.out) (k := q) (by have := HN.out; omega)
      have HXK := Lib.hid hxk
      clear hxk
      go_wp2_with fail
      refine (find1_c x k _ _ (HK.out.ex HB.out)).mono ?_
      rintro r w2 ⟨rfl, hb2⟩
      have HB2 := Lib.hid hb2
      clear hb2 h0 h1 h2 h3 h4
      cases hv : fitsKey k x
      · have HV := Lib.hid hv
        go_wp2
        go_roundw
        case rel => exact ⟨q + 1, by omega, by go_num, HB.out.trans HB2.out, fun j z hj hz => by
          by_cases e : j = q
          · subst e
            have := HXK.out
            rw [this] at hz
            injection hz with hz
            rw [← hz]; exact HV.out
          · exact HCL.out j z (by omega) hz⟩
        case measure => simp [intOf]; omega
      · obtain rfl : res = (q : Int) := B1.out q x HXK.out hv HCL.out
        go_wp2
        go_ret
        exact ⟨rfl, HB.out.trans HB2.out⟩
    · obtain rfl : q = n := by omega
      obtain rfl : res = -1 := B2.out HCL.out
      go_wp2
      go_ret
      exact ⟨rfl, HB.out⟩

set_option maxHeartbeats 1000000 in
theorem findI_c (t : TableD) (A : Option Addr) (c : Nat) (B : Option Addr) (d : Nat) (k : KeyD) (w : World) (hy : Rd w B t.frames) (hm : t.frames.length ≤ 1048576) :
    Calls Tryd.prog 34 #[.agg #[.slice A t.buckets.length c, .slice B t.frames.length d], .agg #[.int .i64 k.space, .int .i64 k.page]] w fun r w' => r = .returned (.int .i64 (findF t k)) ∧ Ex w w' := by
  have HY := Lib.hid hy
  clear hy
  unfold findF
  have hmf : ∀ (fn : Fn) (first cap : Array Value) (w : World), (Instr.makeFunc fn first cap).run Tryd.prog w = .ok (.func fn first cap) w := fun _ _ _ _ => rfl
  go_enter Tryd.func34, Tryd.ntmps34
  go_wp2_with fail
  refine (indexFind_c t.frames k B d _ _ ((HY.out.alloc _).alloc _) hm (Blk.new_at _ _ _ (by simp))).mono ?_
  rintro r w2 ⟨rfl, hb2⟩
  have HB2 : Hid (Ex w w2) := Lib.hid ((((Ex.refl w).alloc _).alloc _).trans hb2)
  clear hb2
  go_wp2
  go_ret
  exact ⟨rfl, HB2.out⟩
end Go.Proofs.YtihlaecbdlgbiaaDoor
