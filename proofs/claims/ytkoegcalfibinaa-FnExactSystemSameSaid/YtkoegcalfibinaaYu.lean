/- The reference's SystemSame. -/
import Derived.Test.YtkoegcalfibinaaYt
namespace Go.Proofs.Ytkoegcalfibinaa
open Go.ChangeShapes Go.WideShapes Go.ChangeAt Go.RowKit
open Rec (sz cs)
set_option linter.unusedVariables false
set_option maxRecDepth 100000

set_option maxHeartbeats 8000000 in
theorem sysSameS_c (x y : SysD) (a b : SA) (w : World) (hx : HasS w x a) (hy : HasS w y b) (hf : FewS x) (hg : FewS y) :
    Calls Try.prog 7 #[.agg #[.slice a.b x.table.buckets.length a.bc, .slice a.f x.table.frames.length a.fc, .slice a.q x.cpus.length a.qc], .agg #[.slice b.b y.table.buckets.length b.bc, .slice b.f y.table.frames.length b.fc, .slice b.q y.cpus.length b.qc]] w fun r w' => r = .returned (.bool (eqB x y)) ∧ Ex w w' := by
  have C1 := Lib.hid (fun w (h1 : HasS w x a) (h2 : HasS w y b) => tableSameS_c x.table y.table a.b a.bc a.f a.fc b.b b.bc b.f b.fc w h1.b h1.f h2.b h2.f hf.b hf.f hg.b hg.f)
  have HX := Lib.hid hx
  have HY := Lib.hid hy
  have HE := Lib.hid (sys_eq x y)
  have hn := hf.q.n
  have hm := hg.q.n
  have HLX := Lib.hid hf.q.e
  have HLY := Lib.hid hg.q.e
  clear hx hy hf hg
  cases h1 : eqB x.table y.table
  · rw [h1] at C1
    have e : eqB x y = false := by rw [eqB_false, Ne, HE.out]; intro h; exact eqB_false.1 h1 h.1
    rw [e]
    clear e h1
    go_enter Try.func7, Try.ntmps7
    go_wp2_with fail
    refine name_calls ?_; intro v1 hv1
    have X1 : Hid (Chg (0) (0) w v1) := Lib.hid (by rw [hv1]; repeat' (first | with_reducible exact Chg.refl _ _ _ | with_reducible refine Chg.alloc ?_ _ | with_reducible refine Chg.drew ?_ | with_reducible refine Chg.set ?_ (by omega) _))
    have t1 : w.heap.size ≤ v1.heap.size := X1.out.size
    have Ev1 : Hid (Ex w v1) := Lib.hid ((Ex.refl w).chg X1.out (by omega))
    have KX : Hid (Blk v1 (w.heap.size) 36 [.slice a.b x.table.buckets.length a.bc, .slice a.f x.table.frames.length a.fc, .slice a.q x.cpus.length a.qc]) := Lib.hid (by rw [hv1]; repeat' (first | with_reducible exact Blk.new_at _ _ _ (by simp) | with_reducible refine Blk.alloc ?_ _ | with_reducible refine Blk.drew ?_ | with_reducible refine Blk.far ?_ (by simp; omega) _))
    have lX : w.heap.size < v1.heap.size := KX.out.lt
    have KY : Hid (Blk v1 (w.heap.size + 1) 36 [.slice b.b y.table.buckets.length b.bc, .slice b.f y.table.frames.length b.fc, .slice b.q y.cpus.length b.qc]) := Lib.hid (by rw [hv1]; repeat' (first | with_reducible exact Blk.new_at _ _ _ (by simp) | with_reducible refine Blk.alloc ?_ _ | with_reducible refine Blk.drew ?_ | with_reducible refine Blk.far ?_ (by simp; omega) _))
    have lY : w.heap.size + 1 < v1.heap.size := KY.out.lt
    have DX := Lib.hid (HX.out.ex Ev1.out)
    have DY := Lib.hid (HY.out.ex Ev1.out)
    clear hv1
    refine (C1.out _ DX.out DY.out).mono ?_; rintro r w1 ⟨rfl, hb1⟩
    have Y1 : Hid (Chg 0 0 v1 w1) := Lib.hid (Chg.of_ex hb1)
    have s1 : v1.heap.size ≤ w1.heap.size := Y1.out.size
    have Ew1 : Hid (Ex w w1) := Lib.hid (Ev1.out.chg Y1.out (by omega))
    clear hb1
    replace KX : Hid (Blk w1 (w.heap.size) 36 [.slice a.b x.table.buckets.length a.bc, .slice a.f x.table.frames.length a.fc, .slice a.q x.cpus.length a.qc]) := Lib.hid (KX.out.chg Y1.out (by omega))
    replace KY : Hid (Blk w1 (w.heap.size + 1) 36 [.slice b.b y.table.buckets.length b.bc, .slice b.f y.table.frames.length b.fc, .slice b.q y.cpus.length b.qc]) := Lib.hid (KY.out.chg Y1.out (by omega))
    replace DX := Lib.hid (HX.out.ex Ew1.out)
    replace DY := Lib.hid (HY.out.ex Ew1.out)
    obtain ⟨qX0, qX1, qX2⟩ := KX.out.c3
    have jX := KX.out.lt
    obtain ⟨qY0, qY1, qY2⟩ := KY.out.c3
    have jY := KY.out.lt
    go_wp2
    go_ret
    exact ⟨rfl, Ew1.out⟩
  rw [h1] at C1
  cases h3 : ((x.cpus.length : Int) != (y.cpus.length : Int))
  rotate_left
  · have e : eqB x y = false := by rw [eqB_false, Ne, HE.out]; intro h; rw [h.2] at h3; simp at h3
    rw [e]
    clear e h1
    go_enter Try.func7, Try.ntmps7
    go_wp2_with fail
    refine name_calls ?_; intro v1 hv1
    have X1 : Hid (Chg (0) (0) w v1) := Lib.hid (by rw [hv1]; repeat' (first | with_reducible exact Chg.refl _ _ _ | with_reducible refine Chg.alloc ?_ _ | with_reducible refine Chg.drew ?_ | with_reducible refine Chg.set ?_ (by omega) _))
    have t1 : w.heap.size ≤ v1.heap.size := X1.out.size
    have Ev1 : Hid (Ex w v1) := Lib.hid ((Ex.refl w).chg X1.out (by omega))
    have KX : Hid (Blk v1 (w.heap.size) 36 [.slice a.b x.table.buckets.length a.bc, .slice a.f x.table.frames.length a.fc, .slice a.q x.cpus.length a.qc]) := Lib.hid (by rw [hv1]; repeat' (first | with_reducible exact Blk.new_at _ _ _ (by simp) | with_reducible refine Blk.alloc ?_ _ | with_reducible refine Blk.drew ?_ | with_reducible refine Blk.far ?_ (by simp; omega) _))
    have lX : w.heap.size < v1.heap.size := KX.out.lt
    have KY : Hid (Blk v1 (w.heap.size + 1) 36 [.slice b.b y.table.buckets.length b.bc, .slice b.f y.table.frames.length b.fc, .slice b.q y.cpus.length b.qc]) := Lib.hid (by rw [hv1]; repeat' (first | with_reducible exact Blk.new_at _ _ _ (by simp) | with_reducible refine Blk.alloc ?_ _ | with_reducible refine Blk.drew ?_ | with_reducible refine Blk.far ?_ (by simp; omega) _))
    have lY : w.heap.size + 1 < v1.heap.size := KY.out.lt
    have DX := Lib.hid (HX.out.ex Ev1.out)
    have DY := Lib.hid (HY.out.ex Ev1.out)
    clear hv1
    refine (C1.out _ DX.out DY.out).mono ?_; rintro r w1 ⟨rfl, hb1⟩
    have Y1 : Hid (Chg 0 0 v1 w1) := Lib.hid (Chg.of_ex hb1)
    have s1 : v1.heap.size ≤ w1.heap.size := Y1.out.size
    have Ew1 : Hid (Ex w w1) := Lib.hid (Ev1.out.chg Y1.out (by omega))
    clear hb1
    replace KX : Hid (Blk w1 (w.heap.size) 36 [.slice a.b x.table.buckets.length a.bc, .slice a.f x.table.frames.length a.fc, .slice a.q x.cpus.length a.qc]) := Lib.hid (KX.out.chg Y1.out (by omega))
    replace KY : Hid (Blk w1 (w.heap.size + 1) 36 [.slice b.b y.table.buckets.length b.bc, .slice b.f y.table.frames.length b.fc, .slice b.q y.cpus.length b.qc]) := Lib.hid (KY.out.chg Y1.out (by omega))
    replace DX := Lib.hid (HX.out.ex Ew1.out)
    replace DY := Lib.hid (HY.out.ex Ew1.out)
    obtain ⟨qX0, qX1, qX2⟩ := KX.out.c3
    have jX := KX.out.lt
    obtain ⟨qY0, qY1, qY2⟩ := KY.out.c3
    have jY := KY.out.lt
    go_wp2
    go_ret
    exact ⟨rfl, Ew1.out⟩
  have HR : Hid (x.cpus ≠ y.cpus → eqB x y = false) := Lib.hid (fun hne => by rw [eqB_false, Ne, HE.out]; intro h; exact hne h.2)
  have HS : Hid (x.cpus = y.cpus → eqB x y = true) := Lib.hid (fun he => by rw [eqB_true, HE.out]; exact ⟨eqB_true.1 h1, he⟩)
  generalize eqB x y = res at HR HS ⊢
  have hl : x.cpus.length = y.cpus.length := by simp at h3; omega
  clear h1 HE
  obtain ⟨n, hn1⟩ : ∃ n, n = x.cpus.length := ⟨_, rfl⟩
  have hn2 : y.cpus.length = n := by omega
  have HN1 := Lib.hid hn1
  have HN2 := Lib.hid hn2
  rw [hn2, ← hn1]
  have hn' : n ≤ 1048576 := by omega
  clear hl hn1 hn2 hn hm h3
  have HQX := Lib.hid HX.out.q
  have HQY := Lib.hid HY.out.q
  have CX := Lib.hid (fun w' (h : Ex w w') => C1.out w' (HX.out.ex h) (HY.out.ex h))
  clear C1 HX HY
  obtain ⟨ab, abc, af, afc, aq, aqc⟩ := a
  obtain ⟨bb, bbc, bf, bfc, bq, bqc⟩ := b
  dsimp only at HQX HQY CX ⊢
  generalize x.table.buckets.length = xb at *
  generalize x.table.frames.length = xf at *
  generalize y.table.buckets.length = yb at *
  generalize y.table.frames.length = yf at *
  have CES : Hid (∀ (args : Array Value) (w : World), (callFunc 24 args).run Try.prog w = .ok (.enter 24 args) w) := Lib.hid (enters Try.func24 (by kernel_rfl) (by kernel_rfl))
  go_enter Try.func7, Try.ntmps7
  go_wp2_with fail
  refine name_calls ?_; intro v1 hv1
  have X1 : Hid (Chg (0) (0) w v1) := Lib.hid (by rw [hv1]; repeat' (first | with_reducible exact Chg.refl _ _ _ | with_reducible refine Chg.alloc ?_ _ | with_reducible refine Chg.drew ?_ | with_reducible refine Chg.set ?_ (by omega) _))
  have t1 : w.heap.size ≤ v1.heap.size := X1.out.size
  have Ev1 : Hid (Ex w v1) := Lib.hid ((Ex.refl w).chg X1.out (by omega))
  have KX : Hid (Blk v1 (w.heap.size) 36 [.slice ab xb abc, .slice af xf afc, .slice aq n aqc]) := Lib.hid (by rw [hv1]; repeat' (first | with_reducible exact Blk.new_at _ _ _ (by simp) | with_reducible refine Blk.alloc ?_ _ | with_reducible refine Blk.drew ?_ | with_reducible refine Blk.far ?_ (by simp; omega) _))
  have lX : w.heap.size < v1.heap.size := KX.out.lt
  have KY : Hid (Blk v1 (w.heap.size + 1) 36 [.slice bb yb bbc, .slice bf yf bfc, .slice bq n bqc]) := Lib.hid (by rw [hv1]; repeat' (first | with_reducible exact Blk.new_at _ _ _ (by simp) | with_reducible refine Blk.alloc ?_ _ | with_reducible refine Blk.drew ?_ | with_reducible refine Blk.far ?_ (by simp; omega) _))
  have lY : w.heap.size + 1 < v1.heap.size := KY.out.lt
  clear hv1
  refine (CX.out _ Ev1.out).mono ?_; rintro r w1 ⟨rfl, hb1⟩
  have Y1 : Hid (Chg 0 0 v1 w1) := Lib.hid (Chg.of_ex hb1)
  have s1 : v1.heap.size ≤ w1.heap.size := Y1.out.size
  have Ew1 : Hid (Ex w w1) := Lib.hid (Ev1.out.chg Y1.out (by omega))
  clear hb1
  replace KX : Hid (Blk w1 (w.heap.size) 36 [.slice ab xb abc, .slice af xf afc, .slice aq n aqc]) := Lib.hid (KX.out.chg Y1.out (by omega))
  replace KY : Hid (Blk w1 (w.heap.size + 1) 36 [.slice bb yb bbc, .slice bf yf bfc, .slice bq n bqc]) := Lib.hid (KY.out.chg Y1.out (by omega))
  obtain ⟨qX0, qX1, qX2⟩ := KX.out.c3
  have jX := KX.out.lt
  obtain ⟨qY0, qY1, qY2⟩ := KY.out.c3
  have jY := KY.out.lt
  obtain ⟨gX, hgX⟩ : ∃ g, g = w.heap.size := ⟨_, rfl⟩
  obtain ⟨gY, hgY⟩ : ∃ g, g = w.heap.size + 1 := ⟨_, rfl⟩
  rw [← hgY] at KY qY0 qY1 qY2 jY ⊢
  rw [← hgX] at KX qX0 qX1 qX2 jX ⊢
  clear hgX hgY CX
  go_wp2
  go_loopw [5] (fun i wr => ∃ j : Nat, j ≤ n ∧ i = .int .i64 j ∧ Ex w1 wr ∧ x.cpus.take j = y.cpus.take j) (fun i _ => n - (intOf i).toNat)
  case atStart => exact ⟨0, Nat.zero_le _, rfl, Ex.refl _, rfl⟩
  case round =>
    obtain ⟨j, hj, rfl, hbel, htk⟩ := hrel
    clear qX0 qX1 qX2 jX qY0 qY1 qY2 jY
    have HT := Lib.hid htk
    have HB := Lib.hid hbel
    clear htk hbel
    by_cases hlt : j < n
    rotate_left
    · have hjm : ¬ (j : Int) < (n : Int) := by omega
      obtain ⟨-, -, q2⟩ := (KX.out.ex HB.out).c3
      obtain ⟨-, -, p2⟩ := (KY.out.ex HB.out).c3
      have jx := (KX.out.ex HB.out).lt
      have jy := (KY.out.ex HB.out).lt
      go_wp2
      go_ret
      exact ⟨ret_bool (HS.out (eq_of_take HN1.out.symm HN2.out (by rw [show n = j from by omega]; exact HT.out))).symm, Ew1.out.trans HB.out⟩
    obtain ⟨b1, o1, u, nA, nc, wA, wc, rfl, hb1, hxk, g0, g1, hr1, hr2⟩ := (HQX.out.ex (Ew1.out.trans HB.out)).at_ (k := j) (by have := HN1.out; omega)
    obtain ⟨b2, o2, v, nA', nc', wA', wc', rfl, hb2, hyk, g2, g3, hr3, hr4⟩ := (HQY.out.ex (Ew1.out.trans HB.out)).at_ (k := j) (by have := HN2.out; omega)
    have HR1 := Lib.hid hr1
    have HR2 := Lib.hid hr2
    have HR3 := Lib.hid hr3
    have HR4 := Lib.hid hr4
    have HX1 := Lib.hid (HLX.out j u hxk)
    have HY1 := Lib.hid (HLY.out j v hyk)
    have HXK := Lib.hid hxk
    have HYK := Lib.hid hyk
    have FK : Hid (∀ w', Ex wr w' → (w'.cell? ⟨gX, 2, none⟩ = some (.slice (some ⟨b1, o1, none⟩) n aqc) ∧ w'.cell? ⟨gY, 2, none⟩ = some (.slice (some ⟨b2, o2, none⟩) n bqc) ∧ w'.cell? ⟨b1, o1 + j * 2, none⟩ = some (.slice nA u.notes.length nc) ∧ w'.cell? ⟨b1, o1 + j * 2 + 1, none⟩ = some (.slice wA u.waits.length wc) ∧ w'.cell? ⟨b2, o2 + j * 2, none⟩ = some (.slice nA' v.notes.length nc') ∧ w'.cell? ⟨b2, o2 + j * 2 + 1, none⟩ = some (.slice wA' v.waits.length wc'))) := Lib.hid (fun w' h => by
      obtain ⟨-, -, a2⟩ := (KX.out.ex (HB.out.trans h)).c3
      obtain ⟨-, -, c2⟩ := (KY.out.ex (HB.out.trans h)).c3
      exact ⟨a2, c2, (h.cell hb1).trans g0, (h.cell hb1).trans g1, (h.cell hb2).trans g2, (h.cell hb2).trans g3⟩)
    have hj0 : ¬ ((j : Int) < 0) := by omega
    have hj1 : (j : Int) < (n : Int) := by omega
    have CN1 := Lib.hid (fun w' (h : Ex wr w') => l8Notes_c nA nA' nc nc' u.notes v.notes w' (HR1.out.ex h) (HR3.out.ex h) HX1.out.1 HY1.out.1)
    have CN2 := Lib.hid (fun w' (h : Ex wr w') => l8Notes_c wA wA' wc wc' u.waits v.waits w' (HR2.out.ex h) (HR4.out.ex h) HX1.out.2 HY1.out.2)
    clear hxk hyk hr1 hr2 hr3 hr4 g0 g1 g2 g3
    cases e1 : eqB u.notes v.notes
    · have HNE : Hid (u ≠ v) := Lib.hid (fun h => eqB_false.1 e1 (by rw [h]))
      rw [e1] at CN1
      clear e1
      obtain ⟨m2, p2, m0, m1, p0, p1⟩ := FK.out wr (Ex.refl _)
      have jx := (KX.out.ex HB.out).lt
      have jy := (KY.out.ex HB.out).lt
      go_wp2_with fail
      clear m2 p2 m0 m1 p0 p1 jx jy
      refine wp_region_held_drew (S := (fun w' => (w'.cell? ⟨gX, 2, none⟩ = some (.slice (some ⟨b1, o1, none⟩) n aqc) ∧ w'.cell? ⟨gY, 2, none⟩ = some (.slice (some ⟨b2, o2, none⟩) n bqc) ∧ w'.cell? ⟨b1, o1 + j * 2, none⟩ = some (.slice nA u.notes.length nc) ∧ w'.cell? ⟨b1, o1 + j * 2 + 1, none⟩ = some (.slice wA u.waits.length wc) ∧ w'.cell? ⟨b2, o2 + j * 2, none⟩ = some (.slice nA' v.notes.length nc') ∧ w'.cell? ⟨b2, o2 + j * 2 + 1, none⟩ = some (.slice wA' v.waits.length wc')))) (by kernel_rfl) ?r0_hS0 (fun hHeld => ?_)
      case r0_hS0 => exact FK.out _ (Ex.refl _).drew
      refine wpAnyH_take (i := 0) (oi := ?r0_o0) (v := ?r0_v0) ?r0_ho0 (by kernel_rfl) (by kernel_rfl) (by kernel_rfl) ?r0_hq0 ?r0_hy0 (by assumption) ?_
      case r0_ho0 => (conv => lhs; whnf; arg 1; whnf)
      case r0_hq0 => exact fun _ _ _ h => h
      case r0_hy0 => (refine Or.inl ⟨by rfl, ?_⟩; intro w hSw; (try dsimp only at hSw); first | (go_simp; done) | (go_simp; with_reducible rfl))
      try simp only [Act.put, List.setIfInBounds_toArray, List.set_cons_zero, List.set_cons_succ]
      refine wpAnyH_take (i := 1) (oi := ?r0_o1) (v := ?r0_v1) ?r0_ho1 (by kernel_rfl) (by kernel_rfl) (by kernel_rfl) ?r0_hq1 ?r0_hy1 (by assumption) ?_
      case r0_ho1 => (conv => lhs; whnf; arg 1; whnf)
      case r0_hq1 => exact fun _ _ _ h => h
      case r0_hy1 => (refine Or.inl ⟨by rfl, ?_⟩; intro w hSw; (try dsimp only at hSw); first | (go_simp; done) | (go_simp; with_reducible rfl))
      try simp only [Act.put, List.setIfInBounds_toArray, List.set_cons_zero, List.set_cons_succ]
      refine wpAnyH_take (i := 2) (oi := ?r0_o2) (v := ?r0_v2) ?r0_ho2 (by kernel_rfl) (by kernel_rfl) (by kernel_rfl) ?r0_hq2 ?r0_hy2 (by assumption) ?_
      case r0_ho2 => (conv => lhs; whnf; arg 1; whnf)
      case r0_hq2 => exact fun _ _ _ h => h
      case r0_hy2 => (refine Or.inl ⟨by rfl, ?_⟩; intro w hSw; (try dsimp only at hSw); first | (go_simp; done) | (go_simp; with_reducible rfl))
      try simp only [Act.put, List.setIfInBounds_toArray, List.set_cons_zero, List.set_cons_succ]
      refine wpAnyH_take (i := 3) (oi := ?r0_o3) (v := ?r0_v3) ?r0_ho3 (by kernel_rfl) (by kernel_rfl) (by kernel_rfl) ?r0_hq3 ?r0_hy3 (by assumption) ?_
      case r0_ho3 => (conv => lhs; whnf; arg 1; whnf)
      case r0_hq3 => exact fun _ _ _ h => h
      case r0_hy3 => (refine Or.inl ⟨by rfl, ?_⟩; intro w hSw; (try dsimp only at hSw); first | (go_simp; done) | (go_simp; with_reducible rfl))
      try simp only [Act.put, List.setIfInBounds_toArray, List.set_cons_zero, List.set_cons_succ]
      refine wpAnyH_take (i := 4) (oi := ?r0_o4) (v := ?r0_v4) ?r0_ho4 (by kernel_rfl) (by kernel_rfl) (by kernel_rfl) ?r0_hq4 ?r0_hy4 (by assumption) ?_
      case r0_ho4 => (conv => lhs; whnf; arg 1; whnf)
      case r0_hq4 => exact fun _ _ _ h => h
      case r0_hy4 => (refine Or.inl ⟨by rfl, ?_⟩; intro w hSw; (try dsimp only at hSw); first | (go_simp; done) | (go_simp; with_reducible rfl))
      try simp only [Act.put, List.setIfInBounds_toArray, List.set_cons_zero, List.set_cons_succ]
      refine wpAnyH_take (i := 5) (oi := ?r0_o5) (v := ?r0_v5) ?r0_ho5 (by kernel_rfl) (by kernel_rfl) (by kernel_rfl) ?r0_hq5 ?r0_hy5 (by assumption) ?_
      case r0_ho5 => (conv => lhs; whnf; arg 1; whnf)
      case r0_hq5 => exact fun _ _ _ h => h
      case r0_hy5 => (refine Or.inl ⟨by rfl, ?_⟩; intro w hSw; (try dsimp only at hSw); first | (go_simp; done) | (go_simp; with_reducible rfl))
      try simp only [Act.put, List.setIfInBounds_toArray, List.set_cons_zero, List.set_cons_succ]
      refine wpAnyH_take (i := 6) (oi := ?r0_o6) (v := ?r0_v6) ?r0_ho6 (by kernel_rfl) (by kernel_rfl) (by kernel_rfl) ?r0_hq6 ?r0_hy6 (by assumption) ?_
      case r0_ho6 => (conv => lhs; whnf; arg 1; whnf)
      case r0_hq6 => exact fun _ _ _ h => h
      case r0_hy6 => (refine Or.inl ⟨by rfl, ?_⟩; intro w hSw; (try dsimp only at hSw); first | (go_simp; done) | (go_simp; with_reducible rfl))
      try simp only [Act.put, List.setIfInBounds_toArray, List.set_cons_zero, List.set_cons_succ]
      refine wpAnyH_take (i := 7) (oi := ?r0_o7) (v := ?r0_v7) ?r0_ho7 (by kernel_rfl) (by kernel_rfl) (by kernel_rfl) ?r0_hq7 ?r0_hy7 (by assumption) ?_
      case r0_ho7 => (conv => lhs; whnf; arg 1; whnf)
      case r0_hq7 => exact fun _ _ _ h => h
      case r0_hy7 => (refine Or.inl ⟨by rfl, ?_⟩; intro w hSw; (try dsimp only at hSw); first | (go_simp; done) | (go_simp; with_reducible rfl))
      try simp only [Act.put, List.setIfInBounds_toArray, List.set_cons_zero, List.set_cons_succ]
      refine wpAnyH_take (i := 8) (oi := ?r0_o8) (v := ?r0_v8) ?r0_ho8 (by kernel_rfl) (by kernel_rfl) (by kernel_rfl) ?r0_hq8 ?r0_hy8 (by assumption) ?_
      case r0_ho8 => (conv => lhs; whnf; arg 1; whnf)
      case r0_hq8 => exact fun _ _ _ h => h
      case r0_hy8 => (refine Or.inl ⟨by rfl, ?_⟩; intro w hSw; (try dsimp only at hSw); first | (go_simp; done) | (go_simp; with_reducible rfl))
      try simp only [Act.put, List.setIfInBounds_toArray, List.set_cons_zero, List.set_cons_succ]
      refine wpAnyH_take (i := 9) (oi := ?r0_o9) (v := ?r0_v9) ?r0_ho9 (by kernel_rfl) (by kernel_rfl) (by kernel_rfl) ?r0_hq9 ?r0_hy9 (by assumption) ?_
      case r0_ho9 => (conv => lhs; whnf; arg 1; whnf)
      case r0_hq9 => exact fun _ _ _ h => h
      case r0_hy9 => (refine Or.inl ⟨by rfl, ?_⟩; intro w hSw; (try dsimp only at hSw); first | (go_simp; done) | (go_simp; with_reducible rfl))
      try simp only [Act.put, List.setIfInBounds_toArray, List.set_cons_zero, List.set_cons_succ]
      refine wpAnyH_take (i := 10) (oi := ?r0_o10) (v := ?r0_v10) ?r0_ho10 (by kernel_rfl) (by kernel_rfl) (by kernel_rfl) ?r0_hq10 ?r0_hy10 (by assumption) ?_
      case r0_ho10 => (conv => lhs; whnf; arg 1; whnf)
      case r0_hq10 => exact fun _ _ _ h => h
      case r0_hy10 => (refine Or.inl ⟨by rfl, ?_⟩; intro w hSw; (try dsimp only at hSw); first | (go_simp; done) | (go_simp; with_reducible rfl))
      try simp only [Act.put, List.setIfInBounds_toArray, List.set_cons_zero, List.set_cons_succ]
      refine wpAnyH_take (i := 11) (oi := ?r0_o11) (v := ?r0_v11) ?r0_ho11 (by kernel_rfl) (by kernel_rfl) (by kernel_rfl) ?r0_hq11 ?r0_hy11 (by assumption) ?_
      case r0_ho11 => (conv => lhs; whnf; arg 1; whnf)
      case r0_hq11 => exact fun _ _ _ h => h
      case r0_hy11 => (refine Or.inl ⟨by rfl, ?_⟩; intro w hSw; (try dsimp only at hSw); first | (go_simp; done) | (go_simp; with_reducible rfl))
      try simp only [Act.put, List.setIfInBounds_toArray, List.set_cons_zero, List.set_cons_succ]
      refine wpAnyH_ready (rs := [12]) (by kernel_rfl) (by simp) ?_
      refine AllReadyH.cons (o := ?r0_o12) ?r0_ho12 (fun K hK => ?_) AllReadyH.nil
      case r0_ho12 => (conv => lhs; whnf; arg 1; whnf)
      refine step_call_gu rfl CES.out _ _ rfl #[.slice nA u.notes.length nc, .slice nA' v.notes.length nc'] rfl (CN1.out _ (Ex.refl _).drew) ?_; rintro r wa ⟨rfl, hwa⟩; refine ⟨_, rfl, ?_⟩; have hxa := Ex.trans (Ex.refl _).drew hwa
      refine hK.out _ _ ?r0_hS12 (fun hHeld12 => ?_)
      case r0_hS12 => exact FK.out _ hxa
      clear hK K hHeld
      try simp only [Act.put, List.setIfInBounds_toArray, List.set_cons_zero, List.set_cons_succ]
      refine wpAnyH_take (i := 13) (oi := ?r0_o13) (v := ?r0_v13) ?r0_ho13 (by kernel_rfl) (by kernel_rfl) (by kernel_rfl) ?r0_hq13 ?r0_hy13 (by assumption) ?_
      case r0_ho13 => (conv => lhs; whnf; arg 1; whnf)
      case r0_hq13 => exact fun _ _ _ h => h
      case r0_hy13 => (refine Or.inl ⟨by rfl, ?_⟩; intro w hSw; (try dsimp only at hSw); first | (go_simp; done) | (go_simp; with_reducible rfl))
      try simp only [Act.put, List.setIfInBounds_toArray, List.set_cons_zero, List.set_cons_succ]
      refine wpAnyH_take (i := 14) (oi := ?r0_o14) (v := ?r0_v14) ?r0_ho14 (by kernel_rfl) (by kernel_rfl) (by kernel_rfl) ?r0_hq14 ?r0_hy14 (by assumption) ?_
      case r0_ho14 => (conv => lhs; whnf; arg 1; whnf)
      case r0_hq14 => exact fun _ _ _ h => h
      case r0_hy14 => (refine Or.inl ⟨by rfl, ?_⟩; intro w hSw; (try dsimp only at hSw); first | (go_simp; done) | (go_simp; with_reducible rfl))
      try simp only [Act.put, List.setIfInBounds_toArray, List.set_cons_zero, List.set_cons_succ]
      refine wpAnyH_take (i := 15) (oi := ?r0_o15) (v := undef) ?r0_ho15 (by kernel_rfl) (by kernel_rfl) (by kernel_rfl) ?r0_hq15 ?r0_hy15 (by assumption) ?_
      case r0_ho15 => (conv => lhs; whnf; arg 1; whnf)
      case r0_hq15 => exact fun _ _ _ h => h
      case r0_hy15 => exact Or.inr ⟨by rfl, rfl⟩
      try simp only [Act.put, List.setIfInBounds_toArray, List.set_cons_zero, List.set_cons_succ]
      refine wpAnyH_take (i := 16) (oi := ?r0_o16) (v := undef) ?r0_ho16 (by kernel_rfl) (by kernel_rfl) (by kernel_rfl) ?r0_hq16 ?r0_hy16 (by assumption) ?_
      case r0_ho16 => (conv => lhs; whnf; arg 1; whnf)
      case r0_hq16 => exact fun _ _ _ h => h
      case r0_hy16 => exact Or.inr ⟨by rfl, rfl⟩
      try simp only [Act.put, List.setIfInBounds_toArray, List.set_cons_zero, List.set_cons_succ]
      refine wpAnyH_take (i := 17) (oi := ?r0_o17) (v := undef) ?r0_ho17 (by kernel_rfl) (by kernel_rfl) (by kernel_rfl) ?r0_hq17 ?r0_hy17 (by assumption) ?_
      case r0_ho17 => (conv => lhs; whnf; arg 1; whnf)
      case r0_hq17 => exact fun _ _ _ h => h
      case r0_hy17 => exact Or.inr ⟨by rfl, rfl⟩
      try simp only [Act.put, List.setIfInBounds_toArray, List.set_cons_zero, List.set_cons_succ]
      refine wpAnyH_take (i := 18) (oi := ?r0_o18) (v := undef) ?r0_ho18 (by kernel_rfl) (by kernel_rfl) (by kernel_rfl) ?r0_hq18 ?r0_hy18 (by assumption) ?_
      case r0_ho18 => (conv => lhs; whnf; arg 1; whnf)
      case r0_hq18 => exact fun _ _ _ h => h
      case r0_hy18 => exact Or.inr ⟨by rfl, rfl⟩
      try simp only [Act.put, List.setIfInBounds_toArray, List.set_cons_zero, List.set_cons_succ]
      refine wpAnyH_take (i := 19) (oi := ?r0_o19) (v := undef) ?r0_ho19 (by kernel_rfl) (by kernel_rfl) (by kernel_rfl) ?r0_hq19 ?r0_hy19 (by assumption) ?_
      case r0_ho19 => (conv => lhs; whnf; arg 1; whnf)
      case r0_hq19 => exact fun _ _ _ h => h
      case r0_hy19 => exact Or.inr ⟨by rfl, rfl⟩
      try simp only [Act.put, List.setIfInBounds_toArray, List.set_cons_zero, List.set_cons_succ]
      refine wpAnyH_take (i := 20) (oi := ?r0_o20) (v := undef) ?r0_ho20 (by kernel_rfl) (by kernel_rfl) (by kernel_rfl) ?r0_hq20 ?r0_hy20 (by assumption) ?_
      case r0_ho20 => (conv => lhs; whnf; arg 1; whnf)
      case r0_hq20 => exact fun _ _ _ h => h
      case r0_hy20 => exact Or.inr ⟨by rfl, rfl⟩
      try simp only [Act.put, List.setIfInBounds_toArray, List.set_cons_zero, List.set_cons_succ]
      refine wpAnyH_take (i := 21) (oi := ?r0_o21) (v := undef) ?r0_ho21 (by kernel_rfl) (by kernel_rfl) (by kernel_rfl) ?r0_hq21 ?r0_hy21 (by assumption) ?_
      case r0_ho21 => (conv => lhs; whnf; arg 1; whnf)
      case r0_hq21 => exact fun _ _ _ h => h
      case r0_hy21 => exact Or.inr ⟨by rfl, rfl⟩
      try simp only [Act.put, List.setIfInBounds_toArray, List.set_cons_zero, List.set_cons_succ]
      refine wpAnyH_take (i := 22) (oi := ?r0_o22) (v := undef) ?r0_ho22 (by kernel_rfl) (by kernel_rfl) (by kernel_rfl) ?r0_hq22 ?r0_hy22 (by assumption) ?_
      case r0_ho22 => (conv => lhs; whnf; arg 1; whnf)
      case r0_hq22 => exact fun _ _ _ h => h
      case r0_hy22 => exact Or.inr ⟨by rfl, rfl⟩
      try simp only [Act.put, List.setIfInBounds_toArray, List.set_cons_zero, List.set_cons_succ]
      refine wpAnyH_take (i := 23) (oi := ?r0_o23) (v := undef) ?r0_ho23 (by kernel_rfl) (by kernel_rfl) (by kernel_rfl) ?r0_hq23 ?r0_hy23 (by assumption) ?_
      case r0_ho23 => (conv => lhs; whnf; arg 1; whnf)
      case r0_hq23 => exact fun _ _ _ h => h
      case r0_hy23 => exact Or.inr ⟨by rfl, rfl⟩
      try simp only [Act.put, List.setIfInBounds_toArray, List.set_cons_zero, List.set_cons_succ]
      refine wpAnyH_take (i := 24) (oi := ?r0_o24) (v := undef) ?r0_ho24 (by kernel_rfl) (by kernel_rfl) (by kernel_rfl) ?r0_hq24 ?r0_hy24 (by assumption) ?_
      case r0_ho24 => (conv => lhs; whnf; arg 1; whnf)
      case r0_hq24 => exact fun _ _ _ h => h
      case r0_hy24 => exact Or.inr ⟨by rfl, rfl⟩
      try simp only [Act.put, List.setIfInBounds_toArray, List.set_cons_zero, List.set_cons_succ]
      refine wpAnyH_take (i := 25) (oi := ?r0_o25) (v := undef) ?r0_ho25 (by kernel_rfl) (by kernel_rfl) (by kernel_rfl) ?r0_hq25 ?r0_hy25 (by assumption) ?_
      case r0_ho25 => (conv => lhs; whnf; arg 1; whnf)
      case r0_hq25 => exact fun _ _ _ h => h
      case r0_hy25 => exact Or.inr ⟨by rfl, rfl⟩
      try simp only [Act.put, List.setIfInBounds_toArray, List.set_cons_zero, List.set_cons_succ]
      refine wpAnyH_take (i := 26) (oi := ?r0_o26) (v := undef) ?r0_ho26 (by kernel_rfl) (by kernel_rfl) (by kernel_rfl) ?r0_hq26 ?r0_hy26 (by assumption) ?_
      case r0_ho26 => (conv => lhs; whnf; arg 1; whnf)
      case r0_hq26 => exact fun _ _ _ h => h
      case r0_hy26 => exact Or.inr ⟨by rfl, rfl⟩
      try simp only [Act.put, List.setIfInBounds_toArray, List.set_cons_zero, List.set_cons_succ]
      refine wpAnyH_take (i := 27) (oi := ?r0_o27) (v := undef) ?r0_ho27 (by kernel_rfl) (by kernel_rfl) (by kernel_rfl) ?r0_hq27 ?r0_hy27 (by assumption) ?_
      case r0_ho27 => (conv => lhs; whnf; arg 1; whnf)
      case r0_hq27 => exact fun _ _ _ h => h
      case r0_hy27 => exact Or.inr ⟨by rfl, rfl⟩
      try simp only [Act.put, List.setIfInBounds_toArray, List.set_cons_zero, List.set_cons_succ]
      refine wpAnyH_take (i := 28) (oi := ?r0_o28) (v := undef) ?r0_ho28 (by kernel_rfl) (by kernel_rfl) (by kernel_rfl) ?r0_hq28 ?r0_hy28 (by assumption) ?_
      case r0_ho28 => (conv => lhs; whnf; arg 1; whnf)
      case r0_hq28 => exact fun _ _ _ h => h
      case r0_hy28 => exact Or.inr ⟨by rfl, rfl⟩
      try simp only [Act.put, List.setIfInBounds_toArray, List.set_cons_zero, List.set_cons_succ]
      refine wpAnyH_take (i := 29) (oi := ?r0_o29) (v := ?r0_v29) ?r0_ho29 (by kernel_rfl) (by kernel_rfl) (by kernel_rfl) ?r0_hq29 ?r0_hy29 (by assumption) ?_
      case r0_ho29 => (conv => lhs; whnf; arg 1; whnf)
      case r0_hq29 => exact fun _ _ _ h => h
      case r0_hy29 => (refine Or.inl ⟨by rfl, ?_⟩; intro w hSw; (try dsimp only at hSw); first | (go_simp; done) | (go_simp; with_reducible rfl))
      try simp only [Act.put, List.setIfInBounds_toArray, List.set_cons_zero, List.set_cons_succ]
      refine wpAnyH_done (by kernel_rfl) ?_ _
      go_wp2
      go_ret
      exact ⟨ret_bool (HR.out (fun hh => ne_of_elem HXK.out HYK.out HNE.out hh)).symm, (Ew1.out.trans HB.out).trans hxa⟩
    · have HE1 := Lib.hid (eqB_true.1 e1)
      rw [e1] at CN1
      clear e1
      cases e2 : eqB u.waits v.waits
      · have HNE : Hid (u ≠ v) := Lib.hid (fun h => eqB_false.1 e2 (by rw [h]))
        rw [e2] at CN2
        clear e2
        obtain ⟨m2, p2, m0, m1, p0, p1⟩ := FK.out wr (Ex.refl _)
        have jx := (KX.out.ex HB.out).lt
        have jy := (KY.out.ex HB.out).lt
        go_wp2_with fail
        clear m2 p2 m0 m1 p0 p1 jx jy
        refine wp_region_held_drew (S := (fun w' => (w'.cell? ⟨gX, 2, none⟩ = some (.slice (some ⟨b1, o1, none⟩) n aqc) ∧ w'.cell? ⟨gY, 2, none⟩ = some (.slice (some ⟨b2, o2, none⟩) n bqc) ∧ w'.cell? ⟨b1, o1 + j * 2, none⟩ = some (.slice nA u.notes.length nc) ∧ w'.cell? ⟨b1, o1 + j * 2 + 1, none⟩ = some (.slice wA u.waits.length wc) ∧ w'.cell? ⟨b2, o2 + j * 2, none⟩ = some (.slice nA' v.notes.length nc') ∧ w'.cell? ⟨b2, o2 + j * 2 + 1, none⟩ = some (.slice wA' v.waits.length wc')))) (by kernel_rfl) ?r1_hS0 (fun hHeld => ?_)
        case r1_hS0 => exact FK.out _ (Ex.refl _).drew
        refine wpAnyH_take (i := 0) (oi := ?r1_o0) (v := ?r1_v0) ?r1_ho0 (by kernel_rfl) (by kernel_rfl) (by kernel_rfl) ?r1_hq0 ?r1_hy0 (by assumption) ?_
        case r1_ho0 => (conv => lhs; whnf; arg 1; whnf)
        case r1_hq0 => exact fun _ _ _ h => h
        case r1_hy0 => (refine Or.inl ⟨by rfl, ?_⟩; intro w hSw; (try dsimp only at hSw); first | (go_simp; done) | (go_simp; with_reducible rfl))
        try simp only [Act.put, List.setIfInBounds_toArray, List.set_cons_zero, List.set_cons_succ]
        refine wpAnyH_take (i := 1) (oi := ?r1_o1) (v := ?r1_v1) ?r1_ho1 (by kernel_rfl) (by kernel_rfl) (by kernel_rfl) ?r1_hq1 ?r1_hy1 (by assumption) ?_
        case r1_ho1 => (conv => lhs; whnf; arg 1; whnf)
        case r1_hq1 => exact fun _ _ _ h => h
        case r1_hy1 => (refine Or.inl ⟨by rfl, ?_⟩; intro w hSw; (try dsimp only at hSw); first | (go_simp; done) | (go_simp; with_reducible rfl))
        try simp only [Act.put, List.setIfInBounds_toArray, List.set_cons_zero, List.set_cons_succ]
        refine wpAnyH_take (i := 2) (oi := ?r1_o2) (v := ?r1_v2) ?r1_ho2 (by kernel_rfl) (by kernel_rfl) (by kernel_rfl) ?r1_hq2 ?r1_hy2 (by assumption) ?_
        case r1_ho2 => (conv => lhs; whnf; arg 1; whnf)
        case r1_hq2 => exact fun _ _ _ h => h
        case r1_hy2 => (refine Or.inl ⟨by rfl, ?_⟩; intro w hSw; (try dsimp only at hSw); first | (go_simp; done) | (go_simp; with_reducible rfl))
        try simp only [Act.put, List.setIfInBounds_toArray, List.set_cons_zero, List.set_cons_succ]
        refine wpAnyH_take (i := 3) (oi := ?r1_o3) (v := ?r1_v3) ?r1_ho3 (by kernel_rfl) (by kernel_rfl) (by kernel_rfl) ?r1_hq3 ?r1_hy3 (by assumption) ?_
        case r1_ho3 => (conv => lhs; whnf; arg 1; whnf)
        case r1_hq3 => exact fun _ _ _ h => h
        case r1_hy3 => (refine Or.inl ⟨by rfl, ?_⟩; intro w hSw; (try dsimp only at hSw); first | (go_simp; done) | (go_simp; with_reducible rfl))
        try simp only [Act.put, List.setIfInBounds_toArray, List.set_cons_zero, List.set_cons_succ]
        refine wpAnyH_take (i := 4) (oi := ?r1_o4) (v := ?r1_v4) ?r1_ho4 (by kernel_rfl) (by kernel_rfl) (by kernel_rfl) ?r1_hq4 ?r1_hy4 (by assumption) ?_
        case r1_ho4 => (conv => lhs; whnf; arg 1; whnf)
        case r1_hq4 => exact fun _ _ _ h => h
        case r1_hy4 => (refine Or.inl ⟨by rfl, ?_⟩; intro w hSw; (try dsimp only at hSw); first | (go_simp; done) | (go_simp; with_reducible rfl))
        try simp only [Act.put, List.setIfInBounds_toArray, List.set_cons_zero, List.set_cons_succ]
        refine wpAnyH_take (i := 5) (oi := ?r1_o5) (v := ?r1_v5) ?r1_ho5 (by kernel_rfl) (by kernel_rfl) (by kernel_rfl) ?r1_hq5 ?r1_hy5 (by assumption) ?_
        case r1_ho5 => (conv => lhs; whnf; arg 1; whnf)
        case r1_hq5 => exact fun _ _ _ h => h
        case r1_hy5 => (refine Or.inl ⟨by rfl, ?_⟩; intro w hSw; (try dsimp only at hSw); first | (go_simp; done) | (go_simp; with_reducible rfl))
        try simp only [Act.put, List.setIfInBounds_toArray, List.set_cons_zero, List.set_cons_succ]
        refine wpAnyH_take (i := 6) (oi := ?r1_o6) (v := ?r1_v6) ?r1_ho6 (by kernel_rfl) (by kernel_rfl) (by kernel_rfl) ?r1_hq6 ?r1_hy6 (by assumption) ?_
        case r1_ho6 => (conv => lhs; whnf; arg 1; whnf)
        case r1_hq6 => exact fun _ _ _ h => h
        case r1_hy6 => (refine Or.inl ⟨by rfl, ?_⟩; intro w hSw; (try dsimp only at hSw); first | (go_simp; done) | (go_simp; with_reducible rfl))
        try simp only [Act.put, List.setIfInBounds_toArray, List.set_cons_zero, List.set_cons_succ]
        refine wpAnyH_take (i := 7) (oi := ?r1_o7) (v := ?r1_v7) ?r1_ho7 (by kernel_rfl) (by kernel_rfl) (by kernel_rfl) ?r1_hq7 ?r1_hy7 (by assumption) ?_
        case r1_ho7 => (conv => lhs; whnf; arg 1; whnf)
        case r1_hq7 => exact fun _ _ _ h => h
        case r1_hy7 => (refine Or.inl ⟨by rfl, ?_⟩; intro w hSw; (try dsimp only at hSw); first | (go_simp; done) | (go_simp; with_reducible rfl))
        try simp only [Act.put, List.setIfInBounds_toArray, List.set_cons_zero, List.set_cons_succ]
        refine wpAnyH_take (i := 8) (oi := ?r1_o8) (v := ?r1_v8) ?r1_ho8 (by kernel_rfl) (by kernel_rfl) (by kernel_rfl) ?r1_hq8 ?r1_hy8 (by assumption) ?_
        case r1_ho8 => (conv => lhs; whnf; arg 1; whnf)
        case r1_hq8 => exact fun _ _ _ h => h
        case r1_hy8 => (refine Or.inl ⟨by rfl, ?_⟩; intro w hSw; (try dsimp only at hSw); first | (go_simp; done) | (go_simp; with_reducible rfl))
        try simp only [Act.put, List.setIfInBounds_toArray, List.set_cons_zero, List.set_cons_succ]
        refine wpAnyH_take (i := 9) (oi := ?r1_o9) (v := ?r1_v9) ?r1_ho9 (by kernel_rfl) (by kernel_rfl) (by kernel_rfl) ?r1_hq9 ?r1_hy9 (by assumption) ?_
        case r1_ho9 => (conv => lhs; whnf; arg 1; whnf)
        case r1_hq9 => exact fun _ _ _ h => h
        case r1_hy9 => (refine Or.inl ⟨by rfl, ?_⟩; intro w hSw; (try dsimp only at hSw); first | (go_simp; done) | (go_simp; with_reducible rfl))
        try simp only [Act.put, List.setIfInBounds_toArray, List.set_cons_zero, List.set_cons_succ]
        refine wpAnyH_take (i := 10) (oi := ?r1_o10) (v := ?r1_v10) ?r1_ho10 (by kernel_rfl) (by kernel_rfl) (by kernel_rfl) ?r1_hq10 ?r1_hy10 (by assumption) ?_
        case r1_ho10 => (conv => lhs; whnf; arg 1; whnf)
        case r1_hq10 => exact fun _ _ _ h => h
        case r1_hy10 => (refine Or.inl ⟨by rfl, ?_⟩; intro w hSw; (try dsimp only at hSw); first | (go_simp; done) | (go_simp; with_reducible rfl))
        try simp only [Act.put, List.setIfInBounds_toArray, List.set_cons_zero, List.set_cons_succ]
        refine wpAnyH_take (i := 11) (oi := ?r1_o11) (v := ?r1_v11) ?r1_ho11 (by kernel_rfl) (by kernel_rfl) (by kernel_rfl) ?r1_hq11 ?r1_hy11 (by assumption) ?_
        case r1_ho11 => (conv => lhs; whnf; arg 1; whnf)
        case r1_hq11 => exact fun _ _ _ h => h
        case r1_hy11 => (refine Or.inl ⟨by rfl, ?_⟩; intro w hSw; (try dsimp only at hSw); first | (go_simp; done) | (go_simp; with_reducible rfl))
        try simp only [Act.put, List.setIfInBounds_toArray, List.set_cons_zero, List.set_cons_succ]
        refine wpAnyH_ready (rs := [12]) (by kernel_rfl) (by simp) ?_
        refine AllReadyH.cons (o := ?r1_o12) ?r1_ho12 (fun K hK => ?_) AllReadyH.nil
        case r1_ho12 => (conv => lhs; whnf; arg 1; whnf)
        refine step_call_gu rfl CES.out _ _ rfl #[.slice nA u.notes.length nc, .slice nA' v.notes.length nc'] rfl (CN1.out _ (Ex.refl _).drew) ?_; rintro r wa ⟨rfl, hwa⟩; refine ⟨_, rfl, ?_⟩; have hxa := Ex.trans (Ex.refl _).drew hwa
        refine hK.out _ _ ?r1_hS12 (fun hHeld12 => ?_)
        case r1_hS12 => exact FK.out _ hxa
        clear hK K hHeld
        try simp only [Act.put, List.setIfInBounds_toArray, List.set_cons_zero, List.set_cons_succ]
        refine wpAnyH_take (i := 13) (oi := ?r1_o13) (v := ?r1_v13) ?r1_ho13 (by kernel_rfl) (by kernel_rfl) (by kernel_rfl) ?r1_hq13 ?r1_hy13 (by assumption) ?_
        case r1_ho13 => (conv => lhs; whnf; arg 1; whnf)
        case r1_hq13 => exact fun _ _ _ h => h
        case r1_hy13 => (refine Or.inl ⟨by rfl, ?_⟩; intro w hSw; (try dsimp only at hSw); first | (go_simp; done) | (go_simp; with_reducible rfl))
        try simp only [Act.put, List.setIfInBounds_toArray, List.set_cons_zero, List.set_cons_succ]
        refine wpAnyH_take (i := 14) (oi := ?r1_o14) (v := ?r1_v14) ?r1_ho14 (by kernel_rfl) (by kernel_rfl) (by kernel_rfl) ?r1_hq14 ?r1_hy14 (by assumption) ?_
        case r1_ho14 => (conv => lhs; whnf; arg 1; whnf)
        case r1_hq14 => exact fun _ _ _ h => h
        case r1_hy14 => (refine Or.inl ⟨by rfl, ?_⟩; intro w hSw; (try dsimp only at hSw); first | (go_simp; done) | (go_simp; with_reducible rfl))
        try simp only [Act.put, List.setIfInBounds_toArray, List.set_cons_zero, List.set_cons_succ]
        refine wpAnyH_take (i := 15) (oi := ?r1_o15) (v := ?r1_v15) ?r1_ho15 (by kernel_rfl) (by kernel_rfl) (by kernel_rfl) ?r1_hq15 ?r1_hy15 (by assumption) ?_
        case r1_ho15 => (conv => lhs; whnf; arg 1; whnf)
        case r1_hq15 => exact fun _ _ _ h => h
        case r1_hy15 => (refine Or.inl ⟨by rfl, ?_⟩; intro w hSw; (try dsimp only at hSw); first | (go_simp; done) | (go_simp; with_reducible rfl))
        try simp only [Act.put, List.setIfInBounds_toArray, List.set_cons_zero, List.set_cons_succ]
        refine wpAnyH_take (i := 16) (oi := ?r1_o16) (v := ?r1_v16) ?r1_ho16 (by kernel_rfl) (by kernel_rfl) (by kernel_rfl) ?r1_hq16 ?r1_hy16 (by assumption) ?_
        case r1_ho16 => (conv => lhs; whnf; arg 1; whnf)
        case r1_hq16 => exact fun _ _ _ h => h
        case r1_hy16 => (refine Or.inl ⟨by rfl, ?_⟩; intro w hSw; (try dsimp only at hSw); first | (go_simp; done) | (go_simp; with_reducible rfl))
        try simp only [Act.put, List.setIfInBounds_toArray, List.set_cons_zero, List.set_cons_succ]
        refine wpAnyH_take (i := 17) (oi := ?r1_o17) (v := ?r1_v17) ?r1_ho17 (by kernel_rfl) (by kernel_rfl) (by kernel_rfl) ?r1_hq17 ?r1_hy17 (by assumption) ?_
        case r1_ho17 => (conv => lhs; whnf; arg 1; whnf)
        case r1_hq17 => exact fun _ _ _ h => h
        case r1_hy17 => (refine Or.inl ⟨by rfl, ?_⟩; intro w hSw; (try dsimp only at hSw); first | (go_simp; done) | (go_simp; with_reducible rfl))
        try simp only [Act.put, List.setIfInBounds_toArray, List.set_cons_zero, List.set_cons_succ]
        refine wpAnyH_take (i := 18) (oi := ?r1_o18) (v := ?r1_v18) ?r1_ho18 (by kernel_rfl) (by kernel_rfl) (by kernel_rfl) ?r1_hq18 ?r1_hy18 (by assumption) ?_
        case r1_ho18 => (conv => lhs; whnf; arg 1; whnf)
        case r1_hq18 => exact fun _ _ _ h => h
        case r1_hy18 => (refine Or.inl ⟨by rfl, ?_⟩; intro w hSw; (try dsimp only at hSw); first | (go_simp; done) | (go_simp; with_reducible rfl))
        try simp only [Act.put, List.setIfInBounds_toArray, List.set_cons_zero, List.set_cons_succ]
        refine wpAnyH_take (i := 19) (oi := ?r1_o19) (v := ?r1_v19) ?r1_ho19 (by kernel_rfl) (by kernel_rfl) (by kernel_rfl) ?r1_hq19 ?r1_hy19 (by assumption) ?_
        case r1_ho19 => (conv => lhs; whnf; arg 1; whnf)
        case r1_hq19 => exact fun _ _ _ h => h
        case r1_hy19 => (refine Or.inl ⟨by rfl, ?_⟩; intro w hSw; (try dsimp only at hSw); first | (go_simp; done) | (go_simp; with_reducible rfl))
        try simp only [Act.put, List.setIfInBounds_toArray, List.set_cons_zero, List.set_cons_succ]
        refine wpAnyH_take (i := 20) (oi := ?r1_o20) (v := ?r1_v20) ?r1_ho20 (by kernel_rfl) (by kernel_rfl) (by kernel_rfl) ?r1_hq20 ?r1_hy20 (by assumption) ?_
        case r1_ho20 => (conv => lhs; whnf; arg 1; whnf)
        case r1_hq20 => exact fun _ _ _ h => h
        case r1_hy20 => (refine Or.inl ⟨by rfl, ?_⟩; intro w hSw; (try dsimp only at hSw); first | (go_simp; done) | (go_simp; with_reducible rfl))
        try simp only [Act.put, List.setIfInBounds_toArray, List.set_cons_zero, List.set_cons_succ]
        refine wpAnyH_take (i := 21) (oi := ?r1_o21) (v := ?r1_v21) ?r1_ho21 (by kernel_rfl) (by kernel_rfl) (by kernel_rfl) ?r1_hq21 ?r1_hy21 (by assumption) ?_
        case r1_ho21 => (conv => lhs; whnf; arg 1; whnf)
        case r1_hq21 => exact fun _ _ _ h => h
        case r1_hy21 => (refine Or.inl ⟨by rfl, ?_⟩; intro w hSw; (try dsimp only at hSw); first | (go_simp; done) | (go_simp; with_reducible rfl))
        try simp only [Act.put, List.setIfInBounds_toArray, List.set_cons_zero, List.set_cons_succ]
        refine wpAnyH_take (i := 22) (oi := ?r1_o22) (v := ?r1_v22) ?r1_ho22 (by kernel_rfl) (by kernel_rfl) (by kernel_rfl) ?r1_hq22 ?r1_hy22 (by assumption) ?_
        case r1_ho22 => (conv => lhs; whnf; arg 1; whnf)
        case r1_hq22 => exact fun _ _ _ h => h
        case r1_hy22 => (refine Or.inl ⟨by rfl, ?_⟩; intro w hSw; (try dsimp only at hSw); first | (go_simp; done) | (go_simp; with_reducible rfl))
        try simp only [Act.put, List.setIfInBounds_toArray, List.set_cons_zero, List.set_cons_succ]
        refine wpAnyH_take (i := 23) (oi := ?r1_o23) (v := ?r1_v23) ?r1_ho23 (by kernel_rfl) (by kernel_rfl) (by kernel_rfl) ?r1_hq23 ?r1_hy23 (by assumption) ?_
        case r1_ho23 => (conv => lhs; whnf; arg 1; whnf)
        case r1_hq23 => exact fun _ _ _ h => h
        case r1_hy23 => (refine Or.inl ⟨by rfl, ?_⟩; intro w hSw; (try dsimp only at hSw); first | (go_simp; done) | (go_simp; with_reducible rfl))
        try simp only [Act.put, List.setIfInBounds_toArray, List.set_cons_zero, List.set_cons_succ]
        refine wpAnyH_take (i := 24) (oi := ?r1_o24) (v := ?r1_v24) ?r1_ho24 (by kernel_rfl) (by kernel_rfl) (by kernel_rfl) ?r1_hq24 ?r1_hy24 (by assumption) ?_
        case r1_ho24 => (conv => lhs; whnf; arg 1; whnf)
        case r1_hq24 => exact fun _ _ _ h => h
        case r1_hy24 => (refine Or.inl ⟨by rfl, ?_⟩; intro w hSw; (try dsimp only at hSw); first | (go_simp; done) | (go_simp; with_reducible rfl))
        try simp only [Act.put, List.setIfInBounds_toArray, List.set_cons_zero, List.set_cons_succ]
        refine wpAnyH_take (i := 25) (oi := ?r1_o25) (v := ?r1_v25) ?r1_ho25 (by kernel_rfl) (by kernel_rfl) (by kernel_rfl) ?r1_hq25 ?r1_hy25 (by assumption) ?_
        case r1_ho25 => (conv => lhs; whnf; arg 1; whnf)
        case r1_hq25 => exact fun _ _ _ h => h
        case r1_hy25 => (refine Or.inl ⟨by rfl, ?_⟩; intro w hSw; (try dsimp only at hSw); first | (go_simp; done) | (go_simp; with_reducible rfl))
        try simp only [Act.put, List.setIfInBounds_toArray, List.set_cons_zero, List.set_cons_succ]
        refine wpAnyH_take (i := 26) (oi := ?r1_o26) (v := ?r1_v26) ?r1_ho26 (by kernel_rfl) (by kernel_rfl) (by kernel_rfl) ?r1_hq26 ?r1_hy26 (by assumption) ?_
        case r1_ho26 => (conv => lhs; whnf; arg 1; whnf)
        case r1_hq26 => exact fun _ _ _ h => h
        case r1_hy26 => (refine Or.inl ⟨by rfl, ?_⟩; intro w hSw; (try dsimp only at hSw); first | (go_simp; done) | (go_simp; with_reducible rfl))
        try simp only [Act.put, List.setIfInBounds_toArray, List.set_cons_zero, List.set_cons_succ]
        refine wpAnyH_ready (rs := [27]) (by kernel_rfl) (by simp) ?_
        refine AllReadyH.cons (o := ?r1_o27) ?r1_ho27 (fun K hK => ?_) AllReadyH.nil
        case r1_ho27 => (conv => lhs; whnf; arg 1; whnf)
        refine step_call_gu rfl CES.out _ _ rfl #[.slice wA u.waits.length wc, .slice wA' v.waits.length wc'] rfl (CN2.out _ hxa) ?_; rintro r wb ⟨rfl, hwb⟩; refine ⟨_, rfl, ?_⟩; have hxb := Ex.trans hxa hwb
        refine hK.out _ _ ?r1_hS27 (fun hHeld27 => ?_)
        case r1_hS27 => exact FK.out _ hxb
        clear hK K hHeld12
        try simp only [Act.put, List.setIfInBounds_toArray, List.set_cons_zero, List.set_cons_succ]
        refine wpAnyH_take (i := 28) (oi := ?r1_o28) (v := ?r1_v28) ?r1_ho28 (by kernel_rfl) (by kernel_rfl) (by kernel_rfl) ?r1_hq28 ?r1_hy28 (by assumption) ?_
        case r1_ho28 => (conv => lhs; whnf; arg 1; whnf)
        case r1_hq28 => exact fun _ _ _ h => h
        case r1_hy28 => (refine Or.inl ⟨by rfl, ?_⟩; intro w hSw; (try dsimp only at hSw); first | (go_simp; done) | (go_simp; with_reducible rfl))
        try simp only [Act.put, List.setIfInBounds_toArray, List.set_cons_zero, List.set_cons_succ]
        refine wpAnyH_take (i := 29) (oi := ?r1_o29) (v := ?r1_v29) ?r1_ho29 (by kernel_rfl) (by kernel_rfl) (by kernel_rfl) ?r1_hq29 ?r1_hy29 (by assumption) ?_
        case r1_ho29 => (conv => lhs; whnf; arg 1; whnf)
        case r1_hq29 => exact fun _ _ _ h => h
        case r1_hy29 => (refine Or.inl ⟨by rfl, ?_⟩; intro w hSw; (try dsimp only at hSw); first | (go_simp; done) | (go_simp; with_reducible rfl))
        try simp only [Act.put, List.setIfInBounds_toArray, List.set_cons_zero, List.set_cons_succ]
        refine wpAnyH_done (by kernel_rfl) ?_ _
        go_wp2
        go_ret
        exact ⟨ret_bool (HR.out (fun hh => ne_of_elem HXK.out HYK.out HNE.out hh)).symm, (Ew1.out.trans HB.out).trans hxb⟩
      · have HEQ : Hid (u = v) := Lib.hid ((cpu_eq u v).2 ⟨HE1.out, eqB_true.1 e2⟩)
        rw [e2] at CN2
        clear e2
        obtain ⟨m2, p2, m0, m1, p0, p1⟩ := FK.out wr (Ex.refl _)
        have jx := (KX.out.ex HB.out).lt
        have jy := (KY.out.ex HB.out).lt
        go_wp2_with fail
        clear m2 p2 m0 m1 p0 p1 jx jy
        refine wp_region_held_drew (S := (fun w' => (w'.cell? ⟨gX, 2, none⟩ = some (.slice (some ⟨b1, o1, none⟩) n aqc) ∧ w'.cell? ⟨gY, 2, none⟩ = some (.slice (some ⟨b2, o2, none⟩) n bqc) ∧ w'.cell? ⟨b1, o1 + j * 2, none⟩ = some (.slice nA u.notes.length nc) ∧ w'.cell? ⟨b1, o1 + j * 2 + 1, none⟩ = some (.slice wA u.waits.length wc) ∧ w'.cell? ⟨b2, o2 + j * 2, none⟩ = some (.slice nA' v.notes.length nc') ∧ w'.cell? ⟨b2, o2 + j * 2 + 1, none⟩ = some (.slice wA' v.waits.length wc')))) (by kernel_rfl) ?r2_hS0 (fun hHeld => ?_)
        case r2_hS0 => exact FK.out _ (Ex.refl _).drew
        refine wpAnyH_take (i := 0) (oi := ?r2_o0) (v := ?r2_v0) ?r2_ho0 (by kernel_rfl) (by kernel_rfl) (by kernel_rfl) ?r2_hq0 ?r2_hy0 (by assumption) ?_
        case r2_ho0 => (conv => lhs; whnf; arg 1; whnf)
        case r2_hq0 => exact fun _ _ _ h => h
        case r2_hy0 => (refine Or.inl ⟨by rfl, ?_⟩; intro w hSw; (try dsimp only at hSw); first | (go_simp; done) | (go_simp; with_reducible rfl))
        try simp only [Act.put, List.setIfInBounds_toArray, List.set_cons_zero, List.set_cons_succ]
        refine wpAnyH_take (i := 1) (oi := ?r2_o1) (v := ?r2_v1) ?r2_ho1 (by kernel_rfl) (by kernel_rfl) (by kernel_rfl) ?r2_hq1 ?r2_hy1 (by assumption) ?_
        case r2_ho1 => (conv => lhs; whnf; arg 1; whnf)
        case r2_hq1 => exact fun _ _ _ h => h
        case r2_hy1 => (refine Or.inl ⟨by rfl, ?_⟩; intro w hSw; (try dsimp only at hSw); first | (go_simp; done) | (go_simp; with_reducible rfl))
        try simp only [Act.put, List.setIfInBounds_toArray, List.set_cons_zero, List.set_cons_succ]
        refine wpAnyH_take (i := 2) (oi := ?r2_o2) (v := ?r2_v2) ?r2_ho2 (by kernel_rfl) (by kernel_rfl) (by kernel_rfl) ?r2_hq2 ?r2_hy2 (by assumption) ?_
        case r2_ho2 => (conv => lhs; whnf; arg 1; whnf)
        case r2_hq2 => exact fun _ _ _ h => h
        case r2_hy2 => (refine Or.inl ⟨by rfl, ?_⟩; intro w hSw; (try dsimp only at hSw); first | (go_simp; done) | (go_simp; with_reducible rfl))
        try simp only [Act.put, List.setIfInBounds_toArray, List.set_cons_zero, List.set_cons_succ]
        refine wpAnyH_take (i := 3) (oi := ?r2_o3) (v := ?r2_v3) ?r2_ho3 (by kernel_rfl) (by kernel_rfl) (by kernel_rfl) ?r2_hq3 ?r2_hy3 (by assumption) ?_
        case r2_ho3 => (conv => lhs; whnf; arg 1; whnf)
        case r2_hq3 => exact fun _ _ _ h => h
        case r2_hy3 => (refine Or.inl ⟨by rfl, ?_⟩; intro w hSw; (try dsimp only at hSw); first | (go_simp; done) | (go_simp; with_reducible rfl))
        try simp only [Act.put, List.setIfInBounds_toArray, List.set_cons_zero, List.set_cons_succ]
        refine wpAnyH_take (i := 4) (oi := ?r2_o4) (v := ?r2_v4) ?r2_ho4 (by kernel_rfl) (by kernel_rfl) (by kernel_rfl) ?r2_hq4 ?r2_hy4 (by assumption) ?_
        case r2_ho4 => (conv => lhs; whnf; arg 1; whnf)
        case r2_hq4 => exact fun _ _ _ h => h
        case r2_hy4 => (refine Or.inl ⟨by rfl, ?_⟩; intro w hSw; (try dsimp only at hSw); first | (go_simp; done) | (go_simp; with_reducible rfl))
        try simp only [Act.put, List.setIfInBounds_toArray, List.set_cons_zero, List.set_cons_succ]
        refine wpAnyH_take (i := 5) (oi := ?r2_o5) (v := ?r2_v5) ?r2_ho5 (by kernel_rfl) (by kernel_rfl) (by kernel_rfl) ?r2_hq5 ?r2_hy5 (by assumption) ?_
        case r2_ho5 => (conv => lhs; whnf; arg 1; whnf)
        case r2_hq5 => exact fun _ _ _ h => h
        case r2_hy5 => (refine Or.inl ⟨by rfl, ?_⟩; intro w hSw; (try dsimp only at hSw); first | (go_simp; done) | (go_simp; with_reducible rfl))
        try simp only [Act.put, List.setIfInBounds_toArray, List.set_cons_zero, List.set_cons_succ]
        refine wpAnyH_take (i := 6) (oi := ?r2_o6) (v := ?r2_v6) ?r2_ho6 (by kernel_rfl) (by kernel_rfl) (by kernel_rfl) ?r2_hq6 ?r2_hy6 (by assumption) ?_
        case r2_ho6 => (conv => lhs; whnf; arg 1; whnf)
        case r2_hq6 => exact fun _ _ _ h => h
        case r2_hy6 => (refine Or.inl ⟨by rfl, ?_⟩; intro w hSw; (try dsimp only at hSw); first | (go_simp; done) | (go_simp; with_reducible rfl))
        try simp only [Act.put, List.setIfInBounds_toArray, List.set_cons_zero, List.set_cons_succ]
        refine wpAnyH_take (i := 7) (oi := ?r2_o7) (v := ?r2_v7) ?r2_ho7 (by kernel_rfl) (by kernel_rfl) (by kernel_rfl) ?r2_hq7 ?r2_hy7 (by assumption) ?_
        case r2_ho7 => (conv => lhs; whnf; arg 1; whnf)
        case r2_hq7 => exact fun _ _ _ h => h
        case r2_hy7 => (refine Or.inl ⟨by rfl, ?_⟩; intro w hSw; (try dsimp only at hSw); first | (go_simp; done) | (go_simp; with_reducible rfl))
        try simp only [Act.put, List.setIfInBounds_toArray, List.set_cons_zero, List.set_cons_succ]
        refine wpAnyH_take (i := 8) (oi := ?r2_o8) (v := ?r2_v8) ?r2_ho8 (by kernel_rfl) (by kernel_rfl) (by kernel_rfl) ?r2_hq8 ?r2_hy8 (by assumption) ?_
        case r2_ho8 => (conv => lhs; whnf; arg 1; whnf)
        case r2_hq8 => exact fun _ _ _ h => h
        case r2_hy8 => (refine Or.inl ⟨by rfl, ?_⟩; intro w hSw; (try dsimp only at hSw); first | (go_simp; done) | (go_simp; with_reducible rfl))
        try simp only [Act.put, List.setIfInBounds_toArray, List.set_cons_zero, List.set_cons_succ]
        refine wpAnyH_take (i := 9) (oi := ?r2_o9) (v := ?r2_v9) ?r2_ho9 (by kernel_rfl) (by kernel_rfl) (by kernel_rfl) ?r2_hq9 ?r2_hy9 (by assumption) ?_
        case r2_ho9 => (conv => lhs; whnf; arg 1; whnf)
        case r2_hq9 => exact fun _ _ _ h => h
        case r2_hy9 => (refine Or.inl ⟨by rfl, ?_⟩; intro w hSw; (try dsimp only at hSw); first | (go_simp; done) | (go_simp; with_reducible rfl))
        try simp only [Act.put, List.setIfInBounds_toArray, List.set_cons_zero, List.set_cons_succ]
        refine wpAnyH_take (i := 10) (oi := ?r2_o10) (v := ?r2_v10) ?r2_ho10 (by kernel_rfl) (by kernel_rfl) (by kernel_rfl) ?r2_hq10 ?r2_hy10 (by assumption) ?_
        case r2_ho10 => (conv => lhs; whnf; arg 1; whnf)
        case r2_hq10 => exact fun _ _ _ h => h
        case r2_hy10 => (refine Or.inl ⟨by rfl, ?_⟩; intro w hSw; (try dsimp only at hSw); first | (go_simp; done) | (go_simp; with_reducible rfl))
        try simp only [Act.put, List.setIfInBounds_toArray, List.set_cons_zero, List.set_cons_succ]
        refine wpAnyH_take (i := 11) (oi := ?r2_o11) (v := ?r2_v11) ?r2_ho11 (by kernel_rfl) (by kernel_rfl) (by kernel_rfl) ?r2_hq11 ?r2_hy11 (by assumption) ?_
        case r2_ho11 => (conv => lhs; whnf; arg 1; whnf)
        case r2_hq11 => exact fun _ _ _ h => h
        case r2_hy11 => (refine Or.inl ⟨by rfl, ?_⟩; intro w hSw; (try dsimp only at hSw); first | (go_simp; done) | (go_simp; with_reducible rfl))
        try simp only [Act.put, List.setIfInBounds_toArray, List.set_cons_zero, List.set_cons_succ]
        refine wpAnyH_ready (rs := [12]) (by kernel_rfl) (by simp) ?_
        refine AllReadyH.cons (o := ?r2_o12) ?r2_ho12 (fun K hK => ?_) AllReadyH.nil
        case r2_ho12 => (conv => lhs; whnf; arg 1; whnf)
        refine step_call_gu rfl CES.out _ _ rfl #[.slice nA u.notes.length nc, .slice nA' v.notes.length nc'] rfl (CN1.out _ (Ex.refl _).drew) ?_; rintro r wa ⟨rfl, hwa⟩; refine ⟨_, rfl, ?_⟩; have hxa := Ex.trans (Ex.refl _).drew hwa
        refine hK.out _ _ ?r2_hS12 (fun hHeld12 => ?_)
        case r2_hS12 => exact FK.out _ hxa
        clear hK K hHeld
        try simp only [Act.put, List.setIfInBounds_toArray, List.set_cons_zero, List.set_cons_succ]
        refine wpAnyH_take (i := 13) (oi := ?r2_o13) (v := ?r2_v13) ?r2_ho13 (by kernel_rfl) (by kernel_rfl) (by kernel_rfl) ?r2_hq13 ?r2_hy13 (by assumption) ?_
        case r2_ho13 => (conv => lhs; whnf; arg 1; whnf)
        case r2_hq13 => exact fun _ _ _ h => h
        case r2_hy13 => (refine Or.inl ⟨by rfl, ?_⟩; intro w hSw; (try dsimp only at hSw); first | (go_simp; done) | (go_simp; with_reducible rfl))
        try simp only [Act.put, List.setIfInBounds_toArray, List.set_cons_zero, List.set_cons_succ]
        refine wpAnyH_take (i := 14) (oi := ?r2_o14) (v := ?r2_v14) ?r2_ho14 (by kernel_rfl) (by kernel_rfl) (by kernel_rfl) ?r2_hq14 ?r2_hy14 (by assumption) ?_
        case r2_ho14 => (conv => lhs; whnf; arg 1; whnf)
        case r2_hq14 => exact fun _ _ _ h => h
        case r2_hy14 => (refine Or.inl ⟨by rfl, ?_⟩; intro w hSw; (try dsimp only at hSw); first | (go_simp; done) | (go_simp; with_reducible rfl))
        try simp only [Act.put, List.setIfInBounds_toArray, List.set_cons_zero, List.set_cons_succ]
        refine wpAnyH_take (i := 15) (oi := ?r2_o15) (v := ?r2_v15) ?r2_ho15 (by kernel_rfl) (by kernel_rfl) (by kernel_rfl) ?r2_hq15 ?r2_hy15 (by assumption) ?_
        case r2_ho15 => (conv => lhs; whnf; arg 1; whnf)
        case r2_hq15 => exact fun _ _ _ h => h
        case r2_hy15 => (refine Or.inl ⟨by rfl, ?_⟩; intro w hSw; (try dsimp only at hSw); first | (go_simp; done) | (go_simp; with_reducible rfl))
        try simp only [Act.put, List.setIfInBounds_toArray, List.set_cons_zero, List.set_cons_succ]
        refine wpAnyH_take (i := 16) (oi := ?r2_o16) (v := ?r2_v16) ?r2_ho16 (by kernel_rfl) (by kernel_rfl) (by kernel_rfl) ?r2_hq16 ?r2_hy16 (by assumption) ?_
        case r2_ho16 => (conv => lhs; whnf; arg 1; whnf)
        case r2_hq16 => exact fun _ _ _ h => h
        case r2_hy16 => (refine Or.inl ⟨by rfl, ?_⟩; intro w hSw; (try dsimp only at hSw); first | (go_simp; done) | (go_simp; with_reducible rfl))
        try simp only [Act.put, List.setIfInBounds_toArray, List.set_cons_zero, List.set_cons_succ]
        refine wpAnyH_take (i := 17) (oi := ?r2_o17) (v := ?r2_v17) ?r2_ho17 (by kernel_rfl) (by kernel_rfl) (by kernel_rfl) ?r2_hq17 ?r2_hy17 (by assumption) ?_
        case r2_ho17 => (conv => lhs; whnf; arg 1; whnf)
        case r2_hq17 => exact fun _ _ _ h => h
        case r2_hy17 => (refine Or.inl ⟨by rfl, ?_⟩; intro w hSw; (try dsimp only at hSw); first | (go_simp; done) | (go_simp; with_reducible rfl))
        try simp only [Act.put, List.setIfInBounds_toArray, List.set_cons_zero, List.set_cons_succ]
        refine wpAnyH_take (i := 18) (oi := ?r2_o18) (v := ?r2_v18) ?r2_ho18 (by kernel_rfl) (by kernel_rfl) (by kernel_rfl) ?r2_hq18 ?r2_hy18 (by assumption) ?_
        case r2_ho18 => (conv => lhs; whnf; arg 1; whnf)
        case r2_hq18 => exact fun _ _ _ h => h
        case r2_hy18 => (refine Or.inl ⟨by rfl, ?_⟩; intro w hSw; (try dsimp only at hSw); first | (go_simp; done) | (go_simp; with_reducible rfl))
        try simp only [Act.put, List.setIfInBounds_toArray, List.set_cons_zero, List.set_cons_succ]
        refine wpAnyH_take (i := 19) (oi := ?r2_o19) (v := ?r2_v19) ?r2_ho19 (by kernel_rfl) (by kernel_rfl) (by kernel_rfl) ?r2_hq19 ?r2_hy19 (by assumption) ?_
        case r2_ho19 => (conv => lhs; whnf; arg 1; whnf)
        case r2_hq19 => exact fun _ _ _ h => h
        case r2_hy19 => (refine Or.inl ⟨by rfl, ?_⟩; intro w hSw; (try dsimp only at hSw); first | (go_simp; done) | (go_simp; with_reducible rfl))
        try simp only [Act.put, List.setIfInBounds_toArray, List.set_cons_zero, List.set_cons_succ]
        refine wpAnyH_take (i := 20) (oi := ?r2_o20) (v := ?r2_v20) ?r2_ho20 (by kernel_rfl) (by kernel_rfl) (by kernel_rfl) ?r2_hq20 ?r2_hy20 (by assumption) ?_
        case r2_ho20 => (conv => lhs; whnf; arg 1; whnf)
        case r2_hq20 => exact fun _ _ _ h => h
        case r2_hy20 => (refine Or.inl ⟨by rfl, ?_⟩; intro w hSw; (try dsimp only at hSw); first | (go_simp; done) | (go_simp; with_reducible rfl))
        try simp only [Act.put, List.setIfInBounds_toArray, List.set_cons_zero, List.set_cons_succ]
        refine wpAnyH_take (i := 21) (oi := ?r2_o21) (v := ?r2_v21) ?r2_ho21 (by kernel_rfl) (by kernel_rfl) (by kernel_rfl) ?r2_hq21 ?r2_hy21 (by assumption) ?_
        case r2_ho21 => (conv => lhs; whnf; arg 1; whnf)
        case r2_hq21 => exact fun _ _ _ h => h
        case r2_hy21 => (refine Or.inl ⟨by rfl, ?_⟩; intro w hSw; (try dsimp only at hSw); first | (go_simp; done) | (go_simp; with_reducible rfl))
        try simp only [Act.put, List.setIfInBounds_toArray, List.set_cons_zero, List.set_cons_succ]
        refine wpAnyH_take (i := 22) (oi := ?r2_o22) (v := ?r2_v22) ?r2_ho22 (by kernel_rfl) (by kernel_rfl) (by kernel_rfl) ?r2_hq22 ?r2_hy22 (by assumption) ?_
        case r2_ho22 => (conv => lhs; whnf; arg 1; whnf)
        case r2_hq22 => exact fun _ _ _ h => h
        case r2_hy22 => (refine Or.inl ⟨by rfl, ?_⟩; intro w hSw; (try dsimp only at hSw); first | (go_simp; done) | (go_simp; with_reducible rfl))
        try simp only [Act.put, List.setIfInBounds_toArray, List.set_cons_zero, List.set_cons_succ]
        refine wpAnyH_take (i := 23) (oi := ?r2_o23) (v := ?r2_v23) ?r2_ho23 (by kernel_rfl) (by kernel_rfl) (by kernel_rfl) ?r2_hq23 ?r2_hy23 (by assumption) ?_
        case r2_ho23 => (conv => lhs; whnf; arg 1; whnf)
        case r2_hq23 => exact fun _ _ _ h => h
        case r2_hy23 => (refine Or.inl ⟨by rfl, ?_⟩; intro w hSw; (try dsimp only at hSw); first | (go_simp; done) | (go_simp; with_reducible rfl))
        try simp only [Act.put, List.setIfInBounds_toArray, List.set_cons_zero, List.set_cons_succ]
        refine wpAnyH_take (i := 24) (oi := ?r2_o24) (v := ?r2_v24) ?r2_ho24 (by kernel_rfl) (by kernel_rfl) (by kernel_rfl) ?r2_hq24 ?r2_hy24 (by assumption) ?_
        case r2_ho24 => (conv => lhs; whnf; arg 1; whnf)
        case r2_hq24 => exact fun _ _ _ h => h
        case r2_hy24 => (refine Or.inl ⟨by rfl, ?_⟩; intro w hSw; (try dsimp only at hSw); first | (go_simp; done) | (go_simp; with_reducible rfl))
        try simp only [Act.put, List.setIfInBounds_toArray, List.set_cons_zero, List.set_cons_succ]
        refine wpAnyH_take (i := 25) (oi := ?r2_o25) (v := ?r2_v25) ?r2_ho25 (by kernel_rfl) (by kernel_rfl) (by kernel_rfl) ?r2_hq25 ?r2_hy25 (by assumption) ?_
        case r2_ho25 => (conv => lhs; whnf; arg 1; whnf)
        case r2_hq25 => exact fun _ _ _ h => h
        case r2_hy25 => (refine Or.inl ⟨by rfl, ?_⟩; intro w hSw; (try dsimp only at hSw); first | (go_simp; done) | (go_simp; with_reducible rfl))
        try simp only [Act.put, List.setIfInBounds_toArray, List.set_cons_zero, List.set_cons_succ]
        refine wpAnyH_take (i := 26) (oi := ?r2_o26) (v := ?r2_v26) ?r2_ho26 (by kernel_rfl) (by kernel_rfl) (by kernel_rfl) ?r2_hq26 ?r2_hy26 (by assumption) ?_
        case r2_ho26 => (conv => lhs; whnf; arg 1; whnf)
        case r2_hq26 => exact fun _ _ _ h => h
        case r2_hy26 => (refine Or.inl ⟨by rfl, ?_⟩; intro w hSw; (try dsimp only at hSw); first | (go_simp; done) | (go_simp; with_reducible rfl))
        try simp only [Act.put, List.setIfInBounds_toArray, List.set_cons_zero, List.set_cons_succ]
        refine wpAnyH_ready (rs := [27]) (by kernel_rfl) (by simp) ?_
        refine AllReadyH.cons (o := ?r2_o27) ?r2_ho27 (fun K hK => ?_) AllReadyH.nil
        case r2_ho27 => (conv => lhs; whnf; arg 1; whnf)
        refine step_call_gu rfl CES.out _ _ rfl #[.slice wA u.waits.length wc, .slice wA' v.waits.length wc'] rfl (CN2.out _ hxa) ?_; rintro r wb ⟨rfl, hwb⟩; refine ⟨_, rfl, ?_⟩; have hxb := Ex.trans hxa hwb
        refine hK.out _ _ ?r2_hS27 (fun hHeld27 => ?_)
        case r2_hS27 => exact FK.out _ hxb
        clear hK K hHeld12
        try simp only [Act.put, List.setIfInBounds_toArray, List.set_cons_zero, List.set_cons_succ]
        refine wpAnyH_take (i := 28) (oi := ?r2_o28) (v := ?r2_v28) ?r2_ho28 (by kernel_rfl) (by kernel_rfl) (by kernel_rfl) ?r2_hq28 ?r2_hy28 (by assumption) ?_
        case r2_ho28 => (conv => lhs; whnf; arg 1; whnf)
        case r2_hq28 => exact fun _ _ _ h => h
        case r2_hy28 => (refine Or.inl ⟨by rfl, ?_⟩; intro w hSw; (try dsimp only at hSw); first | (go_simp; done) | (go_simp; with_reducible rfl))
        try simp only [Act.put, List.setIfInBounds_toArray, List.set_cons_zero, List.set_cons_succ]
        refine wpAnyH_take (i := 29) (oi := ?r2_o29) (v := ?r2_v29) ?r2_ho29 (by kernel_rfl) (by kernel_rfl) (by kernel_rfl) ?r2_hq29 ?r2_hy29 (by assumption) ?_
        case r2_ho29 => (conv => lhs; whnf; arg 1; whnf)
        case r2_hq29 => exact fun _ _ _ h => h
        case r2_hy29 => (refine Or.inl ⟨by rfl, ?_⟩; intro w hSw; (try dsimp only at hSw); first | (go_simp; done) | (go_simp; with_reducible rfl))
        try simp only [Act.put, List.setIfInBounds_toArray, List.set_cons_zero, List.set_cons_succ]
        refine wpAnyH_done (by kernel_rfl) ?_ _
        go_wp2
        go_roundw
        case rel => exact ⟨j + 1, by omega, by go_num, HB.out.trans hxb, (take_eq_step HXK.out HYK.out).2 ⟨HT.out, HEQ.out⟩⟩
        case measure => simp [intOf]; omega
end Go.Proofs.Ytkoegcalfibinaa
