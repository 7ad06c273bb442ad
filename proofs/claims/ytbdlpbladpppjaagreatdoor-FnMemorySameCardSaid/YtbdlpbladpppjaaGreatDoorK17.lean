/- Joined: Ub, Uc, Ud. -/
import Derived.Deep.RegionHeld3
import Derived.Test.YtbdlpbladpppjaaGreatDoorK16
import Derived.Test.YtbdlpbladpppjaaGreatDoorK9
import Derived.Test.YtbdlpbladpppjaaGreatDoorK10
import Derived.Test.YtbdlpbladpppjaaGreatDoorK6
namespace Go.Proofs.YtbdlpbladpppjaaGreatDoor
open Go.ChangeShapes Go.WideShapes Go.ChangeAt Go.RowKit
open Rec (sz cs)
set_option linter.unusedVariables false
set_option maxRecDepth 100000

def newMem (m : MachD) : MemD := ⟨m, List.replicate m.table.frames.length false, 0⟩
def clearMem (m : MemD) : MemD := ⟨m.mach, List.replicate m.marks.length false, m.hand⟩
/-- That memory comes back, and the word that it could be made. -/
def MemYes (q : MemD) (w : World) (e : Ending) (w' : World) : Prop := ∃ (a : MA) (K : Option Addr) (kc : Nat), e = .returned (.tuple #[.agg #[.slice a.b q.mach.table.buckets.length a.bc, .slice a.f q.mach.table.frames.length a.fc, .slice a.l q.mach.cache.lines.length a.lc, .int .i64 q.mach.cache.hand, .int .i64 q.mach.tags.count, .int .i64 q.mach.tags.next, .int .i64 q.mach.tags.round, .slice a.o q.mach.tags.owns.length a.oc, .int .i64 q.mach.space, .slice K q.marks.length kc, .int .i64 q.hand], .bool true]) ∧ FrE w' w.heap.size q a K kc ∧ Ex w w'
theorem MemOk.fewE {m : MemD} (h : MemOk m) : FewE m := ⟨h.1.fewM, by have := h.1.few; rw [h.2.1]; omega⟩
theorem MemOk.lens {m : MemD} (h : MemOk m) : m.marks.length ≤ 16 ∧ 1 ≤ m.marks.length := by have := h.1.few; rw [h.2.1]; omega
theorem MemOk.clear {m : MemD} (h : MemOk m) : MemOk (clearMem m) := by
 have hl : LessMarks (List.replicate m.marks.length false) m.marks := ⟨by simp, fun i hi => by
  simp only [List.getElem?_replicate] at hi
  split at hi
  ·injection hi with hi; cases hi
  ·cases hi⟩
 exact h.less hl (by have := h.2.2.1; simp; omega)
theorem Bk.replicate (w : World) (n : Nat) {g : Nat} (hg : g = w.heap.size) : Bk 4 (w.alloc (.cells (flat (List.replicate n false)).toArray 4)) g (List.replicate n false) [] := by
 subst hg
 exact Bk.new w 4 (List.replicate n false)
theorem Fr.made {w : World} {g n B : Nat} (h : Bk 4 w g (List.replicate n false) []) (hB : B ≤ g) (hn : n ≤ maxLen) : Fr 4 w B (some ⟨g, 0, none⟩) n (List.replicate n false) :=
 Fr.close h hB (by simp) (by simp) hn

set_option maxHeartbeats 8000000 in
theorem newMemS_c (m : MachD) (a : MA) (w : World) (h : MachOk m) (hx : HasM w m a) (hc : CapM m a) (hk : CapX a) :
  Calls Tryz.prog 31 #[.agg #[.slice a.b m.table.buckets.length a.bc, .slice a.f m.table.frames.length a.fc, .slice a.l m.cache.lines.length a.lc, .int .i64 m.cache.hand, .int .i64 m.tags.count, .int .i64 m.tags.next, .int .i64 m.tags.round, .slice a.o m.tags.owns.length a.oc, .int .i64 m.space]] w (MemYes (newMem m) w) := by
 have hf := h.fewM
 obtain ⟨A, c, B, d, L, e, O, g⟩ := a
 have HXM : Hid (HasM w m ⟨A, c, B, d, L, e, O, g⟩) := zq hx
 have CV := zq (fun w' (e1 : Ex w w') => machS_c m ⟨A, c, B, d, L, e, O, g⟩ w' (hx.ex e1) hf hc)
 rw [machV_yes h] at CV
 have C1 := zq (fun w' (e1 : Ex w w') => l6Copy_c m ⟨A, c, B, d, L, e, O, g⟩ w' (hx.ex e1) hf hc hk)
 have hkl := hf.f
 have hmk := fun n (hn : n ≤ 1048576) => make_rec (P := Tryz.prog) (α := Bool) 35 4 1 false _ Tryz.underlying35 infoMBool rfl n (by omega) (by omega)
 have hmk := hmk _ hkl
 have hnm : m.table.frames.length ≤ maxLen := by simp [maxLen]; omega
 clear hx hf hc hk h
 unfold MemYes newMem
 dsimp only at C1 CV ⊢
 simp only [List.length_replicate]
 obtain ⟨n, en⟩ : ∃ n, n = m.table.frames.length := ⟨_, rfl⟩
 obtain ⟨nb, enb⟩ : ∃ n, n = m.table.buckets.length := ⟨_, rfl⟩
 obtain ⟨nl, enl⟩ : ∃ n, n = m.cache.lines.length := ⟨_, rfl⟩
 obtain ⟨no, eno⟩ : ∃ n, n = m.tags.owns.length := ⟨_, rfl⟩
 rw [← en, ← enb, ← enl, ← eno] at C1 CV
 rw [← en] at hmk hkl hnm
 rw [← en, ← enb, ← enl, ← eno]
 clear en enb enl eno
 have HMK := zq hmk
 go_enter Tryz.func31, Tryz.ntmps31
 go_wp2_with fail
 refine name_calls ?_; intro v1 hv1
 have X1 : Hid (Chg (0) (0) w v1) := zx hv1
 have t1 := X1.out.size
 have Ev1 := zq ((Ex.refl w).chg X1.out (by omega))
 have KX : Hid (Blk v1 (w.heap.size) 34 [.slice A nb c, .slice B n d, .slice L nl e, .int .i64 m.cache.hand, .int .i64 m.tags.count, .int .i64 m.tags.next, .int .i64 m.tags.round, .slice O no g, .int .i64 m.space]) := zk hv1
 have lX : w.heap.size < v1.heap.size := KX.out.lt
 have KR : Hid (Blk v1 (w.heap.size + 1) 37 [.slice none 0 0, .slice none 0 0, .slice none 0 0, .int .i64 0, .int .i64 0, .int .i64 0, .int .i64 0, .slice none 0 0, .int .i64 0, .slice none 0 0, .int .i64 0]) := zk hv1
 have lR : w.heap.size + 1 < v1.heap.size := KR.out.lt
 clear hv1
 refine (CV.out _ Ev1.out).mono ?_; rintro r w1 ⟨rfl, hb1⟩
 have Y1 := zq (Chg.of_ex hb1)
 have s1 := Y1.out.size
 have Ew1 := zq (Ev1.out.chg Y1.out (by omega))
 clear hb1
 replace KX := zq (KX.out.chg Y1.out (by omega))
 replace KR := zq (KR.out.chg Y1.out (by omega))
 obtain ⟨qX0, qX1, qX2, qX3, qX4, qX5, qX6, qX7, qX8⟩ := KX.out.c9
 have jX := KX.out.lt
 obtain ⟨qR0, qR1, qR2, qR3, qR4, qR5, qR6, qR7, qR8, qR9, qR10⟩ := KR.out.c11
 have jR := KR.out.lt
 have E1 := zq Ew1.out
 have FK : Hid (∀ w', Ex w1 w' → (w'.cell? ⟨w.heap.size, 0, none⟩ = some (.slice A nb c) ∧ w'.cell? ⟨w.heap.size, 1, none⟩ = some (.slice B n d) ∧ w'.cell? ⟨w.heap.size, 2, none⟩ = some (.slice L nl e) ∧ w'.cell? ⟨w.heap.size, 3, none⟩ = some (.int .i64 m.cache.hand) ∧ w'.cell? ⟨w.heap.size, 4, none⟩ = some (.int .i64 m.tags.count) ∧ w'.cell? ⟨w.heap.size, 5, none⟩ = some (.int .i64 m.tags.next) ∧ w'.cell? ⟨w.heap.size, 6, none⟩ = some (.int .i64 m.tags.round) ∧ w'.cell? ⟨w.heap.size, 7, none⟩ = some (.slice O no g) ∧ w'.cell? ⟨w.heap.size, 8, none⟩ = some (.int .i64 m.space))) := zq (fun w' h => (KX.out.ex h).c9)
 have FR : Hid (∀ w', Ex w1 w' → Blk w' (w.heap.size + 1) 37 [.slice none 0 0, .slice none 0 0, .slice none 0 0, .int .i64 0, .int .i64 0, .int .i64 0, .int .i64 0, .slice none 0 0, .int .i64 0, .slice none 0 0, .int .i64 0]) := zq (fun w' h => KR.out.ex h)
 have hw1 := Ew1.out.size
 have hwr : w.heap.size + 1 < w1.heap.size := KR.out.lt
 have hgl : w.heap.size ≤ w.heap.size + 1 := Nat.le_succ _
 have CE : Hid (∀ (args : Array Value) (w : World), (callFunc 61 args).run Tryz.prog w = .ok (.enter 61 args) w) := zq (enters Tryz.func61 (by kernel_rfl) (by kernel_rfl))
 clear qX0 qX1 qX2 qX3 qX4 qX5 qX6 qX7 qX8 jX
 clear KX
 clear qR0 qR1 qR2 qR3 qR4 qR5 qR6 qR7 qR8 qR9 qR10 jR
 clear KR
 go_wp2_with fail
 refine wp_region_held_drew (S := (fun w' => (w'.cell? ⟨w.heap.size, 0, none⟩ = some (.slice A nb c) ∧ w'.cell? ⟨w.heap.size, 1, none⟩ = some (.slice B n d) ∧ w'.cell? ⟨w.heap.size, 2, none⟩ = some (.slice L nl e) ∧ w'.cell? ⟨w.heap.size, 3, none⟩ = some (.int .i64 m.cache.hand) ∧ w'.cell? ⟨w.heap.size, 4, none⟩ = some (.int .i64 m.tags.count) ∧ w'.cell? ⟨w.heap.size, 5, none⟩ = some (.int .i64 m.tags.next) ∧ w'.cell? ⟨w.heap.size, 6, none⟩ = some (.int .i64 m.tags.round) ∧ w'.cell? ⟨w.heap.size, 7, none⟩ = some (.slice O no g) ∧ w'.cell? ⟨w.heap.size, 8, none⟩ = some (.int .i64 m.space)))) (by kernel_rfl) ?r1_hS0 (fun hHeld => ?_)
 case r1_hS0 => exact FK.out _ (Ex.refl _).drew
 refine tk 0 ?_; refine tk 2 ?_; refine tk 3 ?_; refine tk 4 ?_; refine tk 5 ?_
 refine wpAnyH_ready (rs := [1, 6]) (by kernel_rfl) (by simp) ?_
 refine AllReadyH.cons (o := ?r1_o0) ?r1_ho0 (fun K hK => ?r1_b0) (AllReadyH.cons (o := ?r1_o1) ?r1_ho1 (fun K hK => ?r1_b1) AllReadyH.nil)
 case r1_ho0 => (conv => lhs; whnf; arg 1; whnf)
 case r1_ho1 => (conv => lhs; whnf; arg 1; whnf)
 case r1_b0 =>
  refine step_call_gu rfl CE.out _ _ rfl #[.agg #[.slice A nb c, .slice B n d, .slice L nl e, .int .i64 m.cache.hand, .int .i64 m.tags.count, .int .i64 m.tags.next, .int .i64 m.tags.round, .slice O no g, .int .i64 m.space]] rfl (C1.out _ (E1.out.trans (by with_reducible repeat' (first | exact Ex.refl _ | exact hba | refine Ex.alloc ?_ _ | refine Ex.drew ?_)))) ?_; rintro r w2 ⟨⟨A1, c1, B1, d1, L1, e1, O1, g1⟩, rfl, hfm, hb1⟩; refine ⟨_, rfl, ?_⟩; have hba : Ex w1 w2 := Ex.trans (by with_reducible repeat' (first | exact Ex.refl _ | exact hba | refine Ex.alloc ?_ _ | refine Ex.drew ?_)) hb1
  refine hK.out _ _ ?r1_hS0 (fun hHeld0 => ?_)
  case r1_hS0 => exact FK.out _ hba
  clear hK K hHeld
  try simp only [Act.put, List.setIfInBounds_toArray, List.set_cons_zero, List.set_cons_succ]
  refine wpAnyH_ready (rs := [6]) (by kernel_rfl) (by simp) ?_
  refine AllReadyH.cons (o := ?r1_o2) ?r1_ho2 (fun K hK => ?r1_b2) AllReadyH.nil
  case r1_ho2 => (conv => lhs; whnf; arg 1; whnf)
  case' r1_b2 => skip
  go_simp
  refine hK.out _ _ ?r1_hS2 (fun hHeld2 => ?_)
  case r1_hS2 => exact FK.out _ (by with_reducible repeat' (first | exact Ex.refl _ | exact hba | refine Ex.alloc ?_ _ | refine Ex.drew ?_))
  clear hK K hHeld0
  try simp only [Act.put, List.setIfInBounds_toArray, List.set_cons_zero, List.set_cons_succ]
  refine tk 7 ?_
  refine wpAnyH_ready (rs := [8]) (by kernel_rfl) (by simp) ?_
  refine AllReadyH.cons (o := ?r1_o3) ?r1_ho3 (fun K hK => ?r1_b3) AllReadyH.nil
  case r1_ho3 => (conv => lhs; whnf; arg 1; whnf)
  case' r1_b3 => skip
  have hr := FR.out _ (Ex.alloc hba (.cells (flat (List.replicate n false)).toArray 4)); obtain ⟨hr0, hr1, hr2, hr3, hr4, hr5, hr6, hr7, hr8, hr9, hr10⟩ := hr.c11; have hrf := hr.frozen; have hrl := hr.lt; clear hr; go_simp
  refine hK.out _ _ ?r1_hS3 (fun hHeld3 => ?_)
  case r1_hS3 => exact by go_keep
  clear hK K hHeld2
  try simp only [Act.put, List.setIfInBounds_toArray, List.set_cons_zero, List.set_cons_succ]
  refine tk 9 ?_
  refine wpAnyH_done (by kernel_rfl) ?_ _
  clear hHeld3 hmk
  obtain ⟨wz, hwz⟩ : ∃ wz : World, wz = (w2.alloc (.cells (flat (List.replicate n false)).toArray 4)) := ⟨_, rfl⟩
  have hec : Ex w2 wz := by rw [hwz]; exact (Ex.refl _).alloc _
  obtain ⟨gK, hgK⟩ : ∃ g : Nat, g = w2.heap.size := ⟨_, rfl⟩
  have HKB : Hid (Bk 4 wz gK (List.replicate n false) []) := zq (by rw [hwz, hgK]; exact Bk.replicate _ _ rfl)
  have hgw : w1.heap.size ≤ gK := by have := hba.size; omega
  rw [← hwz, ← hgK]
  have HFA : Hid (Fr 3 wz w1.heap.size A1 c1 m.table.buckets) := zq ((hfm.b.ex hec).mono (by simp))
  have HFB : Hid (Fr 45 wz w1.heap.size B1 d1 m.table.frames) := zq ((hfm.f.ex hec).mono (by simp))
  have HFC : Hid (Fr 64 wz w1.heap.size L1 e1 m.cache.lines) := zq ((hfm.l.ex hec).mono (by simp))
  have HFD : Hid (Fr 93 wz w1.heap.size O1 g1 m.tags.owns) := zq ((hfm.o.ex hec).mono (by simp))
  have HFE : Hid (Fr 4 wz w1.heap.size (some ⟨gK, 0, none⟩) n (List.replicate n false)) := zq (Fr.made HKB.out hgw hnm)
  have HBB := zq (hba.trans hec)
  clear hfm hb1 hr0 hr1 hr2 hr3 hr4 hr5 hr6 hr7 hr8 hr9 hr10 hrf hrl
  clear hwz
  have hr := Blk.put11 (b0 := .slice A1 nb c1) (b1 := .slice B1 n d1) (b2 := .slice L1 nl e1) (b3 := .int .i64 m.cache.hand) (b4 := .int .i64 m.tags.count) (b5 := .int .i64 m.tags.next) (b6 := .int .i64 m.tags.round) (b7 := .slice O1 no g1) (b8 := .int .i64 m.space) (b9 := .slice (some ⟨gK, 0, none⟩) n n) (b10 := .int .i64 0) (FR.out _ HBB.out)
  obtain ⟨hr0, hr1, hr2, hr3, hr4, hr5, hr6, hr7, hr8, hr9, hr10⟩ := hr.c11
  have hl := hr.lt
  clear hr hba hec hgK
  go_wp2
  exact bodyPost_ret (v := .tuple #[.agg #[.slice A1 nb c1, .slice B1 n d1, .slice L1 nl e1, .int .i64 m.cache.hand, .int .i64 m.tags.count, .int .i64 m.tags.next, .int .i64 m.tags.round, .slice O1 no g1, .int .i64 m.space, .slice (some ⟨gK, 0, none⟩) n n, .int .i64 0], .bool true]) (by simp [results, Tryz.results31, go_sem, *]) rfl
   ⟨⟨A1, c1, B1, d1, L1, e1, O1, g1⟩, some ⟨gK, 0, none⟩, n, rfl, FrE.mono (B := w1.heap.size) ⟨⟨by repeat' (first | with_reducible exact HFA.out | with_reducible refine Fr.set_below ?_ hwr _), by repeat' (first | with_reducible exact HFB.out | with_reducible refine Fr.set_below ?_ hwr _), by repeat' (first | with_reducible exact HFC.out | with_reducible refine Fr.set_below ?_ hwr _), by repeat' (first | with_reducible exact HFD.out | with_reducible refine Fr.set_below ?_ hwr _)⟩, by repeat' (first | with_reducible exact HFE.out | with_reducible refine Fr.set_below ?_ hwr _)⟩ hw1, by repeat' (first | with_reducible exact E1.out.trans HBB.out | with_reducible refine Ex.set ?_ hgl _)⟩
 case r1_b1 =>
  go_simp
  refine hK.out _ _ ?r1_hS1 (fun hHeld1 => ?_)
  case r1_hS1 => exact FK.out _ (by with_reducible repeat' (first | exact Ex.refl _ | exact hba | refine Ex.alloc ?_ _ | refine Ex.drew ?_))
  clear hK K hHeld
  try simp only [Act.put, List.setIfInBounds_toArray, List.set_cons_zero, List.set_cons_succ]
  refine wpAnyH_ready (rs := [1]) (by kernel_rfl) (by simp) ?_
  refine AllReadyH.cons (o := ?r1_o4) ?r1_ho4 (fun K hK => ?r1_b4) AllReadyH.nil
  case r1_ho4 => (conv => lhs; whnf; arg 1; whnf)
  case' r1_b4 => skip
  refine step_call_gu rfl CE.out _ _ rfl #[.agg #[.slice A nb c, .slice B n d, .slice L nl e, .int .i64 m.cache.hand, .int .i64 m.tags.count, .int .i64 m.tags.next, .int .i64 m.tags.round, .slice O no g, .int .i64 m.space]] rfl (C1.out _ (E1.out.trans (by with_reducible repeat' (first | exact Ex.refl _ | exact hba | refine Ex.alloc ?_ _ | refine Ex.drew ?_)))) ?_; rintro r w2 ⟨⟨A1, c1, B1, d1, L1, e1, O1, g1⟩, rfl, hfm, hb1⟩; refine ⟨_, rfl, ?_⟩; have hba : Ex w1 w2 := Ex.trans (by with_reducible repeat' (first | exact Ex.refl _ | exact hba | refine Ex.alloc ?_ _ | refine Ex.drew ?_)) hb1
  refine hK.out _ _ ?r1_hS4 (fun hHeld4 => ?_)
  case r1_hS4 => exact FK.out _ hba
  clear hK K hHeld1
  try simp only [Act.put, List.setIfInBounds_toArray, List.set_cons_zero, List.set_cons_succ]
  refine tk 7 ?_
  refine wpAnyH_ready (rs := [8]) (by kernel_rfl) (by simp) ?_
  refine AllReadyH.cons (o := ?r1_o5) ?r1_ho5 (fun K hK => ?r1_b5) AllReadyH.nil
  case r1_ho5 => (conv => lhs; whnf; arg 1; whnf)
  case' r1_b5 => skip
  have hr := FR.out _ hba; obtain ⟨hr0, hr1, hr2, hr3, hr4, hr5, hr6, hr7, hr8, hr9, hr10⟩ := hr.c11; have hrf := hr.frozen; have hrl := hr.lt; clear hr; go_simp
  refine hK.out _ _ ?r1_hS5 (fun hHeld5 => ?_)
  case r1_hS5 => exact by go_keep
  clear hK K hHeld4
  try simp only [Act.put, List.setIfInBounds_toArray, List.set_cons_zero, List.set_cons_succ]
  refine tk 9 ?_
  refine wpAnyH_done (by kernel_rfl) ?_ _
  clear hHeld5 hmk
  obtain ⟨wz, hwz⟩ : ∃ wz : World, wz = w2 := ⟨_, rfl⟩
  have hec : Ex w2 wz := by rw [hwz]; exact Ex.refl _
  obtain ⟨gK, hgK⟩ : ∃ g : Nat, g = w1.heap.size := ⟨_, rfl⟩
  have HKB : Hid (Bk 4 wz gK (List.replicate n false) []) := zq (by rw [hwz, hgK]; exact (Bk.replicate _ _ rfl).drew.ex hb1)
  have hgw : w1.heap.size ≤ gK := by have := hba.size; omega
  rw [← hgK]
  have HFA : Hid (Fr 3 wz w1.heap.size A1 c1 m.table.buckets) := zq ((hfm.b.ex hec).mono (by simp))
  have HFB : Hid (Fr 45 wz w1.heap.size B1 d1 m.table.frames) := zq ((hfm.f.ex hec).mono (by simp))
  have HFC : Hid (Fr 64 wz w1.heap.size L1 e1 m.cache.lines) := zq ((hfm.l.ex hec).mono (by simp))
  have HFD : Hid (Fr 93 wz w1.heap.size O1 g1 m.tags.owns) := zq ((hfm.o.ex hec).mono (by simp))
  have HFE : Hid (Fr 4 wz w1.heap.size (some ⟨gK, 0, none⟩) n (List.replicate n false)) := zq (Fr.made HKB.out hgw hnm)
  have HBB := zq (hba.trans hec)
  clear hfm hb1 hr0 hr1 hr2 hr3 hr4 hr5 hr6 hr7 hr8 hr9 hr10 hrf hrl
  subst hwz
  have hr := Blk.put11 (b0 := .slice A1 nb c1) (b1 := .slice B1 n d1) (b2 := .slice L1 nl e1) (b3 := .int .i64 m.cache.hand) (b4 := .int .i64 m.tags.count) (b5 := .int .i64 m.tags.next) (b6 := .int .i64 m.tags.round) (b7 := .slice O1 no g1) (b8 := .int .i64 m.space) (b9 := .slice (some ⟨gK, 0, none⟩) n n) (b10 := .int .i64 0) (FR.out _ HBB.out)
  obtain ⟨hr0, hr1, hr2, hr3, hr4, hr5, hr6, hr7, hr8, hr9, hr10⟩ := hr.c11
  have hl := hr.lt
  clear hr hba hec hgK
  go_wp2
  exact bodyPost_ret (v := .tuple #[.agg #[.slice A1 nb c1, .slice B1 n d1, .slice L1 nl e1, .int .i64 m.cache.hand, .int .i64 m.tags.count, .int .i64 m.tags.next, .int .i64 m.tags.round, .slice O1 no g1, .int .i64 m.space, .slice (some ⟨gK, 0, none⟩) n n, .int .i64 0], .bool true]) (by simp [results, Tryz.results31, go_sem, *]) rfl
   ⟨⟨A1, c1, B1, d1, L1, e1, O1, g1⟩, some ⟨gK, 0, none⟩, n, rfl, FrE.mono (B := w1.heap.size) ⟨⟨by repeat' (first | with_reducible exact HFA.out | with_reducible refine Fr.set_below ?_ hwr _), by repeat' (first | with_reducible exact HFB.out | with_reducible refine Fr.set_below ?_ hwr _), by repeat' (first | with_reducible exact HFC.out | with_reducible refine Fr.set_below ?_ hwr _), by repeat' (first | with_reducible exact HFD.out | with_reducible refine Fr.set_below ?_ hwr _)⟩, by repeat' (first | with_reducible exact HFE.out | with_reducible refine Fr.set_below ?_ hwr _)⟩ hw1, by repeat' (first | with_reducible exact E1.out.trans HBB.out | with_reducible refine Ex.set ?_ hgl _)⟩

set_option maxHeartbeats 8000000 in
theorem clearS_c (x : MemD) (a : MA) (KK : Option Addr) (kc : Nat) (w : World) (h : MemOk x) (hx : HasE w x a KK) (hc : CapE x a kc) (hk : CapX a) (hkk : kc ≤ maxLen) :
  Calls Tryz.prog 36 #[.agg #[.slice a.b x.mach.table.buckets.length a.bc, .slice a.f x.mach.table.frames.length a.fc, .slice a.l x.mach.cache.lines.length a.lc, .int .i64 x.mach.cache.hand, .int .i64 x.mach.tags.count, .int .i64 x.mach.tags.next, .int .i64 x.mach.tags.round, .slice a.o x.mach.tags.owns.length a.oc, .int .i64 x.mach.space, .slice KK x.marks.length kc, .int .i64 x.hand]] w (MemYes (clearMem x) w) := by
 have hf := h.fewE
 have CV := zq (fun w' (e1 : Ex w w') => memS_c x a KK kc w' (hx.ex e1) hf hc)
 rw [memV_iff.2 h] at CV
 have C1 := zq (fun w' (e1 : Ex w w') => l7Copy_c x a KK kc w' (hx.ex e1) hf hc hk hkk)
 have hkl := hf.k
 have hmk := make_rec (P := Tryz.prog) (α := Bool) 35 4 1 false _ Tryz.underlying35 infoMBool rfl x.marks.length (by omega) (by omega)
 have hnm : x.marks.length ≤ maxLen := by simp [maxLen]; omega
 obtain ⟨A, c, B, d, L, e, O, g⟩ := a
 clear hx hf hc hk h hkk
 unfold MemIs at C1
 unfold MemYes clearMem
 dsimp only at C1 CV ⊢
 simp only [List.length_replicate]
 obtain ⟨n, en⟩ : ∃ n, n = x.mach.table.frames.length := ⟨_, rfl⟩
 obtain ⟨nb, enb⟩ : ∃ n, n = x.mach.table.buckets.length := ⟨_, rfl⟩
 obtain ⟨nl, enl⟩ : ∃ n, n = x.mach.cache.lines.length := ⟨_, rfl⟩
 obtain ⟨no, eno⟩ : ∃ n, n = x.mach.tags.owns.length := ⟨_, rfl⟩
 obtain ⟨nm, enm⟩ : ∃ n, n = x.marks.length := ⟨_, rfl⟩
 rw [← en, ← enb, ← enl, ← eno, ← enm] at C1 CV
 rw [← enm] at hmk hkl hnm
 rw [← en, ← enb, ← enl, ← eno, ← enm]
 clear en enb enl eno enm
 go_enter Tryz.func36, Tryz.ntmps36
 go_wp2_with fail
 refine name_calls ?_; intro v1 hv1
 have X1 : Hid (Chg (0) (0) w v1) := zx hv1
 have t1 := X1.out.size
 have Ev1 := zq ((Ex.refl w).chg X1.out (by omega))
 have KX : Hid (Blk v1 (w.heap.size) 37 [.slice A nb c, .slice B n d, .slice L nl e, .int .i64 x.mach.cache.hand, .int .i64 x.mach.tags.count, .int .i64 x.mach.tags.next, .int .i64 x.mach.tags.round, .slice O no g, .int .i64 x.mach.space, .slice KK nm kc, .int .i64 x.hand]) := zk hv1
 have lX : w.heap.size < v1.heap.size := KX.out.lt
 have KR : Hid (Blk v1 (w.heap.size + 1) 37 [.slice none 0 0, .slice none 0 0, .slice none 0 0, .int .i64 0, .int .i64 0, .int .i64 0, .int .i64 0, .slice none 0 0, .int .i64 0, .slice none 0 0, .int .i64 0]) := zk hv1
 have lR : w.heap.size + 1 < v1.heap.size := KR.out.lt
 clear hv1
 refine (CV.out _ Ev1.out).mono ?_; rintro r w1 ⟨rfl, hb1⟩
 have Y1 := zq (Chg.of_ex hb1)
 have s1 := Y1.out.size
 have Ew1 := zq (Ev1.out.chg Y1.out (by omega))
 clear hb1
 replace KX := zq (KX.out.chg Y1.out (by omega))
 replace KR := zq (KR.out.chg Y1.out (by omega))
 obtain ⟨qX0, qX1, qX2, qX3, qX4, qX5, qX6, qX7, qX8, qX9, qX10⟩ := KX.out.c11
 have jX := KX.out.lt
 obtain ⟨qR0, qR1, qR2, qR3, qR4, qR5, qR6, qR7, qR8, qR9, qR10⟩ := KR.out.c11
 have jR := KR.out.lt
 have zR := KR.out.frozen
 go_wp2_with fail
 refine name_calls ?_; intro v2 hv2
 have X2 : Hid (Chg (0) (0) w1 v2) := zx hv2
 have t2 := X2.out.size
 have Ev2 := zq (Ew1.out.chg X2.out (by omega))
 clear qX0 qX1 qX2 qX3 qX4 qX5 qX6 qX7 qX8 qX9 qX10 jX
 clear qR0 qR1 qR2 qR3 qR4 qR5 qR6 qR7 qR8 qR9 qR10 jR zR
 replace KX := zq (KX.out.chg X2.out (by omega))
 replace KR := zq (KR.out.chg X2.out (by omega))
 clear hv2
 refine (C1.out _ Ev2.out).mono ?_; rintro r w2 ⟨⟨A2, c2, B2, d2, L2, e2, O2, g2⟩, K2, k2, rfl, ⟨⟨hfa, hfb, hfc, hfd⟩, hfe⟩, hb2⟩
 have Y2 := zq (Chg.of_ex hb2)
 have s2 := Y2.out.size
 have Ew2 := zq (Ev2.out.chg Y2.out (by omega))
 clear hb2
 replace KX := zq (KX.out.chg Y2.out (by omega))
 replace KR := zq (KR.out.chg Y2.out (by omega))
 have HFA := zq hfa; clear hfa
 have WHFA := zq HFA.out.row
 have HFB := zq hfb; clear hfb
 have WHFB := zq HFB.out.row
 have HFC := zq hfc; clear hfc
 have WHFC := zq HFC.out.row
 have HFD := zq hfd; clear hfd
 have WHFD := zq HFD.out.row
 have HFE := zq hfe; clear hfe
 have WHFE := zq HFE.out.row
 obtain ⟨qX0, qX1, qX2, qX3, qX4, qX5, qX6, qX7, qX8, qX9, qX10⟩ := KX.out.c11
 have jX := KX.out.lt
 obtain ⟨qR0, qR1, qR2, qR3, qR4, qR5, qR6, qR7, qR8, qR9, qR10⟩ := KR.out.c11
 have jR := KR.out.lt
 have zR := KR.out.frozen
 have hne1 : ¬ w2.heap.size = w.heap.size + 1 := by omega
 have hne2 : ¬ w.heap.size + 1 = w2.heap.size := by omega
 have hne3 : ¬ w2.heap.size + 1 = w.heap.size + 1 := by omega
 have hne4 : ¬ w2.heap.size = w.heap.size := by omega
 have hne5 : ¬ w2.heap.size + 1 = w.heap.size := by omega
 go_wp2
 exact bodyPost_ret (v := .tuple #[.agg #[.slice A2 nb c2, .slice B2 n d2, .slice L2 nl e2, .int .i64 x.mach.cache.hand, .int .i64 x.mach.tags.count, .int .i64 x.mach.tags.next, .int .i64 x.mach.tags.round, .slice O2 no g2, .int .i64 x.mach.space, .slice (some ⟨w2.heap.size + 1, 0, none⟩) nm nm, .int .i64 x.hand], .bool true]) (by simp [results, Tryz.results36, go_sem, *]) rfl
  ⟨⟨A2, c2, B2, d2, L2, e2, O2, g2⟩, some ⟨w2.heap.size + 1, 0, none⟩, nm, rfl, ⟨⟨(Fr.mono (zp HFA.out WHFA.out) (by omega)), (Fr.mono (zp HFB.out WHFB.out) (by omega)), (Fr.mono (zp HFC.out WHFC.out) (by omega)), (Fr.mono (zp HFD.out WHFD.out) (by omega))⟩, Fr.made (by repeat' (first | with_reducible refine Bk.far ?_ (by first | (simp; done) | (simp; omega)) _ | exact Bk.replicate _ _ (by simp))) (by omega) hnm⟩, (ze Ew2.out)⟩

def SomeB (w : World) (e : Ending) (w' : World) : Prop := ∃ b : Bool, e = .returned (.bool b) ∧ Ex w w'
set_option maxHeartbeats 4000000 in
theorem wiredS_c (m : MachD) (a : MA) (i : Nat) (w : World) (hx : HasM w m a) (hf : FewM m) :
  Calls Tryz.prog 117 #[.agg #[.slice a.b m.table.buckets.length a.bc, .slice a.f m.table.frames.length a.fc, .slice a.l m.cache.lines.length a.lc, .int .i64 m.cache.hand, .int .i64 m.tags.count, .int .i64 m.tags.next, .int .i64 m.tags.round, .slice a.o m.tags.owns.length a.oc, .int .i64 m.space], .int .i64 i] w (SomeB w) := by
 obtain ⟨A, c, B, d, L, e, O, g⟩ := a
 have HX : Hid (Rd w L m.cache.lines) := zq hx.l
 have hfl := hf.l
 clear hx hf
 dsimp only
 obtain ⟨nl, enl⟩ : ∃ n, n = m.cache.lines.length := ⟨_, rfl⟩
 have HNL := zq enl
 rw [← enl] at hfl
 rw [← enl]
 generalize m.table.frames.length = n
 generalize m.table.buckets.length = nb
 generalize m.tags.owns.length = no
 clear enl
 go_enter Tryz.func117, Tryz.ntmps117
 go_wp2
 go_loopw [5] (fun q wr => ∃ k : Nat, k ≤ nl ∧ q = .int .i64 k ∧ Ex w wr ∧ Blk wr w.heap.size 34 [.slice A nb c, .slice B n d, .slice L nl e, .int .i64 m.cache.hand, .int .i64 m.tags.count, .int .i64 m.tags.next, .int .i64 m.tags.round, .slice O no g, .int .i64 m.space]) (fun q _ => nl - (intOf q).toNat)
 case atStart => exact ⟨0, Nat.zero_le _, rfl, (Ex.refl _).alloc _, Blk.new _ _ _⟩
 case round =>
  obtain ⟨k, hk, rfl, hex, hkx⟩ := hrel
  have HE := zq hex
  have KX := zq hkx
  clear hex hkx
  obtain ⟨q0, q1, q2, q3, q4, q5, q6, q7, q8⟩ := KX.out.c9
  have jX := KX.out.lt
  by_cases hlt : k < nl
  ·obtain ⟨b3, o3, x, rfl, hb3, hxk, k0, k1, k2, k3, k4, k5⟩ := (HX.out.ex HE.out).line (k := k) (by have := HNL.out; omega)
   have hkn : (k : Int) < (nl : Int) := by omega
   have hk0 : ¬ (k : Int) < 0 := by omega
   clear hxk
   cases hv : x.valid
   ·rw [hv] at k0
    clear hv
    go_wp2
    go_roundw
    case rel => exact ⟨k + 1, by omega, by go_num, HE.out.alloc _, KX.out.alloc _⟩
    case measure => simp [intOf]; omega
   cases hwd : x.wired
   ·rw [hv] at k0
    rw [hwd] at k5
    clear hv hwd
    go_wp2
    go_roundw
    case rel => exact ⟨k + 1, by omega, by go_num, HE.out.alloc _, KX.out.alloc _⟩
    case measure => simp [intOf]; omega
   rw [hv] at k0
   rw [hwd] at k5
   clear hv hwd
   by_cases hfr : x.frame = (i : Int)
   ·rw [hfr] at k3
    clear hfr
    go_wp2
    go_ret
    exact ⟨true, rfl, HE.out.alloc _⟩
   ·have hfr2 : (x.frame == (i : Int)) = false := by simpa using hfr
    have hfr3 : decide (x.frame = (i : Int)) = false := by simpa using hfr
    clear hfr
    go_wp2
    go_roundw
    case rel => exact ⟨k + 1, by omega, by go_num, HE.out.alloc _, KX.out.alloc _⟩
    case measure => simp [intOf]; omega
  ·obtain rfl : k = nl := by omega
   go_wp2
   go_ret
   exact ⟨false, rfl, HE.out⟩

/-- What the clock hands back: some marks less, a hand, and -1 or a used frame. -/
def Clocked (x : MemD) (w : World) (e : Ending) (w' : World) : Prop := ∃ (ks : List Bool) (hd : Nat) (at_ : Int) (a : MA) (K : Option Addr) (kc : Nat), e = .returned (.tuple #[.agg #[.slice a.b (⟨x.mach, ks, (hd : Int)⟩ : MemD).mach.table.buckets.length a.bc, .slice a.f (⟨x.mach, ks, (hd : Int)⟩ : MemD).mach.table.frames.length a.fc, .slice a.l (⟨x.mach, ks, (hd : Int)⟩ : MemD).mach.cache.lines.length a.lc, .int .i64 (⟨x.mach, ks, (hd : Int)⟩ : MemD).mach.cache.hand, .int .i64 (⟨x.mach, ks, (hd : Int)⟩ : MemD).mach.tags.count, .int .i64 (⟨x.mach, ks, (hd : Int)⟩ : MemD).mach.tags.next, .int .i64 (⟨x.mach, ks, (hd : Int)⟩ : MemD).mach.tags.round, .slice a.o (⟨x.mach, ks, (hd : Int)⟩ : MemD).mach.tags.owns.length a.oc, .int .i64 (⟨x.mach, ks, (hd : Int)⟩ : MemD).mach.space, .slice K (⟨x.mach, ks, (hd : Int)⟩ : MemD).marks.length kc, .int .i64 (⟨x.mach, ks, (hd : Int)⟩ : MemD).hand], .int .i64 at_]) ∧ LessMarks ks x.marks ∧ hd < ks.length ∧ (at_ = -1 ∨ ∃ (i : Nat) (f : FrameD), at_ = (i : Int) ∧ x.mach.table.frames[i]? = some f ∧ f.used = true) ∧ FrE w' w.heap.size ⟨x.mach, ks, (hd : Int)⟩ a K kc ∧ Ex w w'
theorem LessMarks.len {ks ms : List Bool} (h : LessMarks ks ms) : ks.length = ms.length := h.1
/-- What holds at the head of the clock's loop. -/
def ClockLoop (x : MemD) (w : World) (gO gK k1 nb nm nl no : Nat) (a1 : MA) (rest : List Value) (i : Value) (wr : World) : Prop := ∃ (k : Nat) (ks : List Bool) (hd : Nat), i = .int .i64 k ∧ k ≤ 2 * nm ∧ LessMarks ks x.marks ∧ hd < nm ∧ Blk wr gO 37 [.slice a1.b nb a1.bc, .slice a1.f nm a1.fc, .slice a1.l nl a1.lc, .int .i64 x.mach.cache.hand, .int .i64 x.mach.tags.count, .int .i64 x.mach.tags.next, .int .i64 x.mach.tags.round, .slice a1.o no a1.oc, .int .i64 x.mach.space, .slice (some ⟨gK, 0, none⟩) nm k1, .int .i64 hd] ∧ Bk 4 wr gK ks rest ∧ FrM wr w.heap.size x.mach a1 ∧ Ex w wr ∧ Blk wr (w.heap.size + 1) 37 [.slice none 0 0, .slice none 0 0, .slice none 0 0, .int .i64 0, .int .i64 0, .int .i64 0, .int .i64 0, .slice none 0 0, .int .i64 0, .slice none 0 0, .int .i64 0]

set_option maxHeartbeats 8000000 in
theorem clockS_c (x : MemD) (a : MA) (K : Option Addr) (kc : Nat) (w : World) (h : MemOk x) (hx : HasE w x a K) (hc : CapE x a kc) (hk : CapX a) (hkk : kc ≤ maxLen) :
  Calls Tryz.prog 110 #[.agg #[.slice a.b x.mach.table.buckets.length a.bc, .slice a.f x.mach.table.frames.length a.fc, .slice a.l x.mach.cache.lines.length a.lc, .int .i64 x.mach.cache.hand, .int .i64 x.mach.tags.count, .int .i64 x.mach.tags.next, .int .i64 x.mach.tags.round, .slice a.o x.mach.tags.owns.length a.oc, .int .i64 x.mach.space, .slice K x.marks.length kc, .int .i64 x.hand]] w (Clocked x w) := by
 have C1 := zq (fun w' (e1 : Ex w w') => l7Copy_c x a K kc w' (hx.ex e1) h.fewE hc hk hkk)
 have HX := zq hx
 have hln := h.lens
 have hnf := h.2.1
 have hhd := h.2.2.1
 have hfe := h.1.fewM
 clear hx hc hk hkk h
 unfold Clocked
 obtain ⟨A, c, B, d, L, e, O, g⟩ := a
 unfold MemIs at C1
 dsimp only at C1 ⊢
 obtain ⟨nb, enb⟩ : ∃ n, n = x.mach.table.buckets.length := ⟨_, rfl⟩
 obtain ⟨nl, enl⟩ : ∃ n, n = x.mach.cache.lines.length := ⟨_, rfl⟩
 obtain ⟨no, eno⟩ : ∃ n, n = x.mach.tags.owns.length := ⟨_, rfl⟩
 obtain ⟨nm, enm⟩ : ∃ n, n = x.marks.length := ⟨_, rfl⟩
 have HNM := zq enm
 have HNF : Hid (x.mach.table.frames.length = nm) := zq (by omega)
 have HNB := zq enb
 have HNL := zq enl
 have HNO := zq eno
 rw [← hnf, ← enm, ← enb, ← enl, ← eno] at C1
 rw [← hnf, ← enm, ← enb, ← enl, ← eno]
 rw [← enm] at hln hhd
 clear enb enl eno enm hnf
 obtain ⟨hd0, ehd⟩ := Int.eq_ofNat_of_zero_le hhd.1
 rw [ehd] at C1 hhd
 have HHD := zq ehd
 rw [ehd]
 clear ehd
 go_enter Tryz.func110, Tryz.ntmps110
 go_wp2_with fail
 refine name_calls ?_; intro v1 hv1
 have X1 : Hid (Chg (0) (0) w v1) := zx hv1
 have t1 := X1.out.size
 have Ev1 := zq ((Ex.refl w).chg X1.out (by omega))
 have KX : Hid (Blk v1 (w.heap.size) 37 [.slice A nb c, .slice B nm d, .slice L nl e, .int .i64 x.mach.cache.hand, .int .i64 x.mach.tags.count, .int .i64 x.mach.tags.next, .int .i64 x.mach.tags.round, .slice O no g, .int .i64 x.mach.space, .slice K nm kc, .int .i64 hd0]) := zk hv1
 have lX : w.heap.size < v1.heap.size := KX.out.lt
 have KR : Hid (Blk v1 (w.heap.size + 1) 37 [.slice none 0 0, .slice none 0 0, .slice none 0 0, .int .i64 0, .int .i64 0, .int .i64 0, .int .i64 0, .slice none 0 0, .int .i64 0, .slice none 0 0, .int .i64 0]) := zk hv1
 have lR : w.heap.size + 1 < v1.heap.size := KR.out.lt
 clear hv1
 refine (C1.out _ Ev1.out).mono ?_; rintro r w1 ⟨⟨A1, c1, B1, d1, L1, e1, O1, g1⟩, K1, k1, rfl, hhf1, hb1⟩
 have Y1 := zq (Chg.of_ex hb1)
 have s1 := Y1.out.size
 have Ew1 := zq (Ev1.out.chg Y1.out (by omega))
 clear hb1
 replace KX := zq (KX.out.chg Y1.out (by omega))
 replace KR := zq (KR.out.chg Y1.out (by omega))
 have HHF1 := zq hhf1; clear hhf1
 obtain ⟨qX0, qX1, qX2, qX3, qX4, qX5, qX6, qX7, qX8, qX9, qX10⟩ := KX.out.c11
 have jX := KX.out.lt
 obtain ⟨qR0, qR1, qR2, qR3, qR4, qR5, qR6, qR7, qR8, qR9, qR10⟩ := KR.out.c11
 have jR := KR.out.lt
 have CW := zq (fun (i : Nat) w' (hm : HasM w' x.mach (⟨A1, c1, B1, d1, L1, e1, O1, g1⟩ : MA)) => wiredS_c x.mach (⟨A1, c1, B1, d1, L1, e1, O1, g1⟩ : MA) i w' hm hfe)
 dsimp only at CW
 rw [HNF.out, ← HNB.out, ← HNL.out, ← HNO.out] at CW
 have hf5 := HHF1.out.k
 obtain ⟨gK, rest, rfl, hBg, hbk, hrest⟩ := hf5.open_ (k := 0) (by have := HNM.out; omega)
 have HREST := zq hrest
 have hk1m := hf5.cap
 have hk1l : nm ≤ k1 := by have := hf5.le; have := HNM.out; omega
 have HBK := zq hbk
 have hFM := HHF1.out.m
 have hgK1 := Blk.lt hbk
 have hgKR : w.heap.size + 1 < gK := by omega
 have HST : Hid (ClockLoop x w w1.heap.size gK k1 nb nm nl no (⟨A1, c1, B1, d1, L1, e1, O1, g1⟩ : MA) rest (.int .i64 0) (w1.alloc (.cells #[.slice A1 nb c1, .slice B1 nm d1, .slice L1 nl e1, .int .i64 x.mach.cache.hand, .int .i64 x.mach.tags.count, .int .i64 x.mach.tags.next, .int .i64 x.mach.tags.round, .slice O1 no g1, .int .i64 x.mach.space, .slice (some ⟨gK, 0, none⟩) nm k1, .int .i64 hd0] 37))) := zq ⟨0, x.marks, hd0, rfl, Nat.zero_le _, LessMarks.refl _, by omega, Blk.new _ _ _, HBK.out.alloc _, ⟨(hFM.b.mono (by omega)).alloc _, (hFM.f.mono (by omega)).alloc _, (hFM.l.mono (by omega)).alloc _, (hFM.o.mono (by omega)).alloc _⟩, Ew1.out.alloc _, KR.out.alloc _⟩
 obtain ⟨gO, hgO⟩ : ∃ gO, gO = w1.heap.size := ⟨_, rfl⟩
 have hgOw : w.heap.size + 1 < gO := by omega
 have hgKO : gK < gO := by omega
 clear hrest hbk hf5 hFM HHF1 HBK
 clear qX0 qX1 qX2 qX3 qX4 qX5 qX6 qX7 qX8 qX9 qX10 jX
 clear KX
 clear qR0 qR1 qR2 qR3 qR4 qR5 qR6 qR7 qR8 qR9 qR10 jR
 clear KR
 go_wp2
 rw [← hgO] at HST
 rw [← hgO]
 clear hgO C1
 go_loopw [6] (fun i wr => ClockLoop x w gO gK k1 nb nm nl no (⟨A1, c1, B1, d1, L1, e1, O1, g1⟩ : MA) rest i wr) (fun i _ => 2 * nm - (intOf i).toNat)
 case atStart => exact HST.out
 case round =>
  clear HST
  obtain ⟨k, ks, hd, rfl, hk, hls, hhd1, hko, hbk, hfm, hex, hkr⟩ := hrel
  have HLS := zq hls
  have KO := zq hko
  have HBK := zq hbk
  have HFM := zq hfm
  have HE := zq hex
  have KR := zq hkr
  have hksl : ks.length = nm := by rw [hls.len]; exact HNM.out.symm
  clear hls hko hbk hfm hex hkr
  have HREST2 : Hid ((k1 - ks.length) * sz Bool ≤ rest.length) := zq (by rw [HLS.out.len]; exact HREST.out)
  have hjO := KO.out.lt
  dsimp only at KO
  by_cases hlt : k < 2 * nm
  ·have hlt' : (k : Int) < 2 * (nm : Int) := by omega
   obtain ⟨b2, rs2, rfl, hBb, hbf, hrs2⟩ := HFM.out.f.open_ (k := hd) (by have := HNF.out; omega)
   obtain ⟨f, hfk⟩ : ∃ f, x.mach.table.frames[hd]? = some f := ⟨_, List.getElem?_eq_getElem (by have := HNF.out; omega)⟩
   obtain ⟨d0, d1', d2', d3', d4'⟩ := hbf.frame hfk
   have hd1p : 0 < d1 := by have := HFM.out.f.le; dsimp only at this; have := HNF.out; omega
   have hb2O : ¬ b2 = gO := (HFM.out.f.off KO.out (by decide)) b2 (rowOf_some hd1p)
   have hb2O' : ¬ gO = b2 := fun e => hb2O e.symm
   have hb2l := Blk.lt hbf
   have HFK := zq hfk
   obtain ⟨v, hv⟩ : ∃ v, ks[hd]? = some v := ⟨_, List.getElem?_eq_getElem (by omega)⟩
   have HKV := zq hv
   have HMOD : Hid (((hd : Int) + 1) % (nm : Int) = (((hd + 1) % nm : Nat) : Int)) := zq (by push_cast; rfl)
   have hhd2 : (hd + 1) % nm < nm := Nat.mod_lt _ (by omega)
   have hhdn : (hd : Int) < (nm : Int) := by omega
   have hhd0 : ¬ (hd : Int) < 0 := by omega
   have hnm0 : ¬ ((nm : Int) = 0) := by omega
   have HNb := zq (HFM.out.b.off KO.out (by decide))
   have HNf := zq (HFM.out.f.off KO.out (by decide))
   have HNl := zq (HFM.out.l.off KO.out (by decide))
   have HNo := zq (HFM.out.o.off KO.out (by decide))
   have KOS : Hid (Blk (wr.setCell ⟨gO, 10, none⟩ (.int .i64 (((hd : Int) + 1) % (nm : Int)))) gO 37 [.slice A1 nb c1, .slice (some ⟨b2, 0, none⟩) nm d1, .slice L1 nl e1, .int .i64 x.mach.cache.hand, .int .i64 x.mach.tags.count, .int .i64 x.mach.tags.next, .int .i64 x.mach.tags.round, .slice O1 no g1, .int .i64 x.mach.space, .slice (some ⟨gK, 0, none⟩) nm k1, .int .i64 (((hd + 1) % nm : Nat) : Int)]) := zq (by rw [HMOD.out]; exact KO.out.set 10 _)
   have FMS : Hid (FrM (wr.setCell ⟨gO, 10, none⟩ (.int .i64 (((hd : Int) + 1) % (nm : Int)))) w.heap.size x.mach (⟨A1, c1, some ⟨b2, 0, none⟩, d1, L1, e1, O1, g1⟩ : MA)) := zq ⟨HFM.out.b.put HNb.out _, HFM.out.f.put HNf.out _, HFM.out.l.put HNl.out _, HFM.out.o.put HNo.out _⟩
   have MKS : Hid (Bk 4 (wr.setCell ⟨gO, 10, none⟩ (.int .i64 (((hd : Int) + 1) % (nm : Int)))) gK ks rest) := zq (HBK.out.far (Nat.ne_of_lt hgKO) _)
   have ES : Hid (Ex w (wr.setCell ⟨gO, 10, none⟩ (.int .i64 (((hd : Int) + 1) % (nm : Int))))) := zq (HE.out.put (by omega) _)
   have KRS : Hid (Blk (wr.setCell ⟨gO, 10, none⟩ (.int .i64 (((hd : Int) + 1) % (nm : Int)))) (w.heap.size + 1) 37 [.slice none 0 0, .slice none 0 0, .slice none 0 0, .int .i64 0, .int .i64 0, .int .i64 0, .int .i64 0, .slice none 0 0, .int .i64 0, .slice none 0 0, .int .i64 0]) := zq (KR.out.far (by simp; omega) _)
   obtain ⟨o0, o1, o2, o3, o4, o5, o6, o7, o8, o9, o10⟩ := KO.out.c11
   have oz := KO.out.frozen
   clear hbf hrs2 hfk hv d1' d2' d3' d4' hBb
   cases hu : f.used
   ·rw [hu] at d0
    clear hu
    go_wp2
    go_roundw
    case rel => exact ⟨k + 1, ks, (hd + 1) % nm, by go_num, by omega, HLS.out, hhd2, KOS.out, MKS.out, FMS.out, ES.out, KRS.out⟩
    case measure => simp [intOf]; omega
   rw [hu] at d0
   have HU := zq hu
   clear hu
   go_wp2_with fail
   refine (CW.out hd _ FMS.out.has).mono ?_
   rintro r w5 ⟨bw, rfl, hb5⟩
   have KO5 := zq (KOS.out.ex hb5)
   have FM5 := zq (FrM.ex FMS.out hb5)
   have MK5 := zq (MKS.out.ex hb5)
   have E5 := zq (ES.out.trans hb5)
   have KR5 := zq (KRS.out.ex hb5)
   clear KOS FMS MKS ES KRS hb5 o0 o1 o2 o3 o4 o5 o6 o7 o8 o9 o10 oz d0 hjO hb2l
   cases bw
   rotate_left
   ·go_wp2
    go_roundw
    case rel => exact ⟨k + 1, ks, (hd + 1) % nm, by go_num, by omega, HLS.out, hhd2, KO5.out, MK5.out, FM5.out, E5.out, KR5.out⟩
    case measure => simp [intOf]; omega
   obtain ⟨o0, o1, o2, o3, o4, o5, o6, o7, o8, o9, o10⟩ := KO5.out.c11
   have oz := KO5.out.frozen
   have hjO := KO5.out.lt
   have m0 := MK5.out.bool HKV.out
   have mz := MK5.out.frozen hd
   have ml := Blk.lt MK5.out
   cases v
   ·have HRb := zq (FM5.out.b.off KR5.out (by decide))
    have HRf := zq (FM5.out.f.off KR5.out (by decide))
    have HRl := zq (FM5.out.l.off KR5.out (by decide))
    have HRo := zq (FM5.out.o.off KR5.out (by decide))
    obtain ⟨r0, r1, r2, r3, r4, r5, r6, r7, r8, r9, r10⟩ := KR5.out.c11
    have rz := KR5.out.frozen
    have rl := KR5.out.lt
    have hgR : ¬ gO = w.heap.size + 1 := by omega
    have hgR2 : ¬ w.heap.size + 1 = gO := by omega
    go_wp2
    exact bodyPost_ret (v := .tuple #[.agg #[.slice A1 nb c1, .slice (some ⟨b2, 0, none⟩) nm d1, .slice L1 nl e1, .int .i64 x.mach.cache.hand, .int .i64 x.mach.tags.count, .int .i64 x.mach.tags.next, .int .i64 x.mach.tags.round, .slice O1 no g1, .int .i64 x.mach.space, .slice (some ⟨gK, 0, none⟩) nm k1, .int .i64 (((hd + 1) % nm : Nat) : Int)], .int .i64 hd]) (by simp [results, Tryz.results110, go_sem, *]) rfl
     ⟨ks, (hd + 1) % nm, (hd : Int), (⟨A1, c1, some ⟨b2, 0, none⟩, d1, L1, e1, O1, g1⟩ : MA), some ⟨gK, 0, none⟩, k1, by rw [hksl], HLS.out, by omega, Or.inr ⟨hd, f, rfl, HFK.out, HU.out⟩, ⟨⟨by repeat' (first | with_reducible exact FM5.out.b | with_reducible refine Fr.put ?_ HRb.out _), by repeat' (first | with_reducible exact FM5.out.f | with_reducible refine Fr.put ?_ HRf.out _), by repeat' (first | with_reducible exact FM5.out.l | with_reducible refine Fr.put ?_ HRl.out _), by repeat' (first | with_reducible exact FM5.out.o | with_reducible refine Fr.put ?_ HRo.out _)⟩, Fr.close (by with_reducible repeat' (first | exact MK5.out | refine Bk.far ?_ (by simp; omega) _)) (by omega) HREST2.out (show ks.length ≤ k1 by omega) hk1m⟩, by repeat' (first | with_reducible exact E5.out | with_reducible refine Ex.put ?_ (by omega) _)⟩
   ·have hgKO2 : ¬ gO = gK := by omega
    have HKs : Hid (FrM (w5.setCell ⟨gK, hd, none⟩ (.bool false)) w.heap.size x.mach (⟨A1, c1, some ⟨b2, 0, none⟩, d1, L1, e1, O1, g1⟩ : MA)) := zq ⟨FM5.out.b.put (FM5.out.b.off MK5.out (by decide)) _, FM5.out.f.put (FM5.out.f.off MK5.out (by decide)) _, FM5.out.l.put (FM5.out.l.off MK5.out (by decide)) _, FM5.out.o.put (FM5.out.o.off MK5.out (by decide)) _⟩
    have HMs : Hid (Bk 4 (w5.setCell ⟨gK, hd, none⟩ (.bool false)) gK (ks.set hd false) rest) := zq (MK5.out.set_bool false (by omega))
    go_wp2
    go_roundw
    case rel => exact ⟨k + 1, ks.set hd false, (hd + 1) % nm, by go_num, by omega, HLS.out.off _, hhd2, KO5.out.far hgKO2 _, HMs.out, HKs.out, E5.out.put (by omega) _, KR5.out.far (by simp; omega) _⟩
    case measure => simp [intOf]; omega
  ·obtain rfl : k = 2 * nm := by omega
   have hge : ¬ (((2 * nm : Nat) : Int) < 2 * (nm : Int)) := by omega
   have HRb := zq (HFM.out.b.off KR.out (by decide))
   have HRf := zq (HFM.out.f.off KR.out (by decide))
   have HRl := zq (HFM.out.l.off KR.out (by decide))
   have HRo := zq (HFM.out.o.off KR.out (by decide))
   obtain ⟨o0, o1, o2, o3, o4, o5, o6, o7, o8, o9, o10⟩ := KO.out.c11
   have oz := KO.out.frozen
   obtain ⟨r0, r1, r2, r3, r4, r5, r6, r7, r8, r9, r10⟩ := KR.out.c11
   have rz := KR.out.frozen
   have rl := KR.out.lt
   have hgR : ¬ gO = w.heap.size + 1 := by omega
   have hgR2 : ¬ w.heap.size + 1 = gO := by omega
   go_wp2
   exact bodyPost_ret (v := .tuple #[.agg #[.slice A1 nb c1, .slice B1 nm d1, .slice L1 nl e1, .int .i64 x.mach.cache.hand, .int .i64 x.mach.tags.count, .int .i64 x.mach.tags.next, .int .i64 x.mach.tags.round, .slice O1 no g1, .int .i64 x.mach.space, .slice (some ⟨gK, 0, none⟩) nm k1, .int .i64 hd], .int .i64 (-1)]) (by simp [results, Tryz.results110, go_sem, *]) rfl
    ⟨ks, hd, -1, (⟨A1, c1, B1, d1, L1, e1, O1, g1⟩ : MA), some ⟨gK, 0, none⟩, k1, by rw [hksl], HLS.out, by omega, Or.inl rfl, ⟨⟨by repeat' (first | with_reducible exact HFM.out.b | with_reducible refine Fr.put ?_ HRb.out _), by repeat' (first | with_reducible exact HFM.out.f | with_reducible refine Fr.put ?_ HRf.out _), by repeat' (first | with_reducible exact HFM.out.l | with_reducible refine Fr.put ?_ HRl.out _), by repeat' (first | with_reducible exact HFM.out.o | with_reducible refine Fr.put ?_ HRo.out _)⟩, Fr.close (by with_reducible repeat' (first | exact HBK.out | refine Bk.far ?_ (by simp; omega) _)) (by omega) HREST2.out (show ks.length ≤ k1 by omega) hk1m⟩, by repeat' (first | with_reducible exact HE.out | with_reducible refine Ex.put ?_ (by omega) _)⟩
end Go.Proofs.YtbdlpbladpppjaaGreatDoor
