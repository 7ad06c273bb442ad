/- Joined: Zj, Zl, Sa, Gd. -/
import Derived.Deep.RegionHeld3
import Derived.Test.YtbdlpbladpppjaaGreatDoorK11
import Derived.Test.YtbdlpbladpppjaaGreatDoorK10
import Derived.Test.YtbdlpbladpppjaaGreatDoorK8
import Derived.Test.YtbdlpbladpppjaaGreatDoorK2
import Derived.Test.YtbdlpbladpppjaaGreatDoorK7
namespace Go.Proofs.YtbdlpbladpppjaaGreatDoor
open Go.ChangeShapes Go.WideShapes Go.ChangeAt Go.RowKit
open Rec (sz cs)
set_option linter.unusedVariables false
set_option maxRecDepth 100000

set_option maxHeartbeats 16000000 in
theorem l6Step_c (g p lo : Nat) (m : MachD) (a : MA) (w : World) (h : Rdr w g p) (hp : p ≤ 800000) (hg : g < lo) (hl : lo ≤ w.heap.size) (hm : MachOk m) (hx : FrM w lo m a) :
  Calls Tryz.prog 63 #[.pointer (some ⟨g, 0, none⟩), .agg #[.slice a.b m.table.buckets.length a.bc, .slice a.f m.table.frames.length a.fc, .slice a.l m.cache.lines.length a.lc, .int .i64 m.cache.hand, .int .i64 m.tags.count, .int .i64 m.tags.next, .int .i64 m.tags.round, .slice a.o m.tags.owns.length a.oc, .int .i64 m.space]] w (SomeMach g p lo 6 MachOk w) := by
 have lg := h.lt
 have HR0 := zq h
 have HMO := zq hm
 have HINB := zq hx.b.row
 have HINF := zq hx.f.row
 have HINL := zq hx.l.row
 have HINO := zq hx.o.row
 have HX := zq hx
 have hfew := hm.few
 have hft := hfew.2.1
 have hft1 := hfew.2.2.2.2.2.1
 have CEN : Hid (∀ (s : Int) (v : World), HasM v m a → Calls Tryz.prog 89 #[.agg #[.slice a.b m.table.buckets.length a.bc, .slice a.f m.table.frames.length a.fc, .slice a.l m.cache.lines.length a.lc, .int .i64 m.cache.hand, .int .i64 m.tags.count, .int .i64 m.tags.next, .int .i64 m.tags.round, .slice a.o m.tags.owns.length a.oc, .int .i64 m.space], .int .i64 s] v (StepOr v)) := zq (fun s v hv => (enterS_c m a s v hm hv hx.cap hx.capx).mono (by rintro e v' ⟨a', he, hf, hb⟩; exact ⟨_, a', _, he, fun hk => enterM_ok hm hk, hf, hb⟩))
 have CPU : Hid (∀ (s q : Int) (i : Nat) (rt : Int) (v : World), (0 ≤ s ∧ s < 3) → (0 ≤ q ∧ q < 256) → i < m.table.frames.length → (0 ≤ rt ∧ rt < 8) → HasM v m a → Calls Tryz.prog 90 #[.agg #[.slice a.b m.table.buckets.length a.bc, .slice a.f m.table.frames.length a.fc, .slice a.l m.cache.lines.length a.lc, .int .i64 m.cache.hand, .int .i64 m.tags.count, .int .i64 m.tags.next, .int .i64 m.tags.round, .slice a.o m.tags.owns.length a.oc, .int .i64 m.space], .agg #[.int .i64 (keyFor s q).space, .int .i64 (keyFor s q).page], .int .i64 i, .int .i64 rt] v (StepOr v)) := zq (fun s q i rt v h1 h2 h3 h4 hv => (putS_c m a (keyFor s q) i rt v hm hv hx.cap hx.capx (keyFor_ok (by omega) h2) (keyFor_again s q) h4 h3).mono (by rintro e v' ⟨a', he, hf, hb⟩; exact ⟨_, a', _, he, fun hk => (putM_ok hm (keyFor_ok (by omega) h2) (keyFor_again s q) h4 h3 hk).1, hf, hb⟩))
 have CTO : Hid (∀ (q n : Int) (v : World), (0 ≤ q ∧ q < 256) → (0 ≤ n ∧ n < 8) → HasM v m a → Calls Tryz.prog 92 #[.agg #[.slice a.b m.table.buckets.length a.bc, .slice a.f m.table.frames.length a.fc, .slice a.l m.cache.lines.length a.lc, .int .i64 m.cache.hand, .int .i64 m.tags.count, .int .i64 m.tags.next, .int .i64 m.tags.round, .slice a.o m.tags.owns.length a.oc, .int .i64 m.space], .int .i64 q, .int .i64 n] v (fun e v' => ∃ (n : MachD) (an : MA) (fr oc : Int), e = .returned (.tuple #[.agg #[.slice an.b n.table.buckets.length an.bc, .slice an.f n.table.frames.length an.fc, .slice an.l n.cache.lines.length an.lc, .int .i64 n.cache.hand, .int .i64 n.tags.count, .int .i64 n.tags.next, .int .i64 n.tags.round, .slice an.o n.tags.owns.length an.oc, .int .i64 n.space], .int .i64 fr, .int .i64 oc, .bool true]) ∧ (true = true → MachOk n) ∧ FrM v' v.heap.size n an ∧ Ex v v')) := zq (fun q n v h1 h2 hv => (touchS_c m a q n v hm hv hx.cap hx.capx h1 h2).mono (by rintro e v' ⟨a', oc, he, hf, _, _, hb⟩; exact ⟨_, a', _, oc, he, fun _ => (touchM_ok hm h1).1, hf, hb⟩))
 have CWI : Hid (∀ (q : Int) (v : World), (128 ≤ q ∧ q < 256) → HasM v m a → Calls Tryz.prog 93 #[.agg #[.slice a.b m.table.buckets.length a.bc, .slice a.f m.table.frames.length a.fc, .slice a.l m.cache.lines.length a.lc, .int .i64 m.cache.hand, .int .i64 m.tags.count, .int .i64 m.tags.next, .int .i64 m.tags.round, .slice a.o m.tags.owns.length a.oc, .int .i64 m.space], .int .i64 q] v (StepOr v)) := zq (fun q v h1 hv => (wirePS_c m a q v hm hv hx.cap hx.capx h1).mono (by rintro e v' ⟨a', he, hf, hb⟩; exact ⟨_, a', _, he, fun hk => wireM_ok hm h1 hk, hf, hb⟩))
 have CTA : Hid (∀ (s q : Int) (v : World), (0 ≤ s ∧ s < 3) → (0 ≤ q ∧ q < 256) → HasM v m a → Calls Tryz.prog 94 #[.agg #[.slice a.b m.table.buckets.length a.bc, .slice a.f m.table.frames.length a.fc, .slice a.l m.cache.lines.length a.lc, .int .i64 m.cache.hand, .int .i64 m.tags.count, .int .i64 m.tags.next, .int .i64 m.tags.round, .slice a.o m.tags.owns.length a.oc, .int .i64 m.space], .agg #[.int .i64 (keyFor s q).space, .int .i64 (keyFor s q).page]] v (StepOr v)) := zq (fun s q v h1 h2 hv => (takeS_c m a (keyFor s q) v hm hv hx.cap hx.capx (keyFor_ok (by omega) h2)).mono (by rintro e v' ⟨a', he, hf, hb⟩; exact ⟨_, a', _, he, fun hk => (takeM_ok hm (keyFor_ok (by omega) h2) (keyFor_again s q) hk).elim (fun _ h => h.elim (fun _ h => h.2.2.2.2.2.2.2)), hf, hb⟩))
 unfold StepOr at CEN CPU CWI CTA
 clear h hm hx hfew
 go_enter Tryz.func63, Tryz.ntmps63
 go_wp2_with fail
 refine name_calls ?_; intro v1 hv1
 have X1 : Hid (Chg (0) (0) w v1) := zx hv1
 have t1 := X1.out.size
 have Ev1 : Hid (Chg g (g + 1) w v1) := zq ((Chg.refl g (g + 1) w).step X1.out (by omega))
 replace HR0 := zq (HR0.out.chg X1.out (by omega))
 have KX : Hid (Blk v1 (w.heap.size) 34 [.slice a.b m.table.buckets.length a.bc, .slice a.f m.table.frames.length a.fc, .slice a.l m.cache.lines.length a.lc, .int .i64 m.cache.hand, .int .i64 m.tags.count, .int .i64 m.tags.next, .int .i64 m.tags.round, .slice a.o m.tags.owns.length a.oc, .int .i64 m.space]) := zq (by rw [hv1]; exact ((Blk.new _ _ _).alloc _).alloc _)
 have lX : w.heap.size < v1.heap.size := KX.out.lt
 have KR : Hid (Blk v1 (w.heap.size + 1) 34 [.slice none 0 0, .slice none 0 0, .slice none 0 0, .int .i64 0, .int .i64 0, .int .i64 0, .int .i64 0, .slice none 0 0, .int .i64 0]) := zk hv1
 have lR : w.heap.size + 1 < v1.heap.size := KR.out.lt
 have KO : Hid (Blk v1 (w.heap.size + 1 + 1) 34 [.slice a.b m.table.buckets.length a.bc, .slice a.f m.table.frames.length a.fc, .slice a.l m.cache.lines.length a.lc, .int .i64 m.cache.hand, .int .i64 m.tags.count, .int .i64 m.tags.next, .int .i64 m.tags.round, .slice a.o m.tags.owns.length a.oc, .int .i64 m.space]) := zk hv1
 have lO : w.heap.size + 1 + 1 < v1.heap.size := KO.out.lt
 clear hv1
 refine (pick_c g p 8 _ HR0.out (by omega) (by omega)).mono ?_; rintro r w1 ⟨z1, rfl, hh1, hrd1, hb1⟩
 have Y1 : Hid (Chg (g) (g + 1) v1 w1) := zq (Chg.of_grown hb1 (fun b hb => by injection hb with hb; omega))
 have s1 := Y1.out.size
 have Ew1 : Hid (Chg g (g + 1) w w1) := zq (Ev1.out.step Y1.out (by omega))
 clear hb1
 replace KX := zq (KX.out.chg Y1.out (by omega))
 replace KR := zq (KR.out.chg Y1.out (by omega))
 replace KO := zq (KO.out.chg Y1.out (by omega))
 clear HR0
 have HRD1 := zq hrd1; clear hrd1
 have HH1 := zq hh1; clear hh1
 obtain ⟨qX0, qX1, qX2, qX3, qX4, qX5, qX6, qX7, qX8⟩ := KX.out.c9
 have jX := KX.out.lt
 obtain ⟨qR0, qR1, qR2, qR3, qR4, qR5, qR6, qR7, qR8⟩ := KR.out.c9
 have jR := KR.out.lt
 obtain ⟨qO0, qO1, qO2, qO3, qO4, qO5, qO6, qO7, qO8⟩ := KO.out.c9
 have jO := KO.out.lt
 obtain ⟨gx, hgx⟩ : ∃ gx : Nat, gx = w.heap.size := ⟨_, rfl⟩
 have hz01 := HH1.out.1
 have hz02 := HH1.out.2.1 (by omega)
 have FM : Hid (∀ v, Chg g (g + 1) w1 v → FrM v lo m a) := zq (fun v hv => (HX.out.chg Ew1.out (by omega)).chg hv (by omega))
 have hw1 : w.heap.size + 3 ≤ w1.heap.size := by have := KO.out.lt; omega
 rw [← hgx] at KX KR KO hw1 qX0 qX1 qX2 qX3 qX4 qX5 qX6 qX7 qX8 jX qR0 qR1 qR2 qR3 qR4 qR5 qR6 qR7 qR8 jR qO0 qO1 qO2 qO3 qO4 qO5 qO6 qO7 qO8 jO HINB HINF HINL HINO ⊢
 have FL : Hid (∀ v, Chg g (g + 1) w1 v → Blk v (gx + 1 + 1) 34 [.slice a.b m.table.buckets.length a.bc, .slice a.f m.table.frames.length a.fc, .slice a.l m.cache.lines.length a.lc, .int .i64 m.cache.hand, .int .i64 m.tags.count, .int .i64 m.tags.next, .int .i64 m.tags.round, .slice a.o m.tags.owns.length a.oc, .int .i64 m.space] ∧ Blk v (gx + 1) 34 [.slice none 0 0, .slice none 0 0, .slice none 0 0, .int .i64 0, .int .i64 0, .int .i64 0, .int .i64 0, .slice none 0 0, .int .i64 0] ∧ Blk v gx 34 [.slice a.b m.table.buckets.length a.bc, .slice a.f m.table.frames.length a.fc, .slice a.l m.cache.lines.length a.lc, .int .i64 m.cache.hand, .int .i64 m.tags.count, .int .i64 m.tags.next, .int .i64 m.tags.round, .slice a.o m.tags.owns.length a.oc, .int .i64 m.space]) := zq (fun v hv => ⟨KO.out.chg hv (by omega), KR.out.chg hv (by omega), KX.out.chg hv (by omega)⟩)
 have FK : Hid (∀ w', Chg g (g + 1) w1 w' → (w'.cell? ⟨gx, 0, none⟩ = some (.slice a.b m.table.buckets.length a.bc) ∧ w'.cell? ⟨gx, 1, none⟩ = some (.slice a.f m.table.frames.length a.fc) ∧ w'.cell? ⟨gx, 2, none⟩ = some (.slice a.l m.cache.lines.length a.lc) ∧ w'.cell? ⟨gx, 3, none⟩ = some (.int .i64 m.cache.hand) ∧ w'.cell? ⟨gx, 4, none⟩ = some (.int .i64 m.tags.count) ∧ w'.cell? ⟨gx, 5, none⟩ = some (.int .i64 m.tags.next) ∧ w'.cell? ⟨gx, 6, none⟩ = some (.int .i64 m.tags.round) ∧ w'.cell? ⟨gx, 7, none⟩ = some (.slice a.o m.tags.owns.length a.oc) ∧ w'.cell? ⟨gx, 8, none⟩ = some (.int .i64 m.space))) := zq (fun v hv => (KX.out.chg hv (by omega)).c9)
 have HGR : Hid (∀ b, some g = some b → g ≤ b ∧ b < g + 1) := zq (fun b hb => by injection hb with hb; omega)
 have hggx : g < gx := by omega
 have hlog : lo ≤ gx := by omega
 have hgx0 : w.heap.size ≤ gx := by omega
 have hneX : gx ≠ gx + 1 + 1 := by omega
 clear HH1 qX0 qX1 qX2 qX3 qX4 qX5 qX6 qX7 qX8 jX qR0 qR1 qR2 qR3 qR4 qR5 qR6 qR7 qR8 jR qO0 qO1 qO2 qO3 qO4 qO5 qO6 qO7 qO8 jO KX KR KO hgx X1 Y1 t1 s1 lX lR lO
 by_cases hz : z1 = 0
 ·subst hz
  have CN2 : Hid (∀ (b : Nat) (v : World), Rdr v g (p + 1) → Rd v (some ⟨b, 0, none⟩) ([0, 1, 2, 3] : List Int) → b ≠ g → Calls Tryz.prog 38 #[.pointer (some ⟨g, 0, none⟩), .slice (some ⟨b, 0, none⟩) 4 4] v (Chosen g (p + 1) [0, 1, 2, 3] v)) := zq (fun b v h1 h2 h3 => num_c g (p + 1) b 0 4 [0, 1, 2, 3] v h1 h2 (by simp) (by simp) (by omega) h3)
  have HLA : Hid (∀ v : World, Rd (v.alloc (.cells #[.int .i64 0, .int .i64 1, .int .i64 2, .int .i64 3] 3)) (some ⟨v.heap.size, 0, none⟩) ([0, 1, 2, 3] : List Int)) := zq (fun v => Rd.lits v _ _)
  have HLD : Hid (∀ v : World, Rd ((v.alloc (.cells #[.int .i64 0, .int .i64 1, .int .i64 2, .int .i64 3] 3)).drew) (some ⟨v.heap.size, 0, none⟩) ([0, 1, 2, 3] : List Int)) := zq (fun v => Rd.lits_drew v _ _)
  go_wp2_with fail
  go_region_held3 (fun w' => (w'.cell? ⟨gx, 0, none⟩ = some (.slice a.b m.table.buckets.length a.bc) ∧ w'.cell? ⟨gx, 1, none⟩ = some (.slice a.f m.table.frames.length a.fc) ∧ w'.cell? ⟨gx, 2, none⟩ = some (.slice a.l m.cache.lines.length a.lc) ∧ w'.cell? ⟨gx, 3, none⟩ = some (.int .i64 m.cache.hand) ∧ w'.cell? ⟨gx, 4, none⟩ = some (.int .i64 m.tags.count) ∧ w'.cell? ⟨gx, 5, none⟩ = some (.int .i64 m.tags.next) ∧ w'.cell? ⟨gx, 6, none⟩ = some (.int .i64 m.tags.round) ∧ w'.cell? ⟨gx, 7, none⟩ = some (.slice a.o m.tags.owns.length a.oc) ∧ w'.cell? ⟨gx, 8, none⟩ = some (.int .i64 m.space))) (first | (refine FK.out _ ?_; with_reducible (first | exact Chg.refl _ _ _ | exact (Chg.refl _ _ _).drew | exact ((Chg.refl _ _ _).alloc _).drew | exact hC2 | exact hC2.alloc _ | exact lC3 | exact lC3.alloc _)) | with_reducible exact (Blk.far (Blk.far (Blk.far (Blk.far (Blk.far (Blk.far (Blk.far (Blk.far (Blk.far hX hneX _) hneX _) hneX _) hneX _) hneX _) hneX _) hneX _) hneX _) hneX _).c9 | go_keep) (first
   | (go_at_call 38; (with_reducible refine (CN2.out _ _ ?_ ?_ ?_).mono ?_); (repeat' (first | with_reducible exact HRD1.out | with_reducible refine Rdr.alloc ?_ _ | with_reducible refine Rdr.drew ?_)); (first | (exact Rd.lits _ _ _) | (exact Rd.lits_drew _ _ _)); (omega); rintro r w2 ⟨v2, rfl, hv2, hr2, hg2⟩; have hC2 : Chg g (g + 1) w1 w2 := Chg.trans (by with_reducible repeat' (first | exact Chg.refl _ _ _ | exact hC2 | refine Chg.alloc ?_ _ | refine Chg.drew ?_)) (Chg.of_grown hg2 HGR.out); have hz2 := hC2.size)
   | (go_at_call 89; (with_reducible refine (CEN.out v2 _ ?_).mono ?_); (refine (FM.out _ ?_).has; repeat' (first | with_reducible exact Chg.refl _ _ _ | with_reducible exact hC2 | with_reducible refine Chg.alloc ?_ _ | with_reducible refine Chg.drew ?_)); rintro r w3 ⟨n, an, ok, rfl, hok, hfn, hb3⟩; have lC3 : Chg g (g + 1) w1 w3 := Chg.trans (by with_reducible repeat' (first | exact Chg.refl _ _ _ | exact hC2 | refine Chg.alloc ?_ _ | refine Chg.drew ?_)) ((Chg.of_ex hb3).mono' _ _); obtain ⟨hO, hR, hX⟩ := FL.out _ lC3; obtain ⟨o0, o1, o2, o3, o4, o5, o6, o7, o8⟩ := hO.c9; have oz := hO.frozen; have ol := hO.lt; obtain ⟨x0, x1, x2, x3, x4, x5, x6, x7, x8⟩ := hX.c9; have xl := hX.lt))
  all_goals (rename_i hHeld; clear hHeld)
  all_goals
   have HC := zq lC3
   have HFN := zq hfn
   have HOKN := zq hok
   have HRE := zq (hr2.ex hb3)
   have EW : Hid (Chg g (g + 1) w w3) := zq (Ew1.out.trans lC3)
   have HZ : Hid (w1.heap.size ≤ w3.heap.size ∧ w1.heap.size ≤ w2.heap.size) := zq ⟨lC3.size, hz2⟩
   obtain ⟨r0, r1, r2, r3, r4, r5, r6, r7, r8⟩ := hR.c9
   have rz := hR.frozen
   have rl := hR.lt
   have hFN : ∀ {E : World}, w2.heap.size ≤ E.heap.size → FrM w3 E.heap.size n an → FrM w3 w1.heap.size n an := fun h1 h2 => FrM.mono h2 (Nat.le_trans hz2 h1)
   replace HFN := zq (hFN (by first | exact Nat.le_refl _ | simp) HFN.out)
   have HNB := zq HFN.out.b.row
   have HNF := zq HFN.out.f.row
   have HNL := zq HFN.out.l.row
   have HNO := zq HFN.out.o.row
   have HMK := zq (FM.out _ lC3)
   clear lC3 hfn hok hR hO hX hb3 hFN
   cases ok
   ·go_wp2
    exact bodyPost_ret (v := .agg #[.slice a.b m.table.buckets.length a.bc, .slice a.f m.table.frames.length a.fc, .slice a.l m.cache.lines.length a.lc, .int .i64 m.cache.hand, .int .i64 m.tags.count, .int .i64 m.tags.next, .int .i64 m.tags.round, .slice a.o m.tags.owns.length a.oc, .int .i64 m.space]) (by simp [results, Tryz.results63, go_sem, *]) rfl
     ⟨m, a, p + 2, rfl, HMO.out, ⟨Fr.mono (B := lo) (by with_reducible repeat' (first | exact HMK.out.b | refine Fr.alloc ?_ _ | refine Fr.put ?_ (fun b hb => by have := HINB.out b hb; omega) _)) (Nat.le_refl _), Fr.mono (B := lo) (by with_reducible repeat' (first | exact HMK.out.f | refine Fr.alloc ?_ _ | refine Fr.put ?_ (fun b hb => by have := HINF.out b hb; omega) _)) (Nat.le_refl _), Fr.mono (B := lo) (by with_reducible repeat' (first | exact HMK.out.l | refine Fr.alloc ?_ _ | refine Fr.put ?_ (fun b hb => by have := HINL.out b hb; omega) _)) (Nat.le_refl _), Fr.mono (B := lo) (by with_reducible repeat' (first | exact HMK.out.o | refine Fr.alloc ?_ _ | refine Fr.put ?_ (fun b hb => by have := HINO.out b hb; omega) _)) (Nat.le_refl _)⟩, Rdr.chg (lo := gx + 1) (hi := gx + 1 + 1 + 1) HRE.out (by with_reducible repeat' (first | exact Chg.refl _ _ w3 | refine Chg.alloc ?_ _ | refine Chg.drew ?_ | refine Chg.set ?_ (by omega) _)) (by omega), by omega, Chg.grown (zc EW.out)⟩
   ·go_wp2
    exact bodyPost_ret (v := .agg #[.slice an.b n.table.buckets.length an.bc, .slice an.f n.table.frames.length an.fc, .slice an.l n.cache.lines.length an.lc, .int .i64 n.cache.hand, .int .i64 n.tags.count, .int .i64 n.tags.next, .int .i64 n.tags.round, .slice an.o n.tags.owns.length an.oc, .int .i64 n.space]) (by simp [results, Tryz.results63, go_sem, *]) rfl
     ⟨n, an, p + 2, rfl, HOKN.out (by simp), ⟨Fr.mono (B := w1.heap.size) (by with_reducible repeat' (first | exact HFN.out.b | refine Fr.alloc ?_ _ | refine Fr.put ?_ (fun b hb => by have := HNB.out b hb; omega) _)) (by omega), Fr.mono (B := w1.heap.size) (by with_reducible repeat' (first | exact HFN.out.f | refine Fr.alloc ?_ _ | refine Fr.put ?_ (fun b hb => by have := HNF.out b hb; omega) _)) (by omega), Fr.mono (B := w1.heap.size) (by with_reducible repeat' (first | exact HFN.out.l | refine Fr.alloc ?_ _ | refine Fr.put ?_ (fun b hb => by have := HNL.out b hb; omega) _)) (by omega), Fr.mono (B := w1.heap.size) (by with_reducible repeat' (first | exact HFN.out.o | refine Fr.alloc ?_ _ | refine Fr.put ?_ (fun b hb => by have := HNO.out b hb; omega) _)) (by omega)⟩, Rdr.chg (lo := gx + 1) (hi := gx + 1 + 1 + 1) HRE.out (by with_reducible repeat' (first | exact Chg.refl _ _ w3 | refine Chg.alloc ?_ _ | refine Chg.drew ?_ | refine Chg.set ?_ (by omega) _)) (by omega), by omega, Chg.grown (zc EW.out)⟩
 have b0 : (z1 == 0) = false := by simp [hz]
 clear hz
 by_cases hz : z1 = 1 ∨ z1 = 2 ∨ z1 = 3
 ·rcases hz with rfl | rfl | rfl
  all_goals
   have CP2 : Hid (∀ v, Rdr v g (p + 1) → Calls Tryz.prog 35 #[.pointer (some ⟨g, 0, none⟩), .int .i64 3] v (Picked g (p + 1) 3 v)) := zq (fun v h => pick_c g (p + 1) 3 v h (by omega) (by omega))
   have CP3 : Hid (∀ v, Rdr v g (p + 1 + 1) → Calls Tryz.prog 91 #[.pointer (some ⟨g, 0, none⟩)] v (SomePage g (p + 1 + 1) v)) := zq (fun v h => l6Page_c g (p + 1 + 1) v h (by omega))
   have CP5 : Hid (∀ v, Rdr v g (p + 1 + 1 + 1) → Calls Tryz.prog 35 #[.pointer (some ⟨g, 0, none⟩), .int .i64 (m.table.frames.length : Int)] v (Picked g (p + 1 + 1 + 1) (m.table.frames.length : Int) v)) := zq (fun v h => pick_c g (p + 1 + 1 + 1) (m.table.frames.length : Int) v h (by omega) (by omega))
   have CN6 : Hid (∀ (b : Nat) (v : World), Rdr v g (p + 1 + 1 + 1 + 1) → Rd v (some ⟨b, 0, none⟩) ([3, 1, 7] : List Int) → b ≠ g → Calls Tryz.prog 38 #[.pointer (some ⟨g, 0, none⟩), .slice (some ⟨b, 0, none⟩) 3 3] v (Chosen g (p + 1 + 1 + 1 + 1) [3, 1, 7] v)) := zq (fun b v h1 h2 h3 => num_c g (p + 1 + 1 + 1 + 1) b 0 3 [3, 1, 7] v h1 h2 (by simp) (by simp) (by omega) h3)
   have HLA : Hid (∀ v : World, Rd (v.alloc (.cells #[.int .i64 3, .int .i64 1, .int .i64 7] 3)) (some ⟨v.heap.size, 0, none⟩) ([3, 1, 7] : List Int)) := zq (fun v => Rd.lits v _ _)
   have HLD : Hid (∀ v : World, Rd ((v.alloc (.cells #[.int .i64 3, .int .i64 1, .int .i64 7] 3)).drew) (some ⟨v.heap.size, 0, none⟩) ([3, 1, 7] : List Int)) := zq (fun v => Rd.lits_drew v _ _)
   go_wp2_with fail
   go_region_held3 (fun w' => (w'.cell? ⟨gx, 0, none⟩ = some (.slice a.b m.table.buckets.length a.bc) ∧ w'.cell? ⟨gx, 1, none⟩ = some (.slice a.f m.table.frames.length a.fc) ∧ w'.cell? ⟨gx, 2, none⟩ = some (.slice a.l m.cache.lines.length a.lc) ∧ w'.cell? ⟨gx, 3, none⟩ = some (.int .i64 m.cache.hand) ∧ w'.cell? ⟨gx, 4, none⟩ = some (.int .i64 m.tags.count) ∧ w'.cell? ⟨gx, 5, none⟩ = some (.int .i64 m.tags.next) ∧ w'.cell? ⟨gx, 6, none⟩ = some (.int .i64 m.tags.round) ∧ w'.cell? ⟨gx, 7, none⟩ = some (.slice a.o m.tags.owns.length a.oc) ∧ w'.cell? ⟨gx, 8, none⟩ = some (.int .i64 m.space))) (first | (refine FK.out _ ?_; with_reducible (first | exact Chg.refl _ _ _ | exact (Chg.refl _ _ _).drew | exact ((Chg.refl _ _ _).alloc _).drew | exact hC2 | exact hC2.alloc _ | exact hC3 | exact hC3.alloc _ | exact hC4 | exact hC4.alloc _ | exact hC5 | exact hC5.alloc _ | exact hC6 | exact hC6.alloc _ | exact lC7 | exact lC7.alloc _)) | with_reducible exact (Blk.far (Blk.far (Blk.far (Blk.far (Blk.far (Blk.far (Blk.far (Blk.far (Blk.far hX hneX _) hneX _) hneX _) hneX _) hneX _) hneX _) hneX _) hneX _) hneX _).c9 | go_keep) (first
    | (go_at_call 35; (with_reducible refine (CP2.out _ ?_).mono ?_); (repeat' (first | with_reducible exact HRD1.out | with_reducible refine Rdr.alloc ?_ _ | with_reducible refine Rdr.drew ?_)); rintro r w2 ⟨v2, rfl, hv2, hr2, hg2⟩; have hC2 : Chg g (g + 1) w1 w2 := Chg.trans (by with_reducible repeat' (first | exact Chg.refl _ _ _ | exact hC5 | refine Chg.alloc ?_ _ | refine Chg.drew ?_)) (Chg.of_grown hg2 HGR.out); have hz2 := hC2.size; (first | (with_reducible (have hL := Rd.past hL hg2 (by omega))) | (with_reducible (have hL := Rd.past (HLA.out _) hg2 (by omega))) | (with_reducible (have hL := Rd.past (HLD.out _) hg2 (by omega))) | skip))
    | (go_at_call 91; (with_reducible refine (CP3.out _ ?_).mono ?_); (repeat' (first | with_reducible exact hr2 | with_reducible refine Rdr.alloc ?_ _ | with_reducible refine Rdr.drew ?_)); rintro r w3 ⟨v3, rfl, hv3, hr3, hg3⟩; have hC3 : Chg g (g + 1) w1 w3 := Chg.trans (by with_reducible repeat' (first | exact Chg.refl _ _ _ | exact hC2 | refine Chg.alloc ?_ _ | refine Chg.drew ?_)) (Chg.of_grown hg3 HGR.out); have hz3 := hC3.size; (first | (with_reducible (have hL := Rd.past hL hg3 (by omega))) | (with_reducible (have hL := Rd.past (HLA.out _) hg3 (by omega))) | (with_reducible (have hL := Rd.past (HLD.out _) hg3 (by omega))) | skip))
    | (go_at_call 80; (with_reducible refine (keyForS_c v2 v3 _).mono ?_); rintro r w4 ⟨rfl, hb4⟩; have hC4 : Chg g (g + 1) w1 w4 := Chg.trans (by with_reducible repeat' (first | exact Chg.refl _ _ _ | exact hC3 | refine Chg.alloc ?_ _ | refine Chg.drew ?_)) ((Chg.of_ex hb4).mono' _ _); have hr4 : Rdr w4 g (p + 1 + 1 + 1) := Rdr.ex (by with_reducible repeat' (first | exact hr3 | refine Rdr.alloc ?_ _ | refine Rdr.drew ?_)) hb4; have hz4 := hC4.size; (first | (with_reducible (have hL := Rd.ex hL hb4)) | (with_reducible (have hL := Rd.ex (HLA.out _) hb4)) | skip))
    | (go_at_call 35; (with_reducible refine (CP5.out _ ?_).mono ?_); (repeat' (first | with_reducible exact hr4 | with_reducible refine Rdr.alloc ?_ _ | with_reducible refine Rdr.drew ?_)); rintro r w5 ⟨v5, rfl, hv5, hr5, hg5⟩; obtain ⟨i5, rfl⟩ := Int.eq_ofNat_of_zero_le hv5.1; have hi5 := hv5.2.1 (by omega); have hC5 : Chg g (g + 1) w1 w5 := Chg.trans (by with_reducible repeat' (first | exact Chg.refl _ _ _ | exact hC4 | refine Chg.alloc ?_ _ | refine Chg.drew ?_)) (Chg.of_grown hg5 HGR.out); have hz5 := hC5.size; (first | (with_reducible (have hL := Rd.past hL hg5 (by omega))) | (with_reducible (have hL := Rd.past (HLA.out _) hg5 (by omega))) | (with_reducible (have hL := Rd.past (HLD.out _) hg5 (by omega))) | skip))
    | (go_at_call 38; (with_reducible refine (CN6.out _ _ ?_ ?_ ?_).mono ?_); (repeat' (first | with_reducible exact hr5 | with_reducible refine Rdr.alloc ?_ _ | with_reducible refine Rdr.drew ?_)); (first | (with_reducible exact hL) | (with_reducible exact HLA.out _) | (with_reducible exact HLD.out _)); (omega); rintro r w6 ⟨v6, rfl, hv6, hr6, hg6⟩; have hC6 : Chg g (g + 1) w1 w6 := Chg.trans (by with_reducible repeat' (first | exact Chg.refl _ _ _ | exact hC5 | refine Chg.alloc ?_ _ | refine Chg.drew ?_)) (Chg.of_grown hg6 HGR.out); have hz6 := hC6.size)
    | (go_at_call 90; (with_reducible refine (CPU.out v2 v3 i5 v6 _ ?_ ?_ ?_ ?_ ?_).mono ?_); (exact ⟨hv2.1, hv2.2.1 (by omega)⟩); (exact hv3); (omega); (simp at hv6; omega); (refine (FM.out _ ?_).has; repeat' (first | with_reducible exact Chg.refl _ _ _ | with_reducible exact hC6 | with_reducible refine Chg.alloc ?_ _ | with_reducible refine Chg.drew ?_)); rintro r w7 ⟨n, an, ok, rfl, hok, hfn, hb7⟩; have lC7 : Chg g (g + 1) w1 w7 := Chg.trans (by with_reducible repeat' (first | exact Chg.refl _ _ _ | exact hC6 | refine Chg.alloc ?_ _ | refine Chg.drew ?_)) ((Chg.of_ex hb7).mono' _ _); obtain ⟨hO, hR, hX⟩ := FL.out _ lC7; obtain ⟨o0, o1, o2, o3, o4, o5, o6, o7, o8⟩ := hO.c9; have oz := hO.frozen; have ol := hO.lt; obtain ⟨x0, x1, x2, x3, x4, x5, x6, x7, x8⟩ := hX.c9; have xl := hX.lt))
   all_goals (rename_i hHeld; clear hHeld)
   all_goals
    have HC := zq lC7
    have HFN := zq hfn
    have HOKN := zq hok
    have HRE := zq (hr6.ex hb7)
    have EW : Hid (Chg g (g + 1) w w7) := zq (Ew1.out.trans lC7)
    have HZ : Hid (w1.heap.size ≤ w7.heap.size ∧ w1.heap.size ≤ w6.heap.size) := zq ⟨lC7.size, hz6⟩
    obtain ⟨r0, r1, r2, r3, r4, r5, r6, r7, r8⟩ := hR.c9
    have rz := hR.frozen
    have rl := hR.lt
    have hFN : ∀ {E : World}, w6.heap.size ≤ E.heap.size → FrM w7 E.heap.size n an → FrM w7 w1.heap.size n an := fun h1 h2 => FrM.mono h2 (Nat.le_trans hz6 h1)
    replace HFN := zq (hFN (by first | exact Nat.le_refl _ | simp) HFN.out)
    have HNB := zq HFN.out.b.row
    have HNF := zq HFN.out.f.row
    have HNL := zq HFN.out.l.row
    have HNO := zq HFN.out.o.row
    have HMK := zq (FM.out _ lC7)
    clear lC7 hfn hok hR hO hX hb7 hFN
    cases ok
    ·go_wp2
     exact bodyPost_ret (v := .agg #[.slice a.b m.table.buckets.length a.bc, .slice a.f m.table.frames.length a.fc, .slice a.l m.cache.lines.length a.lc, .int .i64 m.cache.hand, .int .i64 m.tags.count, .int .i64 m.tags.next, .int .i64 m.tags.round, .slice a.o m.tags.owns.length a.oc, .int .i64 m.space]) (by simp [results, Tryz.results63, go_sem, *]) rfl
      ⟨m, a, p + 1 + 1 + 1 + 1 + 1, rfl, HMO.out, ⟨Fr.mono (B := lo) (by with_reducible repeat' (first | exact HMK.out.b | refine Fr.alloc ?_ _ | refine Fr.put ?_ (fun b hb => by have := HINB.out b hb; omega) _)) (Nat.le_refl _), Fr.mono (B := lo) (by with_reducible repeat' (first | exact HMK.out.f | refine Fr.alloc ?_ _ | refine Fr.put ?_ (fun b hb => by have := HINF.out b hb; omega) _)) (Nat.le_refl _), Fr.mono (B := lo) (by with_reducible repeat' (first | exact HMK.out.l | refine Fr.alloc ?_ _ | refine Fr.put ?_ (fun b hb => by have := HINL.out b hb; omega) _)) (Nat.le_refl _), Fr.mono (B := lo) (by with_reducible repeat' (first | exact HMK.out.o | refine Fr.alloc ?_ _ | refine Fr.put ?_ (fun b hb => by have := HINO.out b hb; omega) _)) (Nat.le_refl _)⟩, Rdr.chg (lo := gx + 1) (hi := gx + 1 + 1 + 1) HRE.out (by with_reducible repeat' (first | exact Chg.refl _ _ w7 | refine Chg.alloc ?_ _ | refine Chg.drew ?_ | refine Chg.set ?_ (by omega) _)) (by omega), by omega, Chg.grown (zc EW.out)⟩
    ·go_wp2
     exact bodyPost_ret (v := .agg #[.slice an.b n.table.buckets.length an.bc, .slice an.f n.table.frames.length an.fc, .slice an.l n.cache.lines.length an.lc, .int .i64 n.cache.hand, .int .i64 n.tags.count, .int .i64 n.tags.next, .int .i64 n.tags.round, .slice an.o n.tags.owns.length an.oc, .int .i64 n.space]) (by simp [results, Tryz.results63, go_sem, *]) rfl
      ⟨n, an, p + 1 + 1 + 1 + 1 + 1, rfl, HOKN.out (by simp), ⟨Fr.mono (B := w1.heap.size) (by with_reducible repeat' (first | exact HFN.out.b | refine Fr.alloc ?_ _ | refine Fr.put ?_ (fun b hb => by have := HNB.out b hb; omega) _)) (by omega), Fr.mono (B := w1.heap.size) (by with_reducible repeat' (first | exact HFN.out.f | refine Fr.alloc ?_ _ | refine Fr.put ?_ (fun b hb => by have := HNF.out b hb; omega) _)) (by omega), Fr.mono (B := w1.heap.size) (by with_reducible repeat' (first | exact HFN.out.l | refine Fr.alloc ?_ _ | refine Fr.put ?_ (fun b hb => by have := HNL.out b hb; omega) _)) (by omega), Fr.mono (B := w1.heap.size) (by with_reducible repeat' (first | exact HFN.out.o | refine Fr.alloc ?_ _ | refine Fr.put ?_ (fun b hb => by have := HNO.out b hb; omega) _)) (by omega)⟩, Rdr.chg (lo := gx + 1) (hi := gx + 1 + 1 + 1) HRE.out (by with_reducible repeat' (first | exact Chg.refl _ _ w7 | refine Chg.alloc ?_ _ | refine Chg.drew ?_ | refine Chg.set ?_ (by omega) _)) (by omega), by omega, Chg.grown (zc EW.out)⟩
 have b1 : (z1 == 1) = false := by simp; omega
 have b2 : (z1 == 2) = false := by simp; omega
 have b3 : (z1 == 3) = false := by simp; omega
 clear hz
 by_cases hz : z1 = 4 ∨ z1 = 5
 ·rcases hz with rfl | rfl
  all_goals
   have CP2 : Hid (∀ v, Rdr v g (p + 1) → Calls Tryz.prog 91 #[.pointer (some ⟨g, 0, none⟩)] v (SomePage g (p + 1) v)) := zq (fun v h => l6Page_c g (p + 1) v h (by omega))
   have CN3 : Hid (∀ (b : Nat) (v : World), Rdr v g (p + 1 + 1) → Rd v (some ⟨b, 0, none⟩) ([1, 0, 2] : List Int) → b ≠ g → Calls Tryz.prog 38 #[.pointer (some ⟨g, 0, none⟩), .slice (some ⟨b, 0, none⟩) 3 3] v (Chosen g (p + 1 + 1) [1, 0, 2] v)) := zq (fun b v h1 h2 h3 => num_c g (p + 1 + 1) b 0 3 [1, 0, 2] v h1 h2 (by simp) (by simp) (by omega) h3)
   have HLA : Hid (∀ v : World, Rd (v.alloc (.cells #[.int .i64 1, .int .i64 0, .int .i64 2] 3)) (some ⟨v.heap.size, 0, none⟩) ([1, 0, 2] : List Int)) := zq (fun v => Rd.lits v _ _)
   have HLD : Hid (∀ v : World, Rd ((v.alloc (.cells #[.int .i64 1, .int .i64 0, .int .i64 2] 3)).drew) (some ⟨v.heap.size, 0, none⟩) ([1, 0, 2] : List Int)) := zq (fun v => Rd.lits_drew v _ _)
   go_wp2_with fail
   go_region_held3 (fun w' => (w'.cell? ⟨gx, 0, none⟩ = some (.slice a.b m.table.buckets.length a.bc) ∧ w'.cell? ⟨gx, 1, none⟩ = some (.slice a.f m.table.frames.length a.fc) ∧ w'.cell? ⟨gx, 2, none⟩ = some (.slice a.l m.cache.lines.length a.lc) ∧ w'.cell? ⟨gx, 3, none⟩ = some (.int .i64 m.cache.hand) ∧ w'.cell? ⟨gx, 4, none⟩ = some (.int .i64 m.tags.count) ∧ w'.cell? ⟨gx, 5, none⟩ = some (.int .i64 m.tags.next) ∧ w'.cell? ⟨gx, 6, none⟩ = some (.int .i64 m.tags.round) ∧ w'.cell? ⟨gx, 7, none⟩ = some (.slice a.o m.tags.owns.length a.oc) ∧ w'.cell? ⟨gx, 8, none⟩ = some (.int .i64 m.space))) (first | (refine FK.out _ ?_; with_reducible (first | exact Chg.refl _ _ _ | exact (Chg.refl _ _ _).drew | exact ((Chg.refl _ _ _).alloc _).drew | exact hC2 | exact hC2.alloc _ | exact hC3 | exact hC3.alloc _ | exact lC4 | exact lC4.alloc _)) | with_reducible exact (Blk.far (Blk.far (Blk.far (Blk.far (Blk.far (Blk.far (Blk.far (Blk.far (Blk.far hX hneX _) hneX _) hneX _) hneX _) hneX _) hneX _) hneX _) hneX _) hneX _).c9 | go_keep) (first
    | (go_at_call 91; (with_reducible refine (CP2.out _ ?_).mono ?_); (repeat' (first | with_reducible exact HRD1.out | with_reducible refine Rdr.alloc ?_ _ | with_reducible refine Rdr.drew ?_)); rintro r w2 ⟨v2, rfl, hv2, hr2, hg2⟩; have hC2 : Chg g (g + 1) w1 w2 := Chg.trans (by with_reducible repeat' (first | exact Chg.refl _ _ _ | exact hC3 | refine Chg.alloc ?_ _ | refine Chg.drew ?_)) (Chg.of_grown hg2 HGR.out); have hz2 := hC2.size; (first | (with_reducible (have hL := Rd.past hL hg2 (by omega))) | (with_reducible (have hL := Rd.past (HLA.out _) hg2 (by omega))) | (with_reducible (have hL := Rd.past (HLD.out _) hg2 (by omega))) | skip))
    | (go_at_call 38; (with_reducible refine (CN3.out _ _ ?_ ?_ ?_).mono ?_); (repeat' (first | with_reducible exact hr2 | with_reducible refine Rdr.alloc ?_ _ | with_reducible refine Rdr.drew ?_)); (first | (with_reducible exact hL) | (with_reducible exact HLA.out _) | (with_reducible exact HLD.out _)); (omega); rintro r w3 ⟨v3, rfl, hv3, hr3, hg3⟩; have hC3 : Chg g (g + 1) w1 w3 := Chg.trans (by with_reducible repeat' (first | exact Chg.refl _ _ _ | exact hC2 | refine Chg.alloc ?_ _ | refine Chg.drew ?_)) (Chg.of_grown hg3 HGR.out); have hz3 := hC3.size)
    | (go_at_call 92; (with_reducible refine (CTO.out v2 v3 _ ?_ ?_ ?_).mono ?_); (exact hv2); (simp at hv3; omega); (refine (FM.out _ ?_).has; repeat' (first | with_reducible exact Chg.refl _ _ _ | with_reducible exact hC3 | with_reducible refine Chg.alloc ?_ _ | with_reducible refine Chg.drew ?_)); rintro r w4 ⟨n, an, fr, oc, rfl, hok, hfn, hb4⟩; have lC4 : Chg g (g + 1) w1 w4 := Chg.trans (by with_reducible repeat' (first | exact Chg.refl _ _ _ | exact hC3 | refine Chg.alloc ?_ _ | refine Chg.drew ?_)) ((Chg.of_ex hb4).mono' _ _); obtain ⟨hO, hR, hX⟩ := FL.out _ lC4; obtain ⟨o0, o1, o2, o3, o4, o5, o6, o7, o8⟩ := hO.c9; have oz := hO.frozen; have ol := hO.lt; obtain ⟨x0, x1, x2, x3, x4, x5, x6, x7, x8⟩ := hX.c9; have xl := hX.lt))
   all_goals (rename_i hHeld; clear hHeld)
   all_goals
    have HC := zq lC4
    have HFN := zq hfn
    have HOKN := zq hok
    have HRE := zq (hr3.ex hb4)
    have EW : Hid (Chg g (g + 1) w w4) := zq (Ew1.out.trans lC4)
    have HZ : Hid (w1.heap.size ≤ w4.heap.size ∧ w1.heap.size ≤ w3.heap.size) := zq ⟨lC4.size, hz3⟩
    obtain ⟨r0, r1, r2, r3, r4, r5, r6, r7, r8⟩ := hR.c9
    have rz := hR.frozen
    have rl := hR.lt
    have hFN : ∀ {E : World}, w3.heap.size ≤ E.heap.size → FrM w4 E.heap.size n an → FrM w4 w1.heap.size n an := fun h1 h2 => FrM.mono h2 (Nat.le_trans hz3 h1)
    replace HFN := zq (hFN (by first | exact Nat.le_refl _ | simp) HFN.out)
    have HNB := zq HFN.out.b.row
    have HNF := zq HFN.out.f.row
    have HNL := zq HFN.out.l.row
    have HNO := zq HFN.out.o.row
    have HMK := zq (FM.out _ lC4)
    clear lC4 hfn hok hR hO hX hb4 hFN
    go_wp2
    exact bodyPost_ret (v := .agg #[.slice an.b n.table.buckets.length an.bc, .slice an.f n.table.frames.length an.fc, .slice an.l n.cache.lines.length an.lc, .int .i64 n.cache.hand, .int .i64 n.tags.count, .int .i64 n.tags.next, .int .i64 n.tags.round, .slice an.o n.tags.owns.length an.oc, .int .i64 n.space]) (by simp [results, Tryz.results63, go_sem, *]) rfl
     ⟨n, an, p + 1 + 1 + 1, rfl, HOKN.out (by simp), ⟨Fr.mono (B := w1.heap.size) (by with_reducible repeat' (first | exact HFN.out.b | refine Fr.alloc ?_ _ | refine Fr.put ?_ (fun b hb => by have := HNB.out b hb; omega) _)) (by omega), Fr.mono (B := w1.heap.size) (by with_reducible repeat' (first | exact HFN.out.f | refine Fr.alloc ?_ _ | refine Fr.put ?_ (fun b hb => by have := HNF.out b hb; omega) _)) (by omega), Fr.mono (B := w1.heap.size) (by with_reducible repeat' (first | exact HFN.out.l | refine Fr.alloc ?_ _ | refine Fr.put ?_ (fun b hb => by have := HNL.out b hb; omega) _)) (by omega), Fr.mono (B := w1.heap.size) (by with_reducible repeat' (first | exact HFN.out.o | refine Fr.alloc ?_ _ | refine Fr.put ?_ (fun b hb => by have := HNO.out b hb; omega) _)) (by omega)⟩, Rdr.chg (lo := gx + 1) (hi := gx + 1 + 1 + 1) HRE.out (by with_reducible repeat' (first | exact Chg.refl _ _ w4 | refine Chg.alloc ?_ _ | refine Chg.drew ?_ | refine Chg.set ?_ (by omega) _)) (by omega), by omega, Chg.grown (zc EW.out)⟩
 have b4 : (z1 == 4) = false := by simp; omega
 have b5 : (z1 == 5) = false := by simp; omega
 clear hz
 by_cases hz : z1 = 6
 ·rcases hz with rfl
  all_goals
   have CN2 : Hid (∀ (b : Nat) (v : World), Rdr v g (p + 1) → Rd v (some ⟨b, 0, none⟩) ([200, 201] : List Int) → b ≠ g → Calls Tryz.prog 38 #[.pointer (some ⟨g, 0, none⟩), .slice (some ⟨b, 0, none⟩) 2 2] v (Chosen g (p + 1) [200, 201] v)) := zq (fun b v h1 h2 h3 => num_c g (p + 1) b 0 2 [200, 201] v h1 h2 (by simp) (by simp) (by omega) h3)
   have HLA : Hid (∀ v : World, Rd (v.alloc (.cells #[.int .i64 200, .int .i64 201] 3)) (some ⟨v.heap.size, 0, none⟩) ([200, 201] : List Int)) := zq (fun v => Rd.lits v _ _)
   have HLD : Hid (∀ v : World, Rd ((v.alloc (.cells #[.int .i64 200, .int .i64 201] 3)).drew) (some ⟨v.heap.size, 0, none⟩) ([200, 201] : List Int)) := zq (fun v => Rd.lits_drew v _ _)
   go_wp2_with fail
   go_region_held3 (fun w' => (w'.cell? ⟨gx, 0, none⟩ = some (.slice a.b m.table.buckets.length a.bc) ∧ w'.cell? ⟨gx, 1, none⟩ = some (.slice a.f m.table.frames.length a.fc) ∧ w'.cell? ⟨gx, 2, none⟩ = some (.slice a.l m.cache.lines.length a.lc) ∧ w'.cell? ⟨gx, 3, none⟩ = some (.int .i64 m.cache.hand) ∧ w'.cell? ⟨gx, 4, none⟩ = some (.int .i64 m.tags.count) ∧ w'.cell? ⟨gx, 5, none⟩ = some (.int .i64 m.tags.next) ∧ w'.cell? ⟨gx, 6, none⟩ = some (.int .i64 m.tags.round) ∧ w'.cell? ⟨gx, 7, none⟩ = some (.slice a.o m.tags.owns.length a.oc) ∧ w'.cell? ⟨gx, 8, none⟩ = some (.int .i64 m.space))) (first | (refine FK.out _ ?_; with_reducible (first | exact Chg.refl _ _ _ | exact (Chg.refl _ _ _).drew | exact ((Chg.refl _ _ _).alloc _).drew | exact hC2 | exact hC2.alloc _ | exact lC3 | exact lC3.alloc _)) | with_reducible exact (Blk.far (Blk.far (Blk.far (Blk.far (Blk.far (Blk.far (Blk.far (Blk.far (Blk.far hX hneX _) hneX _) hneX _) hneX _) hneX _) hneX _) hneX _) hneX _) hneX _).c9 | go_keep) (first
    | (go_at_call 38; (with_reducible refine (CN2.out _ _ ?_ ?_ ?_).mono ?_); (repeat' (first | with_reducible exact HRD1.out | with_reducible refine Rdr.alloc ?_ _ | with_reducible refine Rdr.drew ?_)); (first | (exact Rd.lits _ _ _) | (exact Rd.lits_drew _ _ _)); (omega); rintro r w2 ⟨v2, rfl, hv2, hr2, hg2⟩; have hC2 : Chg g (g + 1) w1 w2 := Chg.trans (by with_reducible repeat' (first | exact Chg.refl _ _ _ | exact hC2 | refine Chg.alloc ?_ _ | refine Chg.drew ?_)) (Chg.of_grown hg2 HGR.out); have hz2 := hC2.size)
    | (go_at_call 93; (with_reducible refine (CWI.out v2 _ ?_ ?_).mono ?_); (simp at hv2; omega); (refine (FM.out _ ?_).has; repeat' (first | with_reducible exact Chg.refl _ _ _ | with_reducible exact hC2 | with_reducible refine Chg.alloc ?_ _ | with_reducible refine Chg.drew ?_)); rintro r w3 ⟨n, an, ok, rfl, hok, hfn, hb3⟩; have lC3 : Chg g (g + 1) w1 w3 := Chg.trans (by with_reducible repeat' (first | exact Chg.refl _ _ _ | exact hC2 | refine Chg.alloc ?_ _ | refine Chg.drew ?_)) ((Chg.of_ex hb3).mono' _ _); obtain ⟨hO, hR, hX⟩ := FL.out _ lC3; obtain ⟨o0, o1, o2, o3, o4, o5, o6, o7, o8⟩ := hO.c9; have oz := hO.frozen; have ol := hO.lt; obtain ⟨x0, x1, x2, x3, x4, x5, x6, x7, x8⟩ := hX.c9; have xl := hX.lt))
   all_goals (rename_i hHeld; clear hHeld)
   all_goals
    have HC := zq lC3
    have HFN := zq hfn
    have HOKN := zq hok
    have HRE := zq (hr2.ex hb3)
    have EW : Hid (Chg g (g + 1) w w3) := zq (Ew1.out.trans lC3)
    have HZ : Hid (w1.heap.size ≤ w3.heap.size ∧ w1.heap.size ≤ w2.heap.size) := zq ⟨lC3.size, hz2⟩
    obtain ⟨r0, r1, r2, r3, r4, r5, r6, r7, r8⟩ := hR.c9
    have rz := hR.frozen
    have rl := hR.lt
    have hFN : ∀ {E : World}, w2.heap.size ≤ E.heap.size → FrM w3 E.heap.size n an → FrM w3 w1.heap.size n an := fun h1 h2 => FrM.mono h2 (Nat.le_trans hz2 h1)
    replace HFN := zq (hFN (by first | exact Nat.le_refl _ | simp) HFN.out)
    have HNB := zq HFN.out.b.row
    have HNF := zq HFN.out.f.row
    have HNL := zq HFN.out.l.row
    have HNO := zq HFN.out.o.row
    have HMK := zq (FM.out _ lC3)
    clear lC3 hfn hok hR hO hX hb3 hFN
    cases ok
    ·go_wp2
     exact bodyPost_ret (v := .agg #[.slice a.b m.table.buckets.length a.bc, .slice a.f m.table.frames.length a.fc, .slice a.l m.cache.lines.length a.lc, .int .i64 m.cache.hand, .int .i64 m.tags.count, .int .i64 m.tags.next, .int .i64 m.tags.round, .slice a.o m.tags.owns.length a.oc, .int .i64 m.space]) (by simp [results, Tryz.results63, go_sem, *]) rfl
      ⟨m, a, p + 1 + 1, rfl, HMO.out, ⟨Fr.mono (B := lo) (by with_reducible repeat' (first | exact HMK.out.b | refine Fr.alloc ?_ _ | refine Fr.put ?_ (fun b hb => by have := HINB.out b hb; omega) _)) (Nat.le_refl _), Fr.mono (B := lo) (by with_reducible repeat' (first | exact HMK.out.f | refine Fr.alloc ?_ _ | refine Fr.put ?_ (fun b hb => by have := HINF.out b hb; omega) _)) (Nat.le_refl _), Fr.mono (B := lo) (by with_reducible repeat' (first | exact HMK.out.l | refine Fr.alloc ?_ _ | refine Fr.put ?_ (fun b hb => by have := HINL.out b hb; omega) _)) (Nat.le_refl _), Fr.mono (B := lo) (by with_reducible repeat' (first | exact HMK.out.o | refine Fr.alloc ?_ _ | refine Fr.put ?_ (fun b hb => by have := HINO.out b hb; omega) _)) (Nat.le_refl _)⟩, Rdr.chg (lo := gx + 1) (hi := gx + 1 + 1 + 1) HRE.out (by with_reducible repeat' (first | exact Chg.refl _ _ w3 | refine Chg.alloc ?_ _ | refine Chg.drew ?_ | refine Chg.set ?_ (by omega) _)) (by omega), by omega, Chg.grown (zc EW.out)⟩
    ·go_wp2
     exact bodyPost_ret (v := .agg #[.slice an.b n.table.buckets.length an.bc, .slice an.f n.table.frames.length an.fc, .slice an.l n.cache.lines.length an.lc, .int .i64 n.cache.hand, .int .i64 n.tags.count, .int .i64 n.tags.next, .int .i64 n.tags.round, .slice an.o n.tags.owns.length an.oc, .int .i64 n.space]) (by simp [results, Tryz.results63, go_sem, *]) rfl
      ⟨n, an, p + 1 + 1, rfl, HOKN.out (by simp), ⟨Fr.mono (B := w1.heap.size) (by with_reducible repeat' (first | exact HFN.out.b | refine Fr.alloc ?_ _ | refine Fr.put ?_ (fun b hb => by have := HNB.out b hb; omega) _)) (by omega), Fr.mono (B := w1.heap.size) (by with_reducible repeat' (first | exact HFN.out.f | refine Fr.alloc ?_ _ | refine Fr.put ?_ (fun b hb => by have := HNF.out b hb; omega) _)) (by omega), Fr.mono (B := w1.heap.size) (by with_reducible repeat' (first | exact HFN.out.l | refine Fr.alloc ?_ _ | refine Fr.put ?_ (fun b hb => by have := HNL.out b hb; omega) _)) (by omega), Fr.mono (B := w1.heap.size) (by with_reducible repeat' (first | exact HFN.out.o | refine Fr.alloc ?_ _ | refine Fr.put ?_ (fun b hb => by have := HNO.out b hb; omega) _)) (by omega)⟩, Rdr.chg (lo := gx + 1) (hi := gx + 1 + 1 + 1) HRE.out (by with_reducible repeat' (first | exact Chg.refl _ _ w3 | refine Chg.alloc ?_ _ | refine Chg.drew ?_ | refine Chg.set ?_ (by omega) _)) (by omega), by omega, Chg.grown (zc EW.out)⟩
 have b6 : (z1 == 6) = false := by simp; omega
 clear hz
 obtain rfl : z1 = 7 := by simp at b0 b1 b2 b3 b4 b5 b6; omega
 have CP2 : Hid (∀ v, Rdr v g (p + 1) → Calls Tryz.prog 35 #[.pointer (some ⟨g, 0, none⟩), .int .i64 3] v (Picked g (p + 1) 3 v)) := zq (fun v h => pick_c g (p + 1) 3 v h (by omega) (by omega))
 have CP3 : Hid (∀ v, Rdr v g (p + 1 + 1) → Calls Tryz.prog 91 #[.pointer (some ⟨g, 0, none⟩)] v (SomePage g (p + 1 + 1) v)) := zq (fun v h => l6Page_c g (p + 1 + 1) v h (by omega))
 go_wp2_with fail
 go_region_held3 (fun w' => (w'.cell? ⟨gx, 0, none⟩ = some (.slice a.b m.table.buckets.length a.bc) ∧ w'.cell? ⟨gx, 1, none⟩ = some (.slice a.f m.table.frames.length a.fc) ∧ w'.cell? ⟨gx, 2, none⟩ = some (.slice a.l m.cache.lines.length a.lc) ∧ w'.cell? ⟨gx, 3, none⟩ = some (.int .i64 m.cache.hand) ∧ w'.cell? ⟨gx, 4, none⟩ = some (.int .i64 m.tags.count) ∧ w'.cell? ⟨gx, 5, none⟩ = some (.int .i64 m.tags.next) ∧ w'.cell? ⟨gx, 6, none⟩ = some (.int .i64 m.tags.round) ∧ w'.cell? ⟨gx, 7, none⟩ = some (.slice a.o m.tags.owns.length a.oc) ∧ w'.cell? ⟨gx, 8, none⟩ = some (.int .i64 m.space))) (first | (refine FK.out _ ?_; with_reducible (first | exact Chg.refl _ _ _ | exact (Chg.refl _ _ _).drew | exact ((Chg.refl _ _ _).alloc _).drew | exact hC2 | exact hC2.alloc _ | exact hC3 | exact hC3.alloc _ | exact hC4 | exact hC4.alloc _ | exact lC5 | exact lC5.alloc _)) | with_reducible exact (Blk.far (Blk.far (Blk.far (Blk.far (Blk.far (Blk.far (Blk.far (Blk.far (Blk.far hX hneX _) hneX _) hneX _) hneX _) hneX _) hneX _) hneX _) hneX _) hneX _).c9 | go_keep) (first
  | (go_at_call 35; (with_reducible refine (CP2.out _ ?_).mono ?_); (repeat' (first | with_reducible exact HRD1.out | with_reducible refine Rdr.alloc ?_ _ | with_reducible refine Rdr.drew ?_)); rintro r w2 ⟨v2, rfl, hv2, hr2, hg2⟩; have hC2 : Chg g (g + 1) w1 w2 := Chg.trans (by with_reducible repeat' (first | exact Chg.refl _ _ _ | exact hC3 | refine Chg.alloc ?_ _ | refine Chg.drew ?_)) (Chg.of_grown hg2 HGR.out); have hz2 := hC2.size)
  | (go_at_call 91; (with_reducible refine (CP3.out _ ?_).mono ?_); (repeat' (first | with_reducible exact hr2 | with_reducible refine Rdr.alloc ?_ _ | with_reducible refine Rdr.drew ?_)); rintro r w3 ⟨v3, rfl, hv3, hr3, hg3⟩; have hC3 : Chg g (g + 1) w1 w3 := Chg.trans (by with_reducible repeat' (first | exact Chg.refl _ _ _ | exact hC2 | refine Chg.alloc ?_ _ | refine Chg.drew ?_)) (Chg.of_grown hg3 HGR.out); have hz3 := hC3.size)
  | (go_at_call 80; (with_reducible refine (keyForS_c v2 v3 _).mono ?_); rintro r w4 ⟨rfl, hb4⟩; have hC4 : Chg g (g + 1) w1 w4 := Chg.trans (by with_reducible repeat' (first | exact Chg.refl _ _ _ | exact hC3 | refine Chg.alloc ?_ _ | refine Chg.drew ?_)) ((Chg.of_ex hb4).mono' _ _); have hr4 : Rdr w4 g (p + 1 + 1 + 1) := Rdr.ex (by with_reducible repeat' (first | exact hr3 | refine Rdr.alloc ?_ _ | refine Rdr.drew ?_)) hb4; have hz4 := hC4.size)
  | (go_at_call 94; (with_reducible refine (CTA.out v2 v3 _ ?_ ?_ ?_).mono ?_); (exact ⟨hv2.1, hv2.2.1 (by omega)⟩); (exact hv3); (refine (FM.out _ ?_).has; repeat' (first | with_reducible exact Chg.refl _ _ _ | with_reducible exact hC4 | with_reducible refine Chg.alloc ?_ _ | with_reducible refine Chg.drew ?_)); rintro r w5 ⟨n, an, ok, rfl, hok, hfn, hb5⟩; have lC5 : Chg g (g + 1) w1 w5 := Chg.trans (by with_reducible repeat' (first | exact Chg.refl _ _ _ | exact hC4 | refine Chg.alloc ?_ _ | refine Chg.drew ?_)) ((Chg.of_ex hb5).mono' _ _); obtain ⟨hO, hR, hX⟩ := FL.out _ lC5; obtain ⟨o0, o1, o2, o3, o4, o5, o6, o7, o8⟩ := hO.c9; have oz := hO.frozen; have ol := hO.lt; obtain ⟨x0, x1, x2, x3, x4, x5, x6, x7, x8⟩ := hX.c9; have xl := hX.lt))
 all_goals (rename_i hHeld; clear hHeld)
 all_goals
  have HC := zq lC5
  have HFN := zq hfn
  have HOKN := zq hok
  have HRE := zq (hr4.ex hb5)
  have EW : Hid (Chg g (g + 1) w w5) := zq (Ew1.out.trans lC5)
  have HZ : Hid (w1.heap.size ≤ w5.heap.size ∧ w1.heap.size ≤ w4.heap.size) := zq ⟨lC5.size, hz4⟩
  obtain ⟨r0, r1, r2, r3, r4, r5, r6, r7, r8⟩ := hR.c9
  have rz := hR.frozen
  have rl := hR.lt
  have hFN : ∀ {E : World}, w4.heap.size ≤ E.heap.size → FrM w5 E.heap.size n an → FrM w5 w1.heap.size n an := fun h1 h2 => FrM.mono h2 (Nat.le_trans hz4 h1)
  replace HFN := zq (hFN (by first | exact Nat.le_refl _ | simp) HFN.out)
  have HNB := zq HFN.out.b.row
  have HNF := zq HFN.out.f.row
  have HNL := zq HFN.out.l.row
  have HNO := zq HFN.out.o.row
  have HMK := zq (FM.out _ lC5)
  clear lC5 hfn hok hR hO hX hb5 hFN
  cases ok
  ·go_wp2
   exact bodyPost_ret (v := .agg #[.slice a.b m.table.buckets.length a.bc, .slice a.f m.table.frames.length a.fc, .slice a.l m.cache.lines.length a.lc, .int .i64 m.cache.hand, .int .i64 m.tags.count, .int .i64 m.tags.next, .int .i64 m.tags.round, .slice a.o m.tags.owns.length a.oc, .int .i64 m.space]) (by simp [results, Tryz.results63, go_sem, *]) rfl
    ⟨m, a, p + 1 + 1 + 1, rfl, HMO.out, ⟨Fr.mono (B := lo) (by with_reducible repeat' (first | exact HMK.out.b | refine Fr.alloc ?_ _ | refine Fr.put ?_ (fun b hb => by have := HINB.out b hb; omega) _)) (Nat.le_refl _), Fr.mono (B := lo) (by with_reducible repeat' (first | exact HMK.out.f | refine Fr.alloc ?_ _ | refine Fr.put ?_ (fun b hb => by have := HINF.out b hb; omega) _)) (Nat.le_refl _), Fr.mono (B := lo) (by with_reducible repeat' (first | exact HMK.out.l | refine Fr.alloc ?_ _ | refine Fr.put ?_ (fun b hb => by have := HINL.out b hb; omega) _)) (Nat.le_refl _), Fr.mono (B := lo) (by with_reducible repeat' (first | exact HMK.out.o | refine Fr.alloc ?_ _ | refine Fr.put ?_ (fun b hb => by have := HINO.out b hb; omega) _)) (Nat.le_refl _)⟩, Rdr.chg (lo := gx + 1) (hi := gx + 1 + 1 + 1) HRE.out (by with_reducible repeat' (first | exact Chg.refl _ _ w5 | refine Chg.alloc ?_ _ | refine Chg.drew ?_ | refine Chg.set ?_ (by omega) _)) (by omega), by omega, Chg.grown (zc EW.out)⟩
  ·go_wp2
   exact bodyPost_ret (v := .agg #[.slice an.b n.table.buckets.length an.bc, .slice an.f n.table.frames.length an.fc, .slice an.l n.cache.lines.length an.lc, .int .i64 n.cache.hand, .int .i64 n.tags.count, .int .i64 n.tags.next, .int .i64 n.tags.round, .slice an.o n.tags.owns.length an.oc, .int .i64 n.space]) (by simp [results, Tryz.results63, go_sem, *]) rfl
    ⟨n, an, p + 1 + 1 + 1, rfl, HOKN.out (by simp), ⟨Fr.mono (B := w1.heap.size) (by with_reducible repeat' (first | exact HFN.out.b | refine Fr.alloc ?_ _ | refine Fr.put ?_ (fun b hb => by have := HNB.out b hb; omega) _)) (by omega), Fr.mono (B := w1.heap.size) (by with_reducible repeat' (first | exact HFN.out.f | refine Fr.alloc ?_ _ | refine Fr.put ?_ (fun b hb => by have := HNF.out b hb; omega) _)) (by omega), Fr.mono (B := w1.heap.size) (by with_reducible repeat' (first | exact HFN.out.l | refine Fr.alloc ?_ _ | refine Fr.put ?_ (fun b hb => by have := HNL.out b hb; omega) _)) (by omega), Fr.mono (B := w1.heap.size) (by with_reducible repeat' (first | exact HFN.out.o | refine Fr.alloc ?_ _ | refine Fr.put ?_ (fun b hb => by have := HNO.out b hb; omega) _)) (by omega)⟩, Rdr.chg (lo := gx + 1) (hi := gx + 1 + 1 + 1) HRE.out (by with_reducible repeat' (first | exact Chg.refl _ _ w5 | refine Chg.alloc ?_ _ | refine Chg.drew ?_ | refine Chg.set ?_ (by omega) _)) (by omega), by omega, Chg.grown (zc EW.out)⟩

/-- What holds at the head of l6Draw's loop. -/
def DrawLoop6 (g gO p : Nat) (w : World) (i : Value) (wr : World) : Prop := ∃ (k : Nat) (m : MachD) (a : MA) (p' : Nat), i = .int .i64 k ∧ k ≤ 15 ∧ MachOk m ∧ Blk wr gO 34 [.slice a.b m.table.buckets.length a.bc, .slice a.f m.table.frames.length a.fc, .slice a.l m.cache.lines.length a.lc, .int .i64 m.cache.hand, .int .i64 m.tags.count, .int .i64 m.tags.next, .int .i64 m.tags.round, .slice a.o m.tags.owns.length a.oc, .int .i64 m.space] ∧ FrM wr w.heap.size m a ∧ Rdr wr g p' ∧ p' + 6 * k ≤ p + 100 ∧ Chg g (g + 1) w wr ∧ Blk wr w.heap.size 34 [.slice none 0 0, .slice none 0 0, .slice none 0 0, .int .i64 0, .int .i64 0, .int .i64 0, .int .i64 0, .slice none 0 0, .int .i64 0]

set_option maxHeartbeats 8000000 in
theorem l6Draw_c (g p : Nat) (w : World) (h : Rdr w g p) (hp : p ≤ 700000) : Calls Tryz.prog 32 #[.pointer (some ⟨g, 0, none⟩)] w (SomeMach g p w.heap.size 100 MachOk w) := by
 have lg := h.lt
 have HR0 := zq h
 clear h
 go_enter Tryz.func32, Tryz.ntmps32
 go_wp2_with fail
 refine name_calls ?_; intro v1 hv1
 have X1 : Hid (Chg (0) (0) w v1) := zx hv1
 have t1 := X1.out.size
 have Ev1 : Hid (Chg g (g + 1) w v1) := zq ((Chg.refl g (g + 1) w).step X1.out (by omega))
 replace HR0 := zq (HR0.out.chg X1.out (by omega))
 have L1 : Hid (Rd v1 (some ⟨w.heap.size + 1, 0, none⟩) ([6, 4, 8] : List Int)) := zq (by rw [hv1]; repeat' (first | exact Rd.lits _ _ _ | exact Rd.lits_at _ _ _ (by simp) | with_reducible refine Rd.alloc ?_ _))
 have KR : Hid (Blk v1 (w.heap.size) 34 [.slice none 0 0, .slice none 0 0, .slice none 0 0, .int .i64 0, .int .i64 0, .int .i64 0, .int .i64 0, .slice none 0 0, .int .i64 0]) := zk hv1
 have lR : w.heap.size < v1.heap.size := KR.out.lt
 clear hv1
 refine (num_c g p _ 0 _ [6, 4, 8] _ HR0.out L1.out (by simp) (by simp) (by omega) (by omega)).mono ?_; rintro r w1 ⟨n1, rfl, hhn1, hrd1, hb1⟩
 have Y1 : Hid (Chg (g) (g + 1) v1 w1) := zq (Chg.of_grown hb1 (fun b hb => by injection hb with hb; omega))
 have s1 := Y1.out.size
 have Ew1 : Hid (Chg g (g + 1) w w1) := zq (Ev1.out.step Y1.out (by omega))
 clear hb1
 replace KR := zq (KR.out.chg Y1.out (by omega))
 clear HR0
 have HRD1 := zq hrd1; clear hrd1
 have HHN1 := zq hhn1; clear hhn1
 obtain ⟨qR0, qR1, qR2, qR3, qR4, qR5, qR6, qR7, qR8⟩ := KR.out.c9
 have jR := KR.out.lt
 go_wp2_with fail
 refine name_calls ?_; intro v2 hv2
 have X2 : Hid (Chg (0) (0) w1 v2) := zx hv2
 have t2 := X2.out.size
 have Ev2 : Hid (Chg g (g + 1) w v2) := zq (Ew1.out.step X2.out (by omega))
 clear qR0 qR1 qR2 qR3 qR4 qR5 qR6 qR7 qR8 jR
 replace KR := zq (KR.out.chg X2.out (by omega))
 replace HRD1 := zq (HRD1.out.chg X2.out (by omega))
 have L2 : Hid (Rd v2 (some ⟨w1.heap.size, 0, none⟩) ([4, 2, 1] : List Int)) := zq (by rw [hv2]; repeat' (first | exact Rd.lits _ _ _ | exact Rd.lits_at _ _ _ (by simp) | with_reducible refine Rd.alloc ?_ _))
 clear hv2
 refine (num_c g (p + 1) _ 0 _ [4, 2, 1] _ HRD1.out L2.out (by simp) (by simp) (by omega) (by omega)).mono ?_; rintro r w2 ⟨n2, rfl, hhn2, hrd2, hb2⟩
 have Y2 : Hid (Chg (g) (g + 1) v2 w2) := zq (Chg.of_grown hb2 (fun b hb => by injection hb with hb; omega))
 have s2 := Y2.out.size
 have Ew2 : Hid (Chg g (g + 1) w w2) := zq (Ev2.out.step Y2.out (by omega))
 clear hb2
 replace KR := zq (KR.out.chg Y2.out (by omega))
 clear HRD1
 have HRD2 := zq hrd2; clear hrd2
 have HHN2 := zq hhn2; clear hhn2
 obtain ⟨qR0, qR1, qR2, qR3, qR4, qR5, qR6, qR7, qR8⟩ := KR.out.c9
 have jR := KR.out.lt
 go_wp2_with fail
 refine name_calls ?_; intro v3 hv3
 have X3 : Hid (Chg (0) (0) w2 v3) := zx hv3
 have t3 := X3.out.size
 have Ev3 : Hid (Chg g (g + 1) w v3) := zq (Ew2.out.step X3.out (by omega))
 clear qR0 qR1 qR2 qR3 qR4 qR5 qR6 qR7 qR8 jR
 replace KR := zq (KR.out.chg X3.out (by omega))
 replace HRD2 := zq (HRD2.out.chg X3.out (by omega))
 have L3 : Hid (Rd v3 (some ⟨w2.heap.size, 0, none⟩) ([3, 2, 4, 1] : List Int)) := zq (by rw [hv3]; repeat' (first | exact Rd.lits _ _ _ | exact Rd.lits_at _ _ _ (by simp) | with_reducible refine Rd.alloc ?_ _))
 clear hv3
 refine (num_c g (p + 1 + 1) _ 0 _ [3, 2, 4, 1] _ HRD2.out L3.out (by simp) (by simp) (by omega) (by omega)).mono ?_; rintro r w3 ⟨n3, rfl, hhn3, hrd3, hb3⟩
 have Y3 : Hid (Chg (g) (g + 1) v3 w3) := zq (Chg.of_grown hb3 (fun b hb => by injection hb with hb; omega))
 have s3 := Y3.out.size
 have Ew3 : Hid (Chg g (g + 1) w w3) := zq (Ev3.out.step Y3.out (by omega))
 clear hb3
 replace KR := zq (KR.out.chg Y3.out (by omega))
 clear HRD2
 have HRD3 := zq hrd3; clear hrd3
 have HHN3 := zq hhn3; clear hhn3
 obtain ⟨qR0, qR1, qR2, qR3, qR4, qR5, qR6, qR7, qR8⟩ := KR.out.c9
 have jR := KR.out.lt
 go_wp2_with fail
 refine name_calls ?_; intro v4 hv4
 have X4 : Hid (Chg (0) (0) w3 v4) := zx hv4
 have t4 := X4.out.size
 have Ev4 : Hid (Chg g (g + 1) w v4) := zq (Ew3.out.step X4.out (by omega))
 clear qR0 qR1 qR2 qR3 qR4 qR5 qR6 qR7 qR8 jR
 replace KR := zq (KR.out.chg X4.out (by omega))
 replace HRD3 := zq (HRD3.out.chg X4.out (by omega))
 have L4 : Hid (Rd v4 (some ⟨w3.heap.size, 0, none⟩) ([2, 3, 1] : List Int)) := zq (by rw [hv4]; repeat' (first | exact Rd.lits _ _ _ | exact Rd.lits_at _ _ _ (by simp) | with_reducible refine Rd.alloc ?_ _))
 clear hv4
 refine (num_c g (p + 1 + 1 + 1) _ 0 _ [2, 3, 1] _ HRD3.out L4.out (by simp) (by simp) (by omega) (by omega)).mono ?_; rintro r w4 ⟨n4, rfl, hhn4, hrd4, hb4⟩
 have Y4 : Hid (Chg (g) (g + 1) v4 w4) := zq (Chg.of_grown hb4 (fun b hb => by injection hb with hb; omega))
 have s4 := Y4.out.size
 have Ew4 : Hid (Chg g (g + 1) w w4) := zq (Ev4.out.step Y4.out (by omega))
 clear hb4
 replace KR := zq (KR.out.chg Y4.out (by omega))
 clear HRD3
 have HRD4 := zq hrd4; clear hrd4
 have HHN4 := zq hhn4; clear hhn4
 obtain ⟨qR0, qR1, qR2, qR3, qR4, qR5, qR6, qR7, qR8⟩ := KR.out.c9
 have jR := KR.out.lt
 have HMO : Hid (MachOk (newMach n1 n2 n3 n4).1) := zq (by
  have h1 := HHN1.out; have h2 := HHN2.out; have h3 := HHN3.out; have h4 := HHN4.out
  simp at h1 h2 h3 h4
  exact newMach_ok (by omega) (by omega) (by omega) (by omega))
 have C5 := zq (newMachS_c n1 n2 n3 n4)
 generalize newMach n1 n2 n3 n4 = q at C5 HMO
 obtain ⟨m0, ok0⟩ := q
 dsimp only at C5 HMO
 go_wp2_with fail
 refine name_calls ?_; intro v5 hv5
 have X5 : Hid (Chg (0) (0) w4 v5) := zx hv5
 have t5 := X5.out.size
 have Ev5 : Hid (Chg g (g + 1) w v5) := zq (Ew4.out.step X5.out (by omega))
 clear qR0 qR1 qR2 qR3 qR4 qR5 qR6 qR7 qR8 jR
 replace KR := zq (KR.out.chg X5.out (by omega))
 replace HRD4 := zq (HRD4.out.chg X5.out (by omega))
 clear hv5
 refine (C5.out _).mono ?_; rintro r w5 ⟨a5, rfl, ⟨hfa, hfb, hfc, hfd⟩, hb5⟩
 have Y5 := zq (Chg.of_ex hb5)
 have s5 := Y5.out.size
 have Ew5 : Hid (Chg g (g + 1) w w5) := zq (Ev5.out.step Y5.out (by omega))
 clear hb5
 replace KR := zq (KR.out.chg Y5.out (by omega))
 replace HRD4 := zq (HRD4.out.chg Y5.out (by omega))
 have HFA := zq hfa; clear hfa
 have WHFA := zq HFA.out.row
 have HFB := zq hfb; clear hfb
 have WHFB := zq HFB.out.row
 have HFC := zq hfc; clear hfc
 have WHFC := zq HFC.out.row
 have HFD := zq hfd; clear hfd
 have WHFD := zq HFD.out.row
 obtain ⟨qR0, qR1, qR2, qR3, qR4, qR5, qR6, qR7, qR8⟩ := KR.out.c9
 have jR := KR.out.lt
 go_wp2_with fail
 refine name_calls ?_; intro v6 hv6
 have X6 : Hid (Chg (0) (0) w5 v6) := zx hv6
 have t6 := X6.out.size
 have Ev6 : Hid (Chg g (g + 1) w v6) := zq (Ew5.out.step X6.out (by omega))
 clear qR0 qR1 qR2 qR3 qR4 qR5 qR6 qR7 qR8 jR
 replace KR := zq (KR.out.chg X6.out (by omega))
 replace HFA := zq (HFA.out.chg X6.out WHFA.out (by omega))
 replace HFB := zq (HFB.out.chg X6.out WHFB.out (by omega))
 replace HFC := zq (HFC.out.chg X6.out WHFC.out (by omega))
 replace HFD := zq (HFD.out.chg X6.out WHFD.out (by omega))
 replace HRD4 := zq (HRD4.out.chg X6.out (by omega))
 have KO : Hid (Blk v6 (w5.heap.size) 34 [.slice a5.b m0.table.buckets.length a5.bc, .slice a5.f m0.table.frames.length a5.fc, .slice a5.l m0.cache.lines.length a5.lc, .int .i64 m0.cache.hand, .int .i64 m0.tags.count, .int .i64 m0.tags.next, .int .i64 m0.tags.round, .slice a5.o m0.tags.owns.length a5.oc, .int .i64 m0.space]) := zk hv6
 have lO : w5.heap.size < v6.heap.size := KO.out.lt
 clear hv6
 refine (pick_c g (p + 1 + 1 + 1 + 1) 10 _ HRD4.out (by omega) (by omega)).mono ?_; rintro r w6 ⟨z6, rfl, hhz6, hrd6, hb6⟩
 have Y6 : Hid (Chg (g) (g + 1) v6 w6) := zq (Chg.of_grown hb6 (fun b hb => by injection hb with hb; omega))
 have s6 := Y6.out.size
 have Ew6 : Hid (Chg g (g + 1) w w6) := zq (Ev6.out.step Y6.out (by omega))
 clear hb6
 replace KR := zq (KR.out.chg Y6.out (by omega))
 replace KO := zq (KO.out.chg Y6.out (by omega))
 replace HFA := zq (HFA.out.chg Y6.out WHFA.out (by omega))
 replace HFB := zq (HFB.out.chg Y6.out WHFB.out (by omega))
 replace HFC := zq (HFC.out.chg Y6.out WHFC.out (by omega))
 replace HFD := zq (HFD.out.chg Y6.out WHFD.out (by omega))
 clear HRD4
 have HRD6 := zq hrd6; clear hrd6
 have HHZ6 := zq hhz6; clear hhz6
 obtain ⟨qR0, qR1, qR2, qR3, qR4, qR5, qR6, qR7, qR8⟩ := KR.out.c9
 have jR := KR.out.lt
 obtain ⟨qO0, qO1, qO2, qO3, qO4, qO5, qO6, qO7, qO8⟩ := KO.out.c9
 have jO := KO.out.lt
 have hz6 : 0 ≤ z6 ∧ z6 < 10 := ⟨HHZ6.out.1, HHZ6.out.2.1 (by omega)⟩
 obtain ⟨k6, rfl⟩ := Int.eq_ofNat_of_zero_le hz6.1
 obtain ⟨gO, hgO⟩ : ∃ gO, gO = w5.heap.size := ⟨_, rfl⟩
 rw [← hgO] at KO lO jO qO0 qO1 qO2 qO3 qO4 qO5 qO6 qO7 qO8 ⊢
 have hgOw : w.heap.size < gO := by omega
 have hgOg : ¬ gO = g := by omega
 have HST : Hid (DrawLoop6 g gO p w (.int .i64 ((6 + k6 : Nat) : Int)) w6) := zq ⟨6 + k6, m0, a5, p + 1 + 1 + 1 + 1 + 1, rfl, by omega, HMO.out, KO.out, ⟨HFA.out.mono (by omega), HFB.out.mono (by omega), HFC.out.mono (by omega), HFD.out.mono (by omega)⟩, HRD6.out, by omega, Ew6.out, KR.out⟩
 have HK6 : Hid ((6 : Int) + (k6 : Int) = ((6 + k6 : Nat) : Int)) := zq (by omega)
 have hk61 : (k6 : Int) < 10 := by omega
 have hk60 : (0 : Int) ≤ (k6 : Int) := by omega
 have hk62 : k6 < 10 := by omega
 clear hgO HHN1 HHN2 HHN3 HHN4 HHZ6 C5 qO0 qO1 qO2 qO3 qO4 qO5 qO6 qO7 qO8 jO lO KO qR0 qR1 qR2 qR3 qR4 qR5 qR6 qR7 qR8 jR KR HFA HFB HFC HFD WHFA WHFB WHFC WHFD HRD6 HMO hz6
 go_wp2
 go_loopw [5] (fun i wr => DrawLoop6 g gO p w i wr) (fun i _ => (intOf i).toNat)
 case atStart => first | exact HST.out | (rw [HK6.out]; exact HST.out)
 case round =>
  clear HST HK6 hk62 hk61 hk60
  obtain ⟨k, m, a, p1, rfl, hk, hmo, hko, hfm, hrd, hp1, hch, hkr⟩ := hrel
  have HMO := zq hmo
  have KO := zq hko
  have HFM := zq hfm
  have HRD := zq hrd
  have Ewr := zq hch
  have KR := zq hkr
  have hsz := Ewr.out.size
  clear hmo hko hfm hrd hch hkr
  by_cases hlt : 0 < k
  ·have hlt' : (0 : Int) < (k : Int) := by omega
   have hkk : (k : Int) - 1 = ((k - 1 : Nat) : Int) := by omega
   have HKK := zq hkk
   clear hkk
   obtain ⟨o0, o1, o2, o3, o4, o5, o6, o7, o8⟩ := KO.out.c9
   have ol := KO.out.lt
   go_wp2_with fail
   refine (l6Step_c g p1 w.heap.size m a _ HRD.out (by omega) (by omega) (by omega) HMO.out HFM.out).mono ?_
   rintro r w2 ⟨n, an, p2, rfl, hno, hfn, hr2, hp2, hg2⟩
   clear o0 o1 o2 o3 o4 o5 o6 o7 o8 ol
   have hC2 : Chg g (g + 1) wr w2 := Chg.of_grown hg2 (fun b hb => by injection hb with hb; omega)
   have KO2 := zq (KO.out.chg hC2 (by omega))
   have KR2 := zq (KR.out.chg hC2 (by omega))
   have Ew2 := zq (Ewr.out.trans hC2)
   have HFN := zq hfn
   have HNO := zq hno
   have HRD2 := zq hr2
   have hs2 := hC2.size
   have HNB := zq (HFN.out.b.off KO2.out (by decide))
   have HNF := zq (HFN.out.f.off KO2.out (by decide))
   have HNL := zq (HFN.out.l.off KO2.out (by decide))
   have HNT := zq (HFN.out.o.off KO2.out (by decide))
   clear hC2 hg2 hfn hno hr2
   obtain ⟨o0, o1, o2, o3, o4, o5, o6, o7, o8⟩ := KO2.out.c9
   have ol := KO2.out.lt
   have oz := KO2.out.frozen
   go_wp2
   go_roundw
   case rel => exact ⟨k - 1, n, an, p2, by first | rfl | (rw [HKK.out]), by omega, HNO.out, Blk.put9 KO2.out, ⟨by repeat' (first | with_reducible exact HFN.out.b | with_reducible refine Fr.put ?_ HNB.out _), by repeat' (first | with_reducible exact HFN.out.f | with_reducible refine Fr.put ?_ HNF.out _), by repeat' (first | with_reducible exact HFN.out.l | with_reducible refine Fr.put ?_ HNL.out _), by repeat' (first | with_reducible exact HFN.out.o | with_reducible refine Fr.put ?_ HNT.out _)⟩, Rdr.chg (lo := gO) (hi := gO + 1) HRD2.out (by with_reducible repeat' (first | exact Chg.refl _ _ w2 | refine Chg.alloc ?_ _ | refine Chg.drew ?_ | refine Chg.set ?_ (by omega) _)) (by omega), by omega, (zc Ew2.out), by repeat' (first | with_reducible exact KR2.out | with_reducible refine Blk.far ?_ (by simp only; omega) _)⟩
   case measure => simp [intOf]; omega
  ·have hk0 : k = 0 := by omega
   subst hk0
   obtain ⟨o0, o1, o2, o3, o4, o5, o6, o7, o8⟩ := KO.out.c9
   have ol := KO.out.lt
   obtain ⟨qR0, qR1, qR2, qR3, qR4, qR5, qR6, qR7, qR8⟩ := KR.out.c9
   have jR := KR.out.lt
   have zR := KR.out.frozen
   have HNB := zq (HFM.out.b.off KR.out (by decide))
   have HNF := zq (HFM.out.f.off KR.out (by decide))
   have HNL := zq (HFM.out.l.off KR.out (by decide))
   have HNT := zq (HFM.out.o.off KR.out (by decide))
   go_wp2
   exact bodyPost_ret (v := .agg #[.slice a.b m.table.buckets.length a.bc, .slice a.f m.table.frames.length a.fc, .slice a.l m.cache.lines.length a.lc, .int .i64 m.cache.hand, .int .i64 m.tags.count, .int .i64 m.tags.next, .int .i64 m.tags.round, .slice a.o m.tags.owns.length a.oc, .int .i64 m.space]) (by simp [results, Tryz.results32, go_sem, *]) rfl
    ⟨m, a, p1, rfl, HMO.out, ⟨by repeat' (first | with_reducible exact HFM.out.b | with_reducible refine Fr.put ?_ HNB.out _), by repeat' (first | with_reducible exact HFM.out.f | with_reducible refine Fr.put ?_ HNF.out _), by repeat' (first | with_reducible exact HFM.out.l | with_reducible refine Fr.put ?_ HNL.out _), by repeat' (first | with_reducible exact HFM.out.o | with_reducible refine Fr.put ?_ HNT.out _)⟩, Rdr.chg (lo := w.heap.size) (hi := w.heap.size + 1) HRD.out (by with_reducible repeat' (first | exact Chg.refl _ _ wr | refine Chg.alloc ?_ _ | refine Chg.drew ?_ | refine Chg.set ?_ (by omega) _)) (by omega), by omega, Chg.grown (zc Ewr.out)⟩

theorem infoInt : (Tryz.prog.info? 3).map (fun i => (i.zero, i.size, i.bytes)) = some (some (.int .i64 0), 1, 8) := by kernel_rfl
theorem one_int (w : World) (z : Int) : Rd (w.alloc (.cells #[.int .i64 z] 3)) (some ⟨w.heap.size, 0, none⟩) [z] := Bk.rd (Bk.new w 3 [z])
theorem Rdr.kept {w w' : World} {g p lo hi : Nat} (h : Rdr w g p) (k : Chg lo hi w w') (h1 : g < lo) : Rdr w' g p := h.chg k (.inl h1)


def SomeTabW (g p nb nf : Nat) (w : World) (e : Ending) (w' : World) : Prop := ∃ (t : TableD) (A : Option Addr) (c : Nat) (B : Option Addr) (d p' : Nat), e = .returned (.agg #[.slice A t.buckets.length c, .slice B t.frames.length d]) ∧ t.buckets.length ≤ nb ∧ t.frames.length ≤ nf ∧ (0 < t.frames.length → 0 < t.buckets.length) ∧ Fr 3 w' w.heap.size A c t.buckets ∧ Fr 45 w' w.heap.size B d t.frames ∧ Rdr w' g p' ∧ p' ≤ p + 10 ∧ w.grownBy w' (some g)

theorem set_key2 {w : World} {gf k : Nat} {ys : List FrameD} {rf : List Value} {x : FrameD} (h : Bk 45 w gf ys rf) (hx : ys[k]? = some x) (q : KeyD) : Bk 45 ((w.setCell ⟨gf, k * 5 + 1, none⟩ (.int .i64 q.space)).setCell ⟨gf, k * 5 + 2, none⟩ (.int .i64 q.page)) gf (ys.set k { x with key := q }) rf := by
 have h1 := Bk.set h (k := k) (j := 1) (off := k * 5 + 1) (u := .int .i64 q.space) (y := { x with key := ⟨q.space, x.key.page⟩ }) hx (by decide) rfl (by simp [sz])
 have h2 := Bk.set h1 (k := k) (j := 2) (x := { x with key := ⟨q.space, x.key.page⟩ }) (off := k * 5 + 2) (u := .int .i64 q.page) (y := { x with key := q }) (by rw [List.getElem?_set_self (getElem?_lt hx)]) (by decide) rfl (by simp [sz])
 rw [List.set_set] at h2
 exact h2

set_option maxHeartbeats 16000000 in
theorem l3Wrong_c (g p : Nat) (t : TableD) (A : Option Addr) (c : Nat) (B : Option Addr) (d : Nat) (w : World) (h : Rdr w g p) (hp : p ≤ 800000) (hx : Rd w A t.buckets) (hy : Rd w B t.frames) (hn : t.buckets.length ≤ 1000) (hm : t.frames.length ≤ 1000) (hz : 0 < t.frames.length → 0 < t.buckets.length) (hc : t.buckets.length ≤ c) (hd : t.frames.length ≤ d) (hc2 : c ≤ maxLen) (hd2 : d ≤ maxLen) :
  Calls Tryz.prog 66 #[.pointer (some ⟨g, 0, none⟩), .agg #[.slice A t.buckets.length c, .slice B t.frames.length d]] w (SomeTabW g p (t.buckets.length + 1) t.frames.length w) := by
 obtain ⟨i0, hi, hz0, hz1, hz2⟩ := info_parts infoMInt
 have lg := h.lt
 have HR0 := zq h
 have C1 := zq (fun w' (h : Ex w w') => l3Copy_c t A c B d w' (hx.ex h) (hy.ex h) (by omega) (by omega) hc hd hc2 hd2)
 have HZB := zq hz
 clear h hx hy hc hd hc2 hd2 hz
 obtain ⟨xs, ys⟩ := t
 dsimp only at C1 HZB hn hm ⊢
 go_enter Tryz.func66, Tryz.ntmps66
 go_wp2_with fail
 refine name_calls ?_; intro v1 hv1
 have X1 : Hid (Chg (0) (0) w v1) := zx hv1
 have t1 := X1.out.size
 have Ev1 : Hid (Chg g (g + 1) w v1) := zq ((Chg.refl g (g + 1) w).step X1.out (by omega))
 replace HR0 := zq (HR0.out.chg X1.out (by omega))
 have KX : Hid (Blk v1 (w.heap.size) 26 [.slice A xs.length c, .slice B ys.length d]) := zk hv1
 have lX : w.heap.size < v1.heap.size := KX.out.lt
 have KR : Hid (Blk v1 (w.heap.size + 1) 26 [.slice none 0 0, .slice none 0 0]) := zk hv1
 have lR : w.heap.size + 1 < v1.heap.size := KR.out.lt
 clear hv1
 refine (C1.out _ X1.out.ex_).mono ?_; rintro r w1 ⟨A1, c1, B1, d1, rfl, hfa, hfb, hb1⟩
 have Y1 := zq (Chg.of_ex hb1)
 have s1 := Y1.out.size
 have Ew1 : Hid (Chg g (g + 1) w w1) := zq (Ev1.out.step Y1.out (by omega))
 clear hb1
 replace KX := zq (KX.out.chg Y1.out (by omega))
 replace KR := zq (KR.out.chg Y1.out (by omega))
 replace HR0 := zq (HR0.out.chg Y1.out (by omega))
 have HFA := zq hfa; clear hfa
 have WHFA := zq HFA.out.row
 have HFB := zq hfb; clear hfb
 have WHFB := zq HFB.out.row
 obtain ⟨qX0, qX1⟩ := KX.out.c2
 have jX := KX.out.lt
 obtain ⟨qR0, qR1⟩ := KR.out.c2
 have jR := KR.out.lt
 have zR := KR.out.frozen
 by_cases h0 : ys.length = 0
 ·have h0' : ((ys.length : Int) == 0) = true := by simp [h0]
  have H0 := zq h0
  clear h0
  go_wp2
  exact bodyPost_ret (v := .agg #[.slice A1 xs.length c1, .slice B1 ys.length d1]) (by first | (simp [results, Tryz.results66, go_sem, *]; done) | (simp [results, Tryz.results66, go_sem, qR0, qR1, jR]; done)) rfl
   ⟨⟨xs, ys⟩, A1, c1, B1, d1, p, rfl, Nat.le_succ _, Nat.le_refl _, HZB.out, (Fr.mono (zp HFA.out WHFA.out) (by omega)), (Fr.mono (zp HFB.out WHFB.out) (by omega)), Rdr.chg (lo := w.heap.size + 1) (hi := w.heap.size + 2) HR0.out (by with_reducible repeat' (first | exact Chg.refl _ _ w1 | refine Chg.alloc ?_ _ | refine Chg.drew ?_ | refine Chg.set ?_ (by omega) _)) (by omega), by omega, Chg.grown (zc Ew1.out)⟩
 have h0' : ((ys.length : Int) == 0) = false := by simp; intro h; rw [h] at h0; simp at h0
 have hx0 : 0 < xs.length := HZB.out (by omega)
 go_wp2_with fail
 refine name_calls ?_; intro v2 hv2
 have X2 : Hid (Chg (0) (0) w1 v2) := zx hv2
 have t2 := X2.out.size
 have Ev2 : Hid (Chg g (g + 1) w v2) := zq (Ew1.out.step X2.out (by omega))
 clear qX0 qX1 jX
 clear qR0 qR1 jR zR
 replace KX := zq (KX.out.chg X2.out (by omega))
 replace KR := zq (KR.out.chg X2.out (by omega))
 replace HFA := zq (HFA.out.chg X2.out WHFA.out (by omega))
 replace HFB := zq (HFB.out.chg X2.out WHFB.out (by omega))
 replace HR0 := zq (HR0.out.chg X2.out (by omega))
 have KO : Hid (Blk v2 (w1.heap.size) 26 [.slice A1 xs.length c1, .slice B1 ys.length d1]) := zk hv2
 have lO : w1.heap.size < v2.heap.size := KO.out.lt
 clear hv2
 refine (pick_c g p ys.length _ HR0.out (by omega) (by omega)).mono ?_; rintro r w2 ⟨k2, rfl, hhk2, hrd2, hb2⟩
 have Y2 : Hid (Chg (g) (g + 1) v2 w2) := zq (Chg.of_grown hb2 (fun b hb => by injection hb with hb; omega))
 have s2 := Y2.out.size
 have Ew2 : Hid (Chg g (g + 1) w w2) := zq (Ev2.out.step Y2.out (by omega))
 clear hb2
 replace KX := zq (KX.out.chg Y2.out (by omega))
 replace KR := zq (KR.out.chg Y2.out (by omega))
 replace KO := zq (KO.out.chg Y2.out (by omega))
 replace HFA := zq (HFA.out.chg Y2.out WHFA.out (by omega))
 replace HFB := zq (HFB.out.chg Y2.out WHFB.out (by omega))
 clear HR0
 have HRD2 := zq hrd2; clear hrd2
 have HHK2 := zq hhk2; clear hhk2
 obtain ⟨qX0, qX1⟩ := KX.out.c2
 have jX := KX.out.lt
 obtain ⟨qR0, qR1⟩ := KR.out.c2
 have jR := KR.out.lt
 have zR := KR.out.frozen
 obtain ⟨qO0, qO1⟩ := KO.out.c2
 have jO := KO.out.lt
 obtain ⟨k, rfl⟩ := Int.eq_ofNat_of_zero_le HHK2.out.1
 have hk : k < ys.length := by have := HHK2.out.2.1 (by omega); omega
 have hk0 : ¬ ((k : Int) < 0) := by omega
 have hkl : (k : Int) < (ys.length : Int) := by omega
 have hx1 : (0 : Int) < (xs.length : Int) := by omega
 obtain ⟨gf, rf, hB1, hgf, hbf, hrf⟩ := HFB.out.open_ hk
 obtain ⟨gb, rb, hA1, hgb, hbb, hrb⟩ := HFA.out.open_ hx0
 subst hA1 hB1
 have HBB := zq hbb
 have HBF := zq hbf
 have HRB := zq hrb
 have HRF := zq hrf
 have hlb := HFA.out.le
 have hlf := HFB.out.le
 have hcb := HFA.out.cap
 have hcf := HFB.out.cap
 obtain ⟨x, hxk⟩ : ∃ x, ys[k]? = some x := ⟨_, List.getElem?_eq_getElem hk⟩
 obtain ⟨y, hy0⟩ : ∃ y, xs[0]? = some y := ⟨_, List.getElem?_eq_getElem hx0⟩
 have HXK := zq hxk
 have HY0 := zq hy0
 have hgbl : gb < w1.heap.size := (WHFA.out gb (rowOf_some (by omega))).2
 have hgfl : gf < w1.heap.size := (WHFB.out gf (rowOf_some (by omega))).2
 have hgf2 : w.heap.size + 1 < gf := by omega
 have hgb2 : w.heap.size + 1 < gb := by omega
 have hne := Bk.ne hbb hbf (by decide)
 have hne' : ¬ gf = gb := fun e => hne e.symm
 clear hbb hbf hrb hrf h0 hxk hy0
 clear HFB WHFB
 go_wp2_with fail
 refine name_calls ?_; intro v3 hv3
 have X3 : Hid (Chg (0) (0) w2 v3) := zx hv3
 have t3 := X3.out.size
 have Ev3 : Hid (Chg g (g + 1) w v3) := zq (Ew2.out.step X3.out (by omega))
 clear qX0 qX1 jX
 clear qR0 qR1 jR zR
 clear qO0 qO1 jO
 replace KX := zq (KX.out.chg X3.out (by omega))
 replace KR := zq (KR.out.chg X3.out (by omega))
 replace KO := zq (KO.out.chg X3.out (by omega))
 replace HFA := zq (HFA.out.chg X3.out WHFA.out (by omega))
 replace HRD2 := zq (HRD2.out.chg X3.out (by omega))
 replace HBB := zq (HBB.out.chg X3.out (by omega))
 replace HBF := zq (HBF.out.chg X3.out (by omega))
 clear hv3
 refine (pick_c g (p + 1) 24 _ HRD2.out (by omega) (by omega)).mono ?_; rintro r w3 ⟨z3, rfl, hhs3, hrd3, hb3⟩
 have Y3 : Hid (Chg (g) (g + 1) v3 w3) := zq (Chg.of_grown hb3 (fun b hb => by injection hb with hb; omega))
 have s3 := Y3.out.size
 have Ew3 : Hid (Chg g (g + 1) w w3) := zq (Ev3.out.step Y3.out (by omega))
 clear hb3
 replace KX := zq (KX.out.chg Y3.out (by omega))
 replace KR := zq (KR.out.chg Y3.out (by omega))
 replace KO := zq (KO.out.chg Y3.out (by omega))
 replace HFA := zq (HFA.out.chg Y3.out WHFA.out (by omega))
 replace HBB := zq (HBB.out.chg Y3.out (by omega))
 replace HBF := zq (HBF.out.chg Y3.out (by omega))
 clear HRD2
 have HRD3 := zq hrd3; clear hrd3
 have HHS3 := zq hhs3; clear hhs3
 obtain ⟨qX0, qX1⟩ := KX.out.c2
 have jX := KX.out.lt
 obtain ⟨qR0, qR1⟩ := KR.out.c2
 have jR := KR.out.lt
 have zR := KR.out.frozen
 obtain ⟨qO0, qO1⟩ := KO.out.c2
 have jO := KO.out.lt
 have hs0 := HHS3.out.1
 obtain ⟨d0, d1', d2, d3, d4⟩ := HBF.out.frame HXK.out
 have e0 := HBB.out.int HY0.out
 have zf := HBF.out.frozen
 have zb := HBB.out.frozen
 have lf := Blk.lt HBF.out
 have lb := Blk.lt HBB.out
 have hOr : ¬ w1.heap.size = gf := by omega
 have hOr' : ¬ gf = w1.heap.size := by omega
 have hOb : ¬ w1.heap.size = gb := by omega
 have hOb' : ¬ gb = w1.heap.size := by omega
 have hRr : ¬ w.heap.size + 1 = gf := by omega
 have hRr' : ¬ gf = w.heap.size + 1 := by omega
 have hRb : ¬ w.heap.size + 1 = gb := by omega
 have hRb' : ¬ gb = w.heap.size + 1 := by omega
 have hRO : ¬ w.heap.size + 1 = w1.heap.size := by omega
 have hRO' : ¬ w1.heap.size = w.heap.size + 1 := by omega
 have hneF : some gf ≠ some g := fun e => by injection e with e; omega
 have hneB : some gb ≠ some g := fun e => by injection e with e; omega
 have hneO : some w1.heap.size ≠ some g := fun e => by injection e with e; omega
 have hneRt : some (w.heap.size + 1) ≠ some g := fun e => by injection e with e; omega
 have hneL : w3.heap.size ≠ g := by omega
 have zO := KO.out.frozen
 by_cases s0 : z3 = 0
 ·subst s0
  have CN : Hid (∀ (b : Nat) (w1 : World), Rdr w1 g (p + 1 + 1) → Rd w1 (some ⟨b, 0, none⟩) ([0, (k : Int), 16, -1] : List Int) → b ≠ g → Calls Tryz.prog 38 #[.pointer (some ⟨g, 0, none⟩), .slice (some ⟨b, 0, none⟩) 4 4] w1 (Chosen g (p + 1 + 1) [0, (k : Int), 16, -1] w1)) := zq (fun b w1 h hz hne => num_c g (p + 1 + 1) b 0 4 [0, (k : Int), 16, -1] w1 h hz (by simp) (by simp) (by omega) hne)
  clear d0 d1' d2 d3 d4 e0 zf lf zb lb zO
  go_wp2_with fail
  go_region_held3 (fun w' => (w'.cell? ⟨w1.heap.size, 0, none⟩ = some (.slice (some ⟨gb, 0, none⟩) xs.length c1) ∧ w'.cell? ⟨w1.heap.size, 1, none⟩ = some (.slice (some ⟨gf, 0, none⟩) ys.length d1))) (first | exact KO.out.c2 | exact (Blk.drew KO.out).c2 | exact ((Blk.drew KO.out).alloc _).c2 | exact hO4.c2 | exact (Blk.far hO4 hOr _).c2 | exact (Blk.far (Blk.far hO4 hOr _) hOr _).c2 | go_keep) (first | (go_at_call 38; (with_reducible refine (CN.out _ _ ?_ ?_ ?_).mono ?_); (exact (Rdr.drew HRD3.out).alloc _); (exact Rd.lits _ _ _); (exact hneL); rintro r w4 ⟨h4, rfl, hv4, hrd4, hg4⟩; have hO4 := Blk.grown ((Blk.drew KO.out).alloc _) hg4 hneO; have hR4 := Blk.grown ((Blk.drew KR.out).alloc _) hg4 hneRt; have hF4 := Bk.grown ((Bk.drew HBF.out).alloc _) hg4 hneF; have hB4 := Bk.grown ((Bk.drew HBB.out).alloc _) hg4 hneB; obtain ⟨d0, d1', d2, d3, d4⟩ := hF4.frame HXK.out; have e0 := hB4.int HY0.out; have zf := hF4.frozen; have lf := Blk.lt hF4; have zb := hB4.frozen; have lb := Blk.lt hB4; obtain ⟨r0, r1⟩ := hR4.c2; have rfz := hR4.frozen; have rl := hR4.lt; obtain ⟨x0, x1⟩ := hO4.c2; have xl := hO4.lt))
  rename_i hHeld
  clear hHeld
  have Y4 : Chg g (g + 1) w3 w4 := ((Chg.refl g (g + 1) w3).drew.alloc _).trans (Chg.of_grown hg4 (fun b hb => by injection hb with hb; omega))
  have Ew4 : Hid (Chg g (g + 1) w w4) := zq (Ew3.out.trans Y4)
  have HRD4 := zq hrd4
  have HF4 := zq hF4
  have HB4 := zq hB4
  have s4 := Y4.size
  clear hg4 hrd4 hF4 hB4 hO4 hR4
  go_wp2
  exact bodyPost_ret (v := .agg #[.slice (some ⟨gb, 0, none⟩) xs.length c1, .slice (some ⟨gf, 0, none⟩) ys.length d1]) (by first | (simp [results, Tryz.results66, go_sem, *]; done) | (simp [results, Tryz.results66, go_sem, qR0, qR1, r0, r1, rl, x0, x1, xl, hRO, hRO']; done)) rfl
     ⟨⟨xs, (ys.set k { x with next := h4 })⟩, some ⟨gb, 0, none⟩, c1, some ⟨gf, 0, none⟩, d1, p + 1 + 1 + 1, by simp, by simp, by simp, (by simpa using HZB.out), Fr.close (xs := xs) (rest := rb) (by repeat' (first | with_reducible refine Bk.alloc ?_ _ | with_reducible refine Bk.drew ?_ | with_reducible refine Bk.far ?_ (by first | (simp; done) | (simp; omega)) _ | exact HB4.out)) (by omega) (by simpa using HRB.out) (by simpa using hlb) hcb, Fr.close (xs := (ys.set k { x with next := h4 })) (rest := rf) (by repeat' (first | with_reducible refine Bk.alloc ?_ _ | with_reducible refine Bk.drew ?_ | with_reducible refine Bk.far ?_ (by first | (simp; done) | (simp; omega)) _ | exact Bk.set (k := k) (j := 4) (off := k * 5 + 4) (u := .int .i64 h4) (y := { x with next := h4 }) HF4.out HXK.out (by decide) rfl (by simp [sz]))) (by omega) (by simpa using HRF.out) (by simpa using hlf) hcf, Rdr.chg (lo := w.heap.size + 1) (hi := w1.heap.size + 1) HRD4.out (by with_reducible repeat' (first | exact Chg.refl _ _ w4 | refine Chg.alloc ?_ _ | refine Chg.drew ?_ | refine Chg.set ?_ (by omega) _)) (by omega), by omega, Chg.grown (zc Ew4.out)⟩
 have b0 : (z3 == 0) = false := by simp [s0]
 by_cases s1 : z3 = 1
 ·subst s1
  cases hxv : x.used
  all_goals
   rw [hxv] at d0
   go_wp2_with fail
   go_region
   go_wp2
  ·exact bodyPost_ret (v := .agg #[.slice (some ⟨gb, 0, none⟩) xs.length c1, .slice (some ⟨gf, 0, none⟩) ys.length d1]) (by first | (simp [results, Tryz.results66, go_sem, *]; done) | (simp [results, Tryz.results66, go_sem, qR0, qR1, qO0, qO1, jR, jO, hRO, hRO']; done)) rfl
     ⟨⟨xs, (ys.set k { x with used := true })⟩, some ⟨gb, 0, none⟩, c1, some ⟨gf, 0, none⟩, d1, p + 1 + 1, by simp, by simp, by simp, (by simpa using HZB.out), Fr.close (xs := xs) (rest := rb) (by repeat' (first | with_reducible refine Bk.alloc ?_ _ | with_reducible refine Bk.drew ?_ | with_reducible refine Bk.far ?_ (by first | (simp; done) | (simp; omega)) _ | exact HBB.out)) (by omega) (by simpa using HRB.out) (by simpa using hlb) hcb, Fr.close (xs := (ys.set k { x with used := true })) (rest := rf) (by repeat' (first | with_reducible refine Bk.alloc ?_ _ | with_reducible refine Bk.drew ?_ | with_reducible refine Bk.far ?_ (by first | (simp; done) | (simp; omega)) _ | exact Bk.set (k := k) (j := 0) (off := k * 5) (u := .bool true) (y := { x with used := true }) HBF.out HXK.out (by decide) rfl (by simp [sz]))) (by omega) (by simpa using HRF.out) (by simpa using hlf) hcf, Rdr.chg (lo := w.heap.size + 1) (hi := w1.heap.size + 1) HRD3.out (by with_reducible repeat' (first | exact Chg.refl _ _ w3 | refine Chg.alloc ?_ _ | refine Chg.drew ?_ | refine Chg.set ?_ (by omega) _)) (by omega), by omega, Chg.grown (zc Ew3.out)⟩
  ·exact bodyPost_ret (v := .agg #[.slice (some ⟨gb, 0, none⟩) xs.length c1, .slice (some ⟨gf, 0, none⟩) ys.length d1]) (by first | (simp [results, Tryz.results66, go_sem, *]; done) | (simp [results, Tryz.results66, go_sem, qR0, qR1, qO0, qO1, jR, jO, hRO, hRO']; done)) rfl
     ⟨⟨xs, (ys.set k { x with used := false })⟩, some ⟨gb, 0, none⟩, c1, some ⟨gf, 0, none⟩, d1, p + 1 + 1, by simp, by simp, by simp, (by simpa using HZB.out), Fr.close (xs := xs) (rest := rb) (by repeat' (first | with_reducible refine Bk.alloc ?_ _ | with_reducible refine Bk.drew ?_ | with_reducible refine Bk.far ?_ (by first | (simp; done) | (simp; omega)) _ | exact HBB.out)) (by omega) (by simpa using HRB.out) (by simpa using hlb) hcb, Fr.close (xs := (ys.set k { x with used := false })) (rest := rf) (by repeat' (first | with_reducible refine Bk.alloc ?_ _ | with_reducible refine Bk.drew ?_ | with_reducible refine Bk.far ?_ (by first | (simp; done) | (simp; omega)) _ | exact Bk.set (k := k) (j := 0) (off := k * 5) (u := .bool false) (y := { x with used := false }) HBF.out HXK.out (by decide) rfl (by simp [sz]))) (by omega) (by simpa using HRF.out) (by simpa using hlf) hcf, Rdr.chg (lo := w.heap.size + 1) (hi := w1.heap.size + 1) HRD3.out (by with_reducible repeat' (first | exact Chg.refl _ _ w3 | refine Chg.alloc ?_ _ | refine Chg.drew ?_ | refine Chg.set ?_ (by omega) _)) (by omega), by omega, Chg.grown (zc Ew3.out)⟩
 have b1 : (z3 == 1) = false := by simp [s1]
 by_cases s2 : z3 = 2
 ·subst s2
  have CN : Hid (∀ (b : Nat) (w1 : World), Rdr w1 g (p + 1 + 1) → Rd w1 (some ⟨b, 0, none⟩) ([0, -1, 16, -2] : List Int) → b ≠ g → Calls Tryz.prog 38 #[.pointer (some ⟨g, 0, none⟩), .slice (some ⟨b, 0, none⟩) 4 4] w1 (Chosen g (p + 1 + 1) [0, -1, 16, -2] w1)) := zq (fun b w1 h hz hne => num_c g (p + 1 + 1) b 0 4 [0, -1, 16, -2] w1 h hz (by simp) (by simp) (by omega) hne)
  clear d0 d1' d2 d3 d4 e0 zf lf zb lb zO
  go_wp2_with fail
  go_region_held3 (fun w' => (w'.cell? ⟨w1.heap.size, 0, none⟩ = some (.slice (some ⟨gb, 0, none⟩) xs.length c1) ∧ w'.cell? ⟨w1.heap.size, 1, none⟩ = some (.slice (some ⟨gf, 0, none⟩) ys.length d1))) (first | exact KO.out.c2 | exact (Blk.drew KO.out).c2 | exact ((Blk.drew KO.out).alloc _).c2 | exact hO4.c2 | exact (Blk.far hO4 hOb _).c2 | exact (Blk.far (Blk.far hO4 hOb _) hOb _).c2 | go_keep) (first | (go_at_call 38; (with_reducible refine (CN.out _ _ ?_ ?_ ?_).mono ?_); (exact (Rdr.drew HRD3.out).alloc _); (exact Rd.lits _ _ _); (exact hneL); rintro r w4 ⟨h4, rfl, hv4, hrd4, hg4⟩; have hO4 := Blk.grown ((Blk.drew KO.out).alloc _) hg4 hneO; have hR4 := Blk.grown ((Blk.drew KR.out).alloc _) hg4 hneRt; have hF4 := Bk.grown ((Bk.drew HBF.out).alloc _) hg4 hneF; have hB4 := Bk.grown ((Bk.drew HBB.out).alloc _) hg4 hneB; obtain ⟨d0, d1', d2, d3, d4⟩ := hF4.frame HXK.out; have e0 := hB4.int HY0.out; have zf := hF4.frozen; have lf := Blk.lt hF4; have zb := hB4.frozen; have lb := Blk.lt hB4; obtain ⟨r0, r1⟩ := hR4.c2; have rfz := hR4.frozen; have rl := hR4.lt; obtain ⟨x0, x1⟩ := hO4.c2; have xl := hO4.lt))
  rename_i hHeld
  clear hHeld
  have Y4 : Chg g (g + 1) w3 w4 := ((Chg.refl g (g + 1) w3).drew.alloc _).trans (Chg.of_grown hg4 (fun b hb => by injection hb with hb; omega))
  have Ew4 : Hid (Chg g (g + 1) w w4) := zq (Ew3.out.trans Y4)
  have HRD4 := zq hrd4
  have HF4 := zq hF4
  have HB4 := zq hB4
  have s4 := Y4.size
  clear hg4 hrd4 hF4 hB4 hO4 hR4
  go_wp2
  exact bodyPost_ret (v := .agg #[.slice (some ⟨gb, 0, none⟩) xs.length c1, .slice (some ⟨gf, 0, none⟩) ys.length d1]) (by first | (simp [results, Tryz.results66, go_sem, *]; done) | (simp [results, Tryz.results66, go_sem, qR0, qR1, r0, r1, rl, x0, x1, xl, hRO, hRO']; done)) rfl
     ⟨⟨(xs.set 0 h4), ys⟩, some ⟨gb, 0, none⟩, c1, some ⟨gf, 0, none⟩, d1, p + 1 + 1 + 1, by simp, by simp, by simp, (by simpa using HZB.out), Fr.close (xs := (xs.set 0 h4)) (rest := rb) (by repeat' (first | with_reducible refine Bk.alloc ?_ _ | with_reducible refine Bk.drew ?_ | with_reducible refine Bk.far ?_ (by first | (simp; done) | (simp; omega)) _ | exact Bk.set (k := 0) (j := 0) (off := 0) (u := .int .i64 h4) (y := h4) HB4.out HY0.out (by decide) rfl (by simp [sz]))) (by omega) (by simpa using HRB.out) (by simpa using hlb) hcb, Fr.close (xs := ys) (rest := rf) (by repeat' (first | with_reducible refine Bk.alloc ?_ _ | with_reducible refine Bk.drew ?_ | with_reducible refine Bk.far ?_ (by first | (simp; done) | (simp; omega)) _ | exact HF4.out)) (by omega) (by simpa using HRF.out) (by simpa using hlf) hcf, Rdr.chg (lo := w.heap.size + 1) (hi := w1.heap.size + 1) HRD4.out (by with_reducible repeat' (first | exact Chg.refl _ _ w4 | refine Chg.alloc ?_ _ | refine Chg.drew ?_ | refine Chg.set ?_ (by omega) _)) (by omega), by omega, Chg.grown (zc Ew4.out)⟩
 have b2 : (z3 == 2) = false := by simp [s2]
 by_cases s3 : z3 = 3
 ·subst s3
  have CK : Hid (∀ w1, Rdr w1 g (p + 1 + 1) → Calls Tryz.prog 98 #[.pointer (some ⟨g, 0, none⟩)] w1 (SomeKey g (p + 1 + 1) w1)) := zq (fun w1 h => l2Draw_c g (p + 1 + 1) w1 h (by omega))
  clear d0 d1' d2 d3 d4 e0 zf lf zb lb zO
  go_wp2_with fail
  go_region_held3 (fun w' => (w'.cell? ⟨w1.heap.size, 0, none⟩ = some (.slice (some ⟨gb, 0, none⟩) xs.length c1) ∧ w'.cell? ⟨w1.heap.size, 1, none⟩ = some (.slice (some ⟨gf, 0, none⟩) ys.length d1))) (first | exact KO.out.c2 | exact (Blk.drew KO.out).c2 | exact ((Blk.drew KO.out).alloc _).c2 | exact hO4.c2 | exact (Blk.far hO4 hOr _).c2 | exact (Blk.far (Blk.far hO4 hOr _) hOr _).c2 | go_keep) (first | (go_at_call 98; (with_reducible refine (CK.out _ ?_).mono ?_); (exact Rdr.drew HRD3.out); rintro r w4 ⟨h4, rfl, hv4, hrd4, hg4⟩; have hO4 := Blk.grown (Blk.drew KO.out) hg4 hneO; have hR4 := Blk.grown (Blk.drew KR.out) hg4 hneRt; have hF4 := Bk.grown (Bk.drew HBF.out) hg4 hneF; have hB4 := Bk.grown (Bk.drew HBB.out) hg4 hneB; obtain ⟨d0, d1', d2, d3, d4⟩ := hF4.frame HXK.out; have e0 := hB4.int HY0.out; have zf := hF4.frozen; have lf := Blk.lt hF4; have zb := hB4.frozen; have lb := Blk.lt hB4; obtain ⟨r0, r1⟩ := hR4.c2; have rfz := hR4.frozen; have rl := hR4.lt; obtain ⟨x0, x1⟩ := hO4.c2; have xl := hO4.lt))
  rename_i hHeld
  clear hHeld
  have Y4 : Chg g (g + 1) w3 w4 := ((Chg.refl g (g + 1) w3).drew).trans (Chg.of_grown hg4 (fun b hb => by injection hb with hb; omega))
  have Ew4 : Hid (Chg g (g + 1) w w4) := zq (Ew3.out.trans Y4)
  have HRD4 := zq hrd4
  have HF4 := zq hF4
  have HB4 := zq hB4
  have s4 := Y4.size
  clear hg4 hrd4 hF4 hB4 hO4 hR4
  go_wp2
  exact bodyPost_ret (v := .agg #[.slice (some ⟨gb, 0, none⟩) xs.length c1, .slice (some ⟨gf, 0, none⟩) ys.length d1]) (by first | (simp [results, Tryz.results66, go_sem, *]; done) | (simp [results, Tryz.results66, go_sem, qR0, qR1, r0, r1, rl, x0, x1, xl, hRO, hRO']; done)) rfl
     ⟨⟨xs, (ys.set k { x with key := h4 })⟩, some ⟨gb, 0, none⟩, c1, some ⟨gf, 0, none⟩, d1, p + 1 + 1 + 2, by simp, by simp, by simp, (by simpa using HZB.out), Fr.close (xs := xs) (rest := rb) (by repeat' (first | with_reducible refine Bk.alloc ?_ _ | with_reducible refine Bk.drew ?_ | with_reducible refine Bk.far ?_ (by first | (simp; done) | (simp; omega)) _ | exact HB4.out)) (by omega) (by simpa using HRB.out) (by simpa using hlb) hcb, Fr.close (xs := (ys.set k { x with key := h4 })) (rest := rf) (by repeat' (first | with_reducible refine Bk.alloc ?_ _ | with_reducible refine Bk.drew ?_ | with_reducible refine Bk.far ?_ (by first | (simp; done) | (simp; omega)) _ | exact set_key2 HF4.out HXK.out h4)) (by omega) (by simpa using HRF.out) (by simpa using hlf) hcf, Rdr.chg (lo := w.heap.size + 1) (hi := w1.heap.size + 1) HRD4.out (by with_reducible repeat' (first | exact Chg.refl _ _ w4 | refine Chg.alloc ?_ _ | refine Chg.drew ?_ | refine Chg.set ?_ (by omega) _)) (by omega), by omega, Chg.grown (zc Ew4.out)⟩
 have b3 : (z3 == 3) = false := by simp [s3]
 by_cases s4 : z3 = 4
 ·subst s4
  have h63 : xs.length + 1 ≤ maxLen := by simp [maxLen]; omega
  have hby : (xs.length + 1) * 8 ≤ 140737488355328 := by omega
  clear d0 d1' d2 d3 d4 e0 zf lf zb lb
  go_wp2_with (at_builtin; refine wpList_append_fr (α := Int) rfl _ _ 23 rfl 3 i0 _ 8 v1.heap.size Tryz.underlying23 hi hz0 hz1 hz2 rfl _ _ _ xs rfl rfl (HFA.out.alloc _) _ 1 1 [-1] rfl rfl (one_int _ _) h63 hby (by simp <;> omega) ?_)
  intro A6 c6 w6 ha
  have HA := zq ha
  clear ha
  have Y6 : Hid (Chg v1.heap.size w1.heap.size w3 w6) := zq (((Chg.refl _ _ w3).alloc _).trans (Chg.of_grown HA.out.grown WHFA.out))
  have WNE6 : Hid (∀ b, rowOf A6 c6 = some b → b ≠ w1.heap.size ∧ b ≠ w.heap.size + 1) := zq (fun b hb => by
   rcases HA.out.row with e | e
   ·rw [hb] at e
    have := WHFA.out b e.symm
    omega
   ·rw [hb] at e
    injection e with e
    simp at e
    omega)
  have HF6 : Hid (Bk 45 w6 gf ys rf) := zq (Blk.grown (Bk.alloc HBF.out _) HA.out.grown (fun e => by
   unfold rowOf at e
   split at e
   ·cases e
   ·injection e with e; exact hne' e))
  clear HFA WHFA
  clear HBB
  clear HBF
  have s6 := Y6.out.size
  have Ew6 : Hid (Chg g (g + 1) w w6) := zq (Ew3.out.step Y6.out (by omega))
  clear qX0 qX1 jX
  clear qR0 qR1 jR zR
  clear qO0 qO1 jO
  replace KX := zq (KX.out.chg Y6.out (by omega))
  replace KR := zq (KR.out.chg Y6.out (by omega))
  replace KO := zq (KO.out.chg Y6.out (by omega))
  replace HRD3 := zq (HRD3.out.chg Y6.out (by omega))
  obtain ⟨qX0, qX1⟩ := KX.out.c2
  have jX := KX.out.lt
  obtain ⟨qR0, qR1⟩ := KR.out.c2
  have jR := KR.out.lt
  have zR := KR.out.frozen
  obtain ⟨qO0, qO1⟩ := KO.out.c2
  have jO := KO.out.lt
  have HB6 := zq HA.out.fr
  have hle6 := HB6.out.le
  clear HA
  rw [List.length_append] at hle6
  have zO := KO.out.frozen
  have zR := KR.out.frozen
  go_wp2
  exact bodyPost_ret (v := .agg #[.slice A6 (xs.length + 1) c6, .slice (some ⟨gf, 0, none⟩) ys.length d1]) (by first | (simp [results, Tryz.results66, go_sem, *]; done) | (simp [results, Tryz.results66, go_sem, qR0, qR1]; done)) rfl
   ⟨⟨xs ++ [-1], ys⟩, A6, c6, some ⟨gf, 0, none⟩, d1, p + 1 + 1, by simp, by simp, Nat.le_refl _, (by simp), Fr.mono (B := v1.heap.size) (by with_reducible repeat' (first | exact HB6.out | refine Fr.drew ?_ | refine Fr.alloc ?_ _ | refine Fr.put ?_ (fun b hb => by have := WNE6.out b hb; omega) _)) (by omega), Fr.close (xs := ys) (rest := rf) (by repeat' (first | with_reducible refine Bk.alloc ?_ _ | with_reducible refine Bk.drew ?_ | with_reducible refine Bk.far ?_ (by first | (simp; done) | (simp; omega)) _ | exact HF6.out)) (by omega) HRF.out hlf hcf, Rdr.chg (lo := w.heap.size + 1) (hi := w1.heap.size + 1) HRD3.out (by with_reducible repeat' (first | exact Chg.refl _ _ w6 | refine Chg.alloc ?_ _ | refine Chg.drew ?_ | refine Chg.set ?_ (by omega) _)) (by omega), by omega, Chg.grown (zc Ew6.out)⟩
 have b4 : (z3 == 4) = false := by simp [s4]
 by_cases s5 : z3 = 5
 ·subst s5
  go_wp2
  exact bodyPost_ret (v := .agg #[.slice (some ⟨gb, 0, none⟩) xs.length c1, .slice (some ⟨w3.heap.size, 0, none⟩) 0 0]) (by first | (simp [results, Tryz.results66, go_sem, *]; done) | (simp [results, Tryz.results66, go_sem, qR0, qR1, qO0, qO1, jR, jO, hRO, hRO']; done)) rfl
   ⟨⟨xs, []⟩, some ⟨gb, 0, none⟩, c1, some ⟨w3.heap.size, 0, none⟩, 0, p + 1 + 1, rfl, Nat.le_succ _, Nat.zero_le _, (by simp), Fr.close (xs := xs) (rest := rb) (by repeat' (first | with_reducible refine Bk.alloc ?_ _ | with_reducible refine Bk.drew ?_ | with_reducible refine Bk.far ?_ (by first | (simp; done) | (simp; omega)) _ | exact HBB.out)) (by omega) HRB.out hlb hcb, ⟨Nat.le_refl _, Nat.zero_le _, .inl rfl⟩, Rdr.chg (lo := w.heap.size + 1) (hi := w1.heap.size + 1) HRD3.out (by with_reducible repeat' (first | exact Chg.refl _ _ w3 | refine Chg.alloc ?_ _ | refine Chg.drew ?_ | refine Chg.set ?_ (by omega) _)) (by omega), by omega, Chg.grown (zc Ew3.out)⟩
 have b5 : (z3 == 5) = false := by simp [s5]
 go_wp2
 exact bodyPost_ret (v := .agg #[.slice (some ⟨gb, 0, none⟩) xs.length c1, .slice (some ⟨gf, 0, none⟩) ys.length d1]) (by first | (simp [results, Tryz.results66, go_sem, *]; done) | (simp [results, Tryz.results66, go_sem, qR0, qR1, qO0, qO1, jR, jO, hRO, hRO']; done)) rfl
     ⟨⟨xs, ys⟩, some ⟨gb, 0, none⟩, c1, some ⟨gf, 0, none⟩, d1, p + 1 + 1, by simp, by simp, by simp, (by simpa using HZB.out), Fr.close (xs := xs) (rest := rb) (by repeat' (first | with_reducible refine Bk.alloc ?_ _ | with_reducible refine Bk.drew ?_ | with_reducible refine Bk.far ?_ (by first | (simp; done) | (simp; omega)) _ | exact HBB.out)) (by omega) (by simpa using HRB.out) (by simpa using hlb) hcb, Fr.close (xs := ys) (rest := rf) (by repeat' (first | with_reducible refine Bk.alloc ?_ _ | with_reducible refine Bk.drew ?_ | with_reducible refine Bk.far ?_ (by first | (simp; done) | (simp; omega)) _ | exact HBF.out)) (by omega) (by simpa using HRF.out) (by simpa using hlf) hcf, Rdr.chg (lo := w.heap.size + 1) (hi := w1.heap.size + 1) HRD3.out (by with_reducible repeat' (first | exact Chg.refl _ _ w3 | refine Chg.alloc ?_ _ | refine Chg.drew ?_ | refine Chg.set ?_ (by omega) _)) (by omega), by omega, Chg.grown (zc Ew3.out)⟩
end Go.Proofs.YtbdlpbladpppjaaGreatDoor
